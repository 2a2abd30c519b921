/-
 Plain laws. No program in sight.
-/
import Derived.Lib.ParseIntB
import Derived.Lib.ItoaNum
import Derived.Lib.Bytealg
import Derived.Test.YtoladeanenmepaaGreatDoorPd
import Derived.Test.YtoladeanenmepaaGreatDoorLgQ
import Derived.Test.YtoladeanenmepaaGreatDoorPe
import Derived.KernelRfl
set_option linter.unusedVariables false
set_option linter.unusedSimpArgs false
namespace Go.Proofs.YtoladeanenmepaaGreatDoor.LG
open Go Go.Lib

def dg (c : UInt8) : Bool := decide (48 ≤ c.toNat ∧ c.toNat ≤ 57)
def val (acc : Nat) (l : List UInt8) : Nat := l.foldl (fun a c => a * 10 + (c.toNat - 48)) acc
theorem val_snoc (acc : Nat) (l : List UInt8) (c : UInt8) : val acc (l ++ [c]) = val acc l * 10 + (c.toNat - 48) := by simp [val]
theorem parse_eq : ∀ (l : List UInt8) (acc : Nat), (acc + 1) * 10 ^ l.length ≤ 4294967296 →
  (l.all dg = true → parseUintM (2 ^ 32 - 1) acc l = .ok (val acc l)) ∧ (l.all dg = false → ∀ u, parseUintM (2 ^ 32 - 1) acc l ≠ .ok u ∧ parseUintM (2 ^ 32 - 1) acc l ≠ .range)
 | [], acc, h => ⟨fun _ => rfl, fun h => by simp at h⟩
 | c :: l, acc, h => by
  have hp : 1 ≤ 10 ^ l.length := Nat.one_le_pow _ _ (by decide)
  have hs : (acc + 1) * 10 * 10 ^ l.length ≤ 4294967296 := by
   rw [List.length_cons, Nat.pow_succ] at h
   rw [Nat.mul_assoc, Nat.mul_comm 10 (10 ^ l.length)]
   exact h
  have hb : (acc + 1) * 10 ≤ 4294967296 := Nat.le_trans (Nat.le_mul_of_pos_right _ hp) hs
  unfold parseUintM
  by_cases hc : 48 ≤ c.toNat ∧ c.toNat ≤ 57
  ·have ih := parse_eq l (acc * 10 + (c.toNat - 48)) (Nat.le_trans (Nat.mul_le_mul_right _ (by omega)) hs)
   rw [if_pos hc, if_neg (by omega), if_neg (by omega)]
   have hd : dg c = true := by simp [dg, hc]
   simp only [List.all_cons, hd, Bool.true_and]
   exact ih
  ·have hd : dg c = false := by simp only [dg, decide_eq_false_iff_not]; exact hc
   rw [if_neg hc]
   simp only [List.all_cons, hd, Bool.false_and]
   exact ⟨fun h => by simp at h, fun _ u => ⟨by simp, by simp⟩⟩
theorem toNat_digit {u : Nat} (h : u < 10) : (UInt8.ofNat (48 + u)).toNat = 48 + u := by
 rw [UInt8.toNat_ofNat']
 omega
theorem decDigits_small {u : Nat} (h : u < 10) : decDigits u = [UInt8.ofNat (48 + u)] := by rw [decDigits, dif_pos h]
theorem decDigits_big {u : Nat} (h : ¬ u < 10) : decDigits u = decDigits (u / 10) ++ [UInt8.ofNat (48 + u % 10)] := by rw [decDigits, dif_neg h]
theorem dec_ne (u : Nat) : decDigits u ≠ [] := by
 by_cases h : u < 10
 ·rw [decDigits_small h]; simp
 ·rw [decDigits_big h]; simp
theorem dec_dg (u : Nat) : (decDigits u).all dg = true := by
 induction u using Nat.strongRecOn with
 | _ u ih =>
  by_cases h : u < 10
  ·rw [decDigits_small h]
   have := toNat_digit h
   simp [dg, this]; omega
  ·rw [decDigits_big h, List.all_append, ih (u / 10) (by omega)]
   have := toNat_digit (u := u % 10) (by omega)
   simp [dg, this]; omega
theorem dec_val (u : Nat) : val 0 (decDigits u) = u := by
 induction u using Nat.strongRecOn with
 | _ u ih =>
  by_cases h : u < 10
  ·rw [decDigits_small h]
   show 0 * 10 + ((UInt8.ofNat (48 + u)).toNat - 48) = u
   rw [toNat_digit h]; omega
  ·rw [decDigits_big h, val_snoc, ih (u / 10) (by omega), toNat_digit (u := u % 10) (by omega)]
   omega
theorem dec_len : ∀ (k u : Nat), u < 10 ^ (k + 1) → (decDigits u).length ≤ k + 1
 | 0, u, h => by rw [decDigits_small (by simpa using h)]; simp
 | k + 1, u, h => by
  by_cases hu : u < 10
  ·rw [decDigits_small hu]; simp
  ·rw [Nat.pow_succ] at h
   rw [decDigits_big hu, List.length_append, List.length_singleton]
   have := dec_len k (u / 10) (by omega)
   omega
theorem dec_head (u : Nat) (h : 1 ≤ u) : ∃ c r, decDigits u = c :: r ∧ 49 ≤ c.toNat := by
 induction u using Nat.strongRecOn with
 | _ u ih =>
  by_cases hu : u < 10
  ·exact ⟨_, _, decDigits_small hu, by rw [toNat_digit hu]; omega⟩
  ·obtain ⟨c, r, hc, h1⟩ := ih (u / 10) (by omega) (by omega)
   exact ⟨c, r ++ [UInt8.ofNat (48 + u % 10)], by rw [decDigits_big hu, hc]; rfl, h1⟩
theorem snoc_cases {α : Type} (l : List α) : l = [] ∨ ∃ r c, l = r ++ [c] := by
 rcases List.eq_nil_or_concat l with h | ⟨r, c, h⟩
 ·exact .inl h
 ·exact .inr ⟨r, c, by simpa using h⟩
theorem ofNat_toNat' (c : UInt8) (h : 48 ≤ c.toNat) : UInt8.ofNat (48 + (c.toNat - 48)) = c := by
 rw [show 48 + (c.toNat - 48) = c.toNat by omega]
 simp
theorem dec_of : ∀ (n : Nat) (l : List UInt8), l.length = n → l.all dg = true → (∀ c r, l = c :: r → 49 ≤ c.toNat) → l ≠ [] → decDigits (val 0 l) = l ∧ 1 ≤ val 0 l
 | n, l, hn, ha, hh, h0 => by
  rcases snoc_cases l with rfl | ⟨r, c, rfl⟩
  ·exact absurd rfl h0
  ·rw [List.all_append, Bool.and_eq_true] at ha
   obtain ⟨ha, hc⟩ := ha
   have hc : 48 ≤ c.toNat ∧ c.toNat ≤ 57 := by simpa [dg] using hc
   rw [val_snoc]
   by_cases hr : r = []
   ·subst hr
    have h1 : 49 ≤ c.toNat := hh c [] rfl
    have e : val 0 [] * 10 + (c.toNat - 48) = c.toNat - 48 := by simp [val]
    rw [e, decDigits_small (by omega), ofNat_toNat' c hc.1]
    exact ⟨rfl, by omega⟩
   ·have ih := dec_of (n - 1) r (by simp at hn; omega) ha (fun c' r' e => hh c' (r' ++ [c]) (by rw [e]; rfl)) hr
    have e1 : (val 0 r * 10 + (c.toNat - 48)) / 10 = val 0 r := by omega
    have e2 : (val 0 r * 10 + (c.toNat - 48)) % 10 = c.toNat - 48 := by omega
    rw [decDigits_big (by omega), e1, e2, ih.1, ofNat_toNat' c hc.1]
    exact ⟨rfl, by omega⟩
 termination_by n => n
 decreasing_by
  rename_i hlt _ _ _
  simp at hn
  omega

theorem index_spec (c : UInt8) : ∀ l : List UInt8, (indexByte l c = -1 ∧ c ∉ l) ∨ ∃ a b, l = a ++ c :: b ∧ c ∉ a ∧ indexByte l c = (a.length : Int)
 | [] => .inl ⟨rfl, by simp⟩
 | x :: l => by
  by_cases hx : x = c
  ·subst hx
   exact .inr ⟨[], l, rfl, by simp, by simp [indexByte]⟩
  ·have hb : (x == c) = false := by simpa using hx
   rcases index_spec c l with ⟨h1, h2⟩ | ⟨a, b, rfl, h2, h3⟩
   ·exact .inl ⟨by simp [indexByte, hb, h1], by simp only [List.mem_cons, not_or]; exact ⟨fun e => hx e.symm, h2⟩⟩
   ·refine .inr ⟨x :: a, b, rfl, by simp only [List.mem_cons, not_or]; exact ⟨fun e => hx e.symm, h2⟩, ?_⟩
    have h4 : ((a.length : Int) == -1) = false := by
     rw [beq_eq_false_iff_ne]; omega
    simp only [indexByte, hb, h3, h4, List.length_cons, Bool.false_eq_true, if_false]
    omega
def refL (l : List UInt8) : Nat × Nat :=
 match l with
 | [] => (0, 0)
 | b :: r =>
  if b.toNat = 64 then
   let e := indexByte r 64
   if e < 1 ∨ 8 < e ∨ (r.headD 0).toNat < 49 then (0, 0)
   else match parseUintB 32 (r.take e.toNat) with
    | .ok u => if 1000000 < u then (0, 0) else (u, e.toNat + 2)
    | _ => (0, 0)
  else (0, 0)
def word (n : Nat) : List UInt8 := 64 :: (decDigits n ++ [64])
def IsRef (l : List UInt8) (n : Nat) : Prop := 1 ≤ n ∧ n ≤ 1000000 ∧ ∃ r, l = word n ++ r
theorem no64 (n : Nat) : (64 : UInt8) ∉ decDigits n := fun h => by
 have := List.all_eq_true.1 (dec_dg n) _ h
 revert this; decide
theorem cut64 {a b c d : List UInt8} (ha : (64 : UInt8) ∉ a) (hc : (64 : UInt8) ∉ c) (h : a ++ 64 :: b = c ++ 64 :: d) : a = c ∧ b = d := by
 induction a generalizing c with
 | nil =>
  cases c with
  | nil => exact ⟨rfl, by simpa using h⟩
  | cons y c => simp at h; exact absurd (List.mem_cons.2 (.inl h.1)) hc
 | cons x a ih =>
  cases c with
  | nil => simp at h; exact absurd (List.mem_cons.2 (.inl h.1.symm)) ha
  | cons y c =>
   simp at h
   obtain ⟨rfl, h⟩ := h
   obtain ⟨e1, e2⟩ := ih (fun hh => ha (List.mem_cons_of_mem _ hh)) (fun hh => hc (List.mem_cons_of_mem _ hh)) h
   exact ⟨by rw [e1], e2⟩
theorem isRef_iff {r : List UInt8} {n : Nat} : IsRef (64 :: r) n ↔ 1 ≤ n ∧ n ≤ 1000000 ∧ ∃ b, r = decDigits n ++ 64 :: b := by
 unfold IsRef word
 refine ⟨fun ⟨h1, h2, b, hb⟩ => ⟨h1, h2, b, ?_⟩, fun ⟨h1, h2, b, hb⟩ => ⟨h1, h2, b, ?_⟩⟩
 ·simpa using hb
 ·simp [hb]
theorem word_len (n : Nat) : (word n).length = (decDigits n).length + 2 := by simp [word]
theorem headD_app {a : List UInt8} (b : List UInt8) (h : a ≠ []) : ∃ c r, a = c :: r ∧ (a ++ b).headD 0 = c := by
 cases a with
 | nil => exact absurd rfl h
 | cons c r => exact ⟨c, r, rfl, rfl⟩
theorem ref_spec (l : List UInt8) : (∃ n, IsRef l n ∧ refL l = (n, (word n).length)) ∨ ((∀ n, ¬ IsRef l n) ∧ refL l = (0, 0)) := by
 cases l with
 | nil => exact .inr ⟨fun n ⟨_, _, r, h⟩ => by simp [word] at h, rfl⟩
 | cons x r =>
  by_cases hx : x.toNat = 64
  ·have hx' : x = 64 := UInt8.toNat_inj.1 hx
   subst hx'
   have hu : refL (64 :: r) = if indexByte r 64 < 1 ∨ 8 < indexByte r 64 ∨ (r.headD 0).toNat < 49 then (0, 0) else match parseUintB 32 (r.take (indexByte r 64).toNat) with
    | .ok u => if 1000000 < u then (0, 0) else (u, (indexByte r 64).toNat + 2)
    | _ => (0, 0) := rfl
   rw [hu]
   rcases index_spec 64 r with ⟨h1, h2⟩ | ⟨a, b, rfl, h2, h3⟩
   ·refine .inr ⟨fun n hn => ?_, by rw [if_pos (by rw [h1]; omega)]⟩
    obtain ⟨_, _, b, rfl⟩ := isRef_iff.1 hn
    exact h2 (by simp)
   ·have key : ∀ n, IsRef (64 :: (a ++ 64 :: b)) n ↔ 1 ≤ n ∧ n ≤ 1000000 ∧ a = decDigits n := by
     intro n
     rw [isRef_iff]
     refine ⟨fun ⟨p, q, b', hb⟩ => ⟨p, q, (cut64 h2 (no64 n) hb).1⟩, fun ⟨p, q, e⟩ => ⟨p, q, b, by rw [e]⟩⟩
    rw [h3]
    have ht : (a ++ 64 :: b).take (a.length : Int).toNat = a := by simp
    rw [ht]
    by_cases hc : (a.length : Int) < 1 ∨ 8 < (a.length : Int) ∨ ((a ++ 64 :: b).headD 0).toNat < 49
    ·rw [if_pos hc]
     refine .inr ⟨fun n hn => ?_, rfl⟩
     obtain ⟨p, q, rfl⟩ := (key n).1 hn
     have l1 := dec_len 6 n (by omega)
     obtain ⟨c, r', hcr, h49⟩ := dec_head n p
     rw [hcr] at hc l1
     simp at hc l1
     omega
    ·rw [if_neg hc]
     have hne : a ≠ [] := by
      intro e; subst e; simp at hc
     obtain ⟨c, r', hcr, hhd⟩ := headD_app (64 :: b) hne
     rw [hhd] at hc
     have hlen : a.length ≤ 8 := by omega
     have hpw : (0 + 1) * 10 ^ a.length ≤ 4294967296 := by
      have := Nat.pow_le_pow_right (n := 10) (by omega) hlen
      omega
     obtain ⟨p1, p2⟩ := parse_eq a 0 hpw
     have hpb : parseUintB 32 a = parseUintM (2 ^ 32 - 1) 0 a := by unfold parseUintB; rw [if_neg hne]
     rw [hpb]
     cases hd : a.all dg with
     | true =>
      rw [p1 hd]
      obtain ⟨e1, e2⟩ := dec_of a.length a rfl hd (fun c' r'' e => by
       rw [hcr] at e
       cases e
       omega) hne
      by_cases hm : 1000000 < val 0 a
      ·simp only [if_pos hm]
       refine .inr ⟨fun n hn => ?_, trivial⟩
       obtain ⟨p, q, e⟩ := (key n).1 hn
       rw [e, dec_val] at hm
       omega
      ·simp only [if_neg hm]
       refine .inl ⟨val 0 a, (key _).2 ⟨e2, by omega, e1.symm⟩, ?_⟩
       rw [word_len, e1]
       simp
     | false =>
      have hno := p2 hd
      refine .inr ⟨fun n hn => ?_, ?_⟩
      ·obtain ⟨p, q, rfl⟩ := (key n).1 hn
       rw [dec_dg] at hd
       cases hd
      ·cases hp : parseUintM (2 ^ 32 - 1) 0 a with
       | ok u => exact absurd hp (hno u).1
       | _ => rfl
  ·refine .inr ⟨fun n ⟨_, _, r', h⟩ => ?_, by simp only [refL]; rw [if_neg hx]⟩
   simp [word] at h
   exact hx (by rw [h.1]; rfl)
theorem ref_uni {l : List UInt8} {n m : Nat} (h : IsRef l n) (k : IsRef l m) : n = m := by
 obtain ⟨_, _, r, rfl⟩ := h
 obtain ⟨_, _, r', h'⟩ := k
 have h2 : decDigits n ++ 64 :: r = decDigits m ++ 64 :: r' := by simpa [word] using h'
 rw [← dec_val n, ← dec_val m, (cut64 (no64 n) (no64 m) h2).1]
theorem ref_yes {l : List UInt8} {n : Nat} (h : IsRef l n) : refL l = (n, (word n).length) := by
 rcases ref_spec l with ⟨m, hm, e⟩ | ⟨hno, _⟩
 ·rw [ref_uni h hm]; exact e
 ·exact absurd h (hno n)
theorem ref_no {l : List UInt8} (h : ∀ n, ¬ IsRef l n) : refL l = (0, 0) := by
 rcases ref_spec l with ⟨m, hm, e⟩ | ⟨_, e⟩
 ·exact absurd hm (h m)
 ·exact e
theorem ref_len (l : List UInt8) : (refL l).2 ≤ l.length := by
 rcases ref_spec l with ⟨m, ⟨_, _, r, rfl⟩, e⟩ | ⟨_, e⟩
 ·rw [e, List.length_append]; omega
 ·rw [e]; omega

def stp (l : List UInt8) : Nat := max (refL l).2 1
theorem stp_pos (l : List UInt8) : 1 ≤ stp l := by unfold stp; omega
theorem stp_le {l : List UInt8} (h : l ≠ []) : stp l ≤ l.length := by
 have := ref_len l
 have : 1 ≤ l.length := List.length_pos_iff.2 h
 unfold stp; omega
def partsL (l : List UInt8) : List (List UInt8 × Nat) :=
 if h : l = [] then [] else (l.take (stp l), (refL l).1) :: partsL (l.drop (stp l))
 termination_by l.length
 decreasing_by
  have := stp_pos l
  have : 1 ≤ l.length := List.length_pos_iff.2 h
  rw [List.length_drop]; omega
theorem parts_nil : partsL [] = [] := by rw [partsL]; simp
theorem parts_cons {l : List UInt8} (h : l ≠ []) : partsL l = (l.take (stp l), (refL l).1) :: partsL (l.drop (stp l)) := by rw [partsL]; simp [h]
theorem parts_ref {n : Nat} (r : List UInt8) (h1 : 1 ≤ n) (h2 : n ≤ 1000000) : partsL (word n ++ r) = (word n, n) :: partsL r := by
 have hr := ref_yes (l := word n ++ r) ⟨h1, h2, r, rfl⟩
 have hs : stp (word n ++ r) = (word n).length := by
  unfold stp; rw [hr, word_len]; simp
 rw [parts_cons (by simp [word]), hs, hr]
 simp
theorem parts_byte {b : UInt8} {r : List UInt8} (h : ∀ n, ¬ IsRef (b :: r) n) : partsL (b :: r) = ([b], 0) :: partsL r := by
 have hr := ref_no h
 have hs : stp (b :: r) = 1 := by unfold stp; rw [hr]; simp
 rw [parts_cons (by simp), hs, hr]
 simp
def idsL (l : List UInt8) : List Int := (partsL l).filterMap fun p => if 0 < p.2 then some (p.2 : Int) else none
def fillL (f : Nat → List UInt8) (l : List UInt8) : List UInt8 := (partsL l).flatMap fun p => if 0 < p.2 then f p.2 else p.1
theorem ids_nil : idsL [] = [] := by simp [idsL, parts_nil]
theorem fill_nil (f : Nat → List UInt8) : fillL f [] = [] := by simp [fillL, parts_nil]
theorem ids_ref {n : Nat} (r : List UInt8) (h1 : 1 ≤ n) (h2 : n ≤ 1000000) : idsL (word n ++ r) = (n : Int) :: idsL r := by
 have h0 : 0 < n := by omega
 unfold idsL; rw [parts_ref r h1 h2, List.filterMap_cons]; simp only [if_pos h0]
theorem fill_ref (f : Nat → List UInt8) {n : Nat} (r : List UInt8) (h1 : 1 ≤ n) (h2 : n ≤ 1000000) : fillL f (word n ++ r) = f n ++ fillL f r := by
 have h0 : 0 < n := by omega
 unfold fillL; rw [parts_ref r h1 h2, List.flatMap_cons]; simp only [if_pos h0]
theorem ids_byte {b : UInt8} {r : List UInt8} (h : ∀ n, ¬ IsRef (b :: r) n) : idsL (b :: r) = idsL r := by
 unfold idsL; rw [parts_byte h]; simp
theorem fill_byte (f : Nat → List UInt8) {b : UInt8} {r : List UInt8} (h : ∀ n, ¬ IsRef (b :: r) n) : fillL f (b :: r) = b :: fillL f r := by
 unfold fillL; rw [parts_byte h]; simp
theorem text_rec {C : List UInt8 → Prop} (nil : C []) (ref : ∀ n r, 1 ≤ n → n ≤ 1000000 → C r → C (word n ++ r)) (byte : ∀ b r, (∀ n, ¬ IsRef (b :: r) n) → C r → C (b :: r)) : ∀ (k : Nat) (l : List UInt8), l.length = k → C l := by
 intro k
 induction k using Nat.strongRecOn with
 | _ k ih =>
  intro l hk
  cases l with
  | nil => exact nil
  | cons b r =>
   rcases ref_spec (b :: r) with ⟨n, ⟨h1, h2, r', hr⟩, _⟩ | ⟨hno, _⟩
   ·rw [hr]
    have hl : r'.length < k := by
     have := congrArg List.length hr
     rw [List.length_append, word_len] at this
     omega
    exact ref n r' h1 h2 (ih _ hl r' rfl)
   ·exact byte b r hno (ih r.length (by simp at hk; omega) r rfl)
theorem ids_range (l : List UInt8) : ∀ n ∈ idsL l, 1 ≤ n ∧ n ≤ 1000000 := by
 refine text_rec (C := fun l => ∀ n ∈ idsL l, 1 ≤ n ∧ n ≤ 1000000) ?_ ?_ ?_ _ l rfl
 ·rw [ids_nil]; simp
 ·intro n r h1 h2 ih m hm
  rw [ids_ref r h1 h2] at hm
  rcases List.mem_cons.1 hm with rfl | hm
  ·omega
  ·exact ih m hm
 ·intro b r h ih m hm
  rw [ids_byte h] at hm
  exact ih m hm
theorem ids_len (l : List UInt8) : (idsL l).length ≤ l.length := by
 refine text_rec (C := fun l => (idsL l).length ≤ l.length) ?_ ?_ ?_ _ l rfl
 ·simp [ids_nil]
 ·intro n r h1 h2 ih
  rw [ids_ref r h1 h2, List.length_append, word_len, List.length_cons]; omega
 ·intro b r h ih
  rw [ids_byte h, List.length_cons]; omega
theorem fill_len (f : Nat → List UInt8) (hf : ∀ n, (f n).length ≤ 3) (l : List UInt8) : (fillL f l).length ≤ l.length := by
 refine text_rec (C := fun l => (fillL f l).length ≤ l.length) ?_ ?_ ?_ _ l rfl
 ·simp [fill_nil]
 ·intro n r h1 h2 ih
  have h3 := hf n
  have h4 : 1 ≤ (decDigits n).length := List.length_pos_iff.2 (dec_ne n)
  rw [fill_ref f r h1 h2, List.length_append, List.length_append, word_len]; omega
 ·intro b r h ih
  rw [fill_byte f h, List.length_cons, List.length_cons]; omega
theorem fill_all (p : UInt8 → Bool) (f : Nat → List UInt8) (hf : ∀ n, (f n).all p = true) (l : List UInt8) : l.all p = true → (fillL f l).all p = true := by
 refine text_rec (C := fun l => l.all p = true → (fillL f l).all p = true) ?_ ?_ ?_ _ l rfl
 ·intro _; simp [fill_nil]
 ·intro n r h1 h2 ih h
  rw [List.all_append, Bool.and_eq_true] at h
  rw [fill_ref f r h1 h2, List.all_append, hf n, ih h.2]; rfl
 ·intro b r hb ih h
  rw [List.all_cons, Bool.and_eq_true] at h
  rw [fill_byte f hb, List.all_cons, h.1, ih h.2]; rfl
end Go.Proofs.YtoladeanenmepaaGreatDoor.LG
namespace Go.Proofs.YtoladeanenmepaaGreatDoor.LG
open Go Go.LG Go.Lib

def cl (a : Int) : Int :=
 if 97 ≤ a ∧ a ≤ 122 then 1 else if 65 ≤ a ∧ a ≤ 90 then 2 else if 48 ≤ a ∧ a ≤ 57 then 3 else if a = 32 then 4 else if a = 126 then 6 else if 32 < a ∧ a < 126 then 5 else 0
theorem refClass_eq (a : Int) : formeref06_Class a = some (cl a) := by
 unfold formeref06_Class cl
 simp only [and_some, or_some, some_bind, decide_eq_true_eq]
 repeat' split
 all_goals first | rfl | omega
theorem class_eq (a : Int) : text_Class a = some (cl a) := by
 unfold text_Class cl
 simp only [and_some, or_some, some_bind, decide_eq_true_eq]
 repeat' split
 all_goals first | rfl | omega
theorem cl_zero {a : Int} : cl a = 0 ↔ a < 32 ∨ 126 < a := by
 unfold cl
 repeat' split
 all_goals omega
def ok (b : UInt8) : Bool := decide (cl (b.toNat : Int) ≠ 0)
theorem ok_iff {b : UInt8} : ok b = true ↔ 32 ≤ b.toNat ∧ b.toNat ≤ 126 := by
 unfold ok
 rw [decide_eq_true_eq, Ne, cl_zero]
 omega
def okS (l : List UInt8) : Bool := l.all ok && decide (l.length ≤ 2000)

theorem sz (l : List UInt8) : (⟨l.toArray⟩ : ByteArray).size = l.length := by simp [ByteArray.size]
theorem add1 (i : Nat) : ((i : Int) + 1) = ((i + 1 : Nat) : Int) := by omega
theorem refValid_loop (l : List UInt8) (hs : l.length ≤ 9223372036854775807) : ∀ (n i : Nat), l.length - i = n → i ≤ l.length →
  formeref06_Valid_l18 ⟨l.toArray⟩ (i : Int) = some (if (l.drop i).all ok then Sum.inr () else Sum.inl ()) := by
 intro n
 induction n with
 | zero =>
  intro i hn hi
  have : i = l.length := by omega
  subst this
  rw [formeref06_Valid_l18, sz, if_neg (by omega), List.drop_length]
  simp
 | succ n ih =>
  intro i hn hi
  have hlt : i < l.length := by omega
  rw [formeref06_Valid_l18, sz, if_pos (by omega), if_pos (by omega), bt_mk l hlt, refClass_eq, some_bind, w64_id (by omega) (by omega), add1, ih (i + 1) (by omega) (by omega), List.drop_eq_getElem_cons hlt, List.all_cons]
  by_cases h : cl ((l[i]).toNat : Int) = 0
  ·rw [if_pos h]; simp [ok, h]
  ·rw [if_neg h]; simp [ok, h]
theorem refValid_mk (l : List UInt8) (hs : l.length ≤ 9223372036854775807) : formeref06_Valid ⟨l.toArray⟩ = some (okS l) := by
 unfold formeref06_Valid okS
 rw [show (0 : Int) = ((0 : Nat) : Int) from rfl, refValid_loop l hs _ 0 rfl (Nat.zero_le _), some_bind, List.drop_zero, sz]
 cases l.all ok <;> simp
 omega
theorem get_mk (l : List UInt8) {i : Nat} (h : i < l.length) : (⟨l.toArray⟩ : ByteArray).get! i = l[i] := by
 simp only [ByteArray.get!]
 rw [getElem!_pos _ i (by simpa using h)]
 simp
theorem decode_big (l : List UInt8) {i : Nat} (h : i < l.length) (hb : 128 ≤ (l[i]).toNat) : 128 ≤ (Utf8.decode ⟨l.toArray⟩ i).1 := by
 unfold Utf8.decode
 simp only [Nat.add_zero, get_mk l h, Utf8.runeError]
 rw [if_neg (by omega)]
 repeat' split
 all_goals simp only [Bool.and_eq_true, decide_eq_true_eq] at *
 all_goals omega
theorem decode_small (l : List UInt8) {i : Nat} (h : i < l.length) (hb : (l[i]).toNat < 128) : Utf8.decode ⟨l.toArray⟩ i = ((l[i]).toNat, 1) := by
 unfold Utf8.decode
 simp only [Nat.add_zero, get_mk l h]
 rw [if_pos hb]
theorem valid_loop (l : List UInt8) : ∀ (n i : Nat), l.length - i = n → i ≤ l.length →
  ∃ o, text_Valid_l22 ⟨l.toArray⟩ i = some o ∧ o.isRight = (l.drop i).all ok := by
 intro n
 induction n with
 | zero =>
  intro i hn hi
  have : i = l.length := by omega
  subst this
  refine ⟨.inr l.length, ?_, by simp⟩
  rw [text_Valid_l22, sz, if_neg (by omega)]
 | succ n ih =>
  intro i hn hi
  have hlt : i < l.length := by omega
  rw [text_Valid_l22, sz, if_pos (by omega)]
  rw [List.drop_eq_getElem_cons hlt, List.all_cons]
  by_cases hb : (l[i]).toNat < 128
  ·have hd := decode_small l hlt hb
   rw [hd]
   simp only [class_eq, some_bind, wu8_id (show (0 : Int) ≤ ((l[i]).toNat : Int) by omega) (show ((l[i]).toNat : Int) ≤ 255 by omega)]
   by_cases h1 : (126 : Int) < ((l[i]).toNat : Int)
   ·refine ⟨.inl (i + 1), by rw [if_pos h1, some_bind]; rfl, ?_⟩
    have : ok l[i] = false := by
     rw [Bool.eq_false_iff, Ne, ok_iff]; omega
    simp [this]
   ·rw [if_neg h1, some_bind]
    by_cases h2 : cl ((l[i]).toNat : Int) = 0
    ·refine ⟨.inl (i + 1), by simp [h2], by simp [ok, h2]⟩
    ·obtain ⟨o, ho, hr⟩ := ih (i + 1) (by omega) (by omega)
     refine ⟨o, by simp [h2, ho], by rw [hr]; simp [ok, h2]⟩
  ·have hd := decode_big l hlt (by omega)
   refine ⟨.inl (i + (Utf8.decode ⟨l.toArray⟩ i).2), by rw [if_pos (by omega), some_bind]; rfl, ?_⟩
   have : ok l[i] = false := by
    rw [Bool.eq_false_iff, Ne, ok_iff]; omega
   simp [this]
theorem valid_mk (l : List UInt8) : text_Valid ⟨l.toArray⟩ = some (okS l) := by
 obtain ⟨o, ho, hr⟩ := valid_loop l _ 0 rfl (Nat.zero_le _)
 unfold text_Valid okS
 rw [ho, some_bind, sz]
 rw [List.drop_zero] at hr
 rw [← hr]
 cases o
 ·simp
 ·simp; omega
theorem okS_all {l : List UInt8} (h : okS l = true) : (∀ b ∈ l, 32 ≤ b.toNat ∧ b.toNat ≤ 126) ∧ l.length ≤ 2000 := by
 unfold okS at h
 rw [Bool.and_eq_true, List.all_eq_true, decide_eq_true_eq] at h
 exact ⟨fun b hb => ok_iff.1 (h.1 b hb), h.2⟩
def ints (l : List UInt8) : List Int := l.map fun b => (b.toNat : Int)

theorem sub_mk (l : List UInt8) (a b : Nat) : sub ⟨l.toArray⟩ (a : Int) (b : Int) = ⟨((l.drop a).take (b - a)).toArray⟩ := by rw [sub_data]
theorem mk_ne (b : UInt8) (r : List UInt8) : ¬ (⟨(b :: r).toArray⟩ : ByteArray) = ⟨#[]⟩ := by simp
theorem mk_inj {a b : List UInt8} : (⟨a.toArray⟩ : ByteArray) = ⟨b.toArray⟩ ↔ a = b := by simp
theorem mk_app (a b : List UInt8) : (⟨a.toArray⟩ : ByteArray) ++ ⟨b.toArray⟩ = ⟨(a ++ b).toArray⟩ := by
 apply ByteArray.ext
 rw [ByteArray.data_append]
 simp
theorem parse_mk (a : List UInt8) (ha : a.length ≤ 8) (h0 : a ≠ []) : strconv_ParseUint ⟨a.toArray⟩ 10 32 = some (if a.all dg = true then ((val 0 a : Int), false) else (0, true)) ∧
  parseUintB 32 a = (if a.all dg = true then .ok (val 0 a) else parseUintB 32 a) ∧ (a.all dg = false → ∀ u, parseUintB 32 a ≠ .ok u) := by
 have hpw : (0 + 1) * 10 ^ a.length ≤ 4294967296 := by
  have := Nat.pow_le_pow_right (n := 10) (by omega) ha
  omega
 obtain ⟨p1, p2⟩ := parse_eq a 0 hpw
 have hpb : parseUintB 32 a = parseUintM (2 ^ 32 - 1) 0 a := by unfold parseUintB; rw [if_neg h0]
 unfold strconv_ParseUint
 rw [if_pos ⟨rfl, rfl, by rw [sz]; omega⟩]
 have e : (⟨a.toArray⟩ : ByteArray).data.toList = a := by simp
 rw [e, hpb]
 cases hd : a.all dg with
 | true => rw [p1 hd]; exact ⟨rfl, rfl, fun h => by cases h⟩
 | false =>
  have hno := p2 hd
  refine ⟨?_, rfl, fun _ u => (hno u).1⟩
  cases hp : parseUintM (2 ^ 32 - 1) 0 a with
  | ok u => exact absurd hp (hno u).1
  | range => exact absurd hp (hno 0).2
  | _ => rfl
theorem reference_mk (l : List UInt8) (hl : l.length ≤ 1000000) : refs_reference ⟨l.toArray⟩ = some (((refL l).1 : Int), ((refL l).2 : Int)) := by
 cases l with
 | nil => rfl
 | cons b r =>
  have hb0 : bt ⟨(b :: r).toArray⟩ 0 = (b.toNat : Int) := bt_mk (b :: r) (i := 0) (by simp)
  have hlen : (b :: r).length = r.length + 1 := rfl
  rw [hlen] at hl
  unfold refs_reference
  rw [if_neg (mk_ne b r), sz, hlen, if_pos (by omega), hb0, some_bind]
  by_cases hb : b.toNat = 64
  ·have hb' : b = 64 := UInt8.toNat_inj.1 hb
   subst hb'
   have h1 : decide (¬ (((64 : UInt8).toNat : Nat) : Int) = 64) = false := by decide
   have hu : refL (64 :: r) = if indexByte r 64 < 1 ∨ 8 < indexByte r 64 ∨ (r.headD 0).toNat < 49 then (0, 0) else match parseUintB 32 (r.take (indexByte r 64).toNat) with
    | .ok u => if 1000000 < u then (0, 0) else (u, (indexByte r 64).toNat + 2)
    | _ => (0, 0) := rfl
   have hix : strings_IndexByte (sub ⟨(64 :: r).toArray⟩ 1 ((r.length + 1 : Nat) : Int)) 64 = some (indexByte r 64) := by
    unfold strings_IndexByte
    have hs : sub ⟨(64 :: r).toArray⟩ 1 ((r.length + 1 : Nat) : Int) = ⟨r.toArray⟩ := by
     have := sub_mk (64 :: r) 1 (r.length + 1)
     rw [show ((1 : Nat) : Int) = 1 from rfl] at this
     rw [this]; simp
    rw [hs]
    have e : (⟨r.toArray⟩ : ByteArray).data.toList = r := by simp
    rw [e]; rfl
   rw [h1, if_neg (by simp), if_pos (by omega), hix, some_bind, hu]
   by_cases hc : indexByte r 64 < 1 ∨ 8 < indexByte r 64
   ·rw [or_some, some_bind, if_pos (by simpa using hc), some_bind, if_pos rfl, if_pos (by omega)]
    rfl
   ·rcases index_spec 64 r with ⟨h1, h2⟩ | ⟨a, c, rfl, h2, h3⟩
    ·omega
    ·have ha : a ≠ [] := by intro e; subst e; rw [h3] at hc; simp at hc
     obtain ⟨x, a', hx, hhd⟩ := headD_app (64 :: c) ha
     have hb1 : bt ⟨(64 :: (a ++ 64 :: c)).toArray⟩ 1 = (x.toNat : Int) := by
      have := bt_mk (64 :: (a ++ 64 :: c)) (i := 1) (by simp; omega)
      rw [show ((1 : Nat) : Int) = 1 from rfl] at this
      rw [this]
      simp [hx]
     have hl2 : (a ++ 64 :: c).length = a.length + c.length + 1 := by simp; omega
     rw [or_some, some_bind, if_neg (by simpa using hc), if_pos (by omega), hb1, some_bind, hhd]
     by_cases h49 : x.toNat < 49
     ·rw [if_pos (by rw [decide_eq_true_eq]; omega), if_pos (by omega)]
      rfl
     ·rw [if_neg (by rw [decide_eq_true_eq]; omega), h3]
      have hw : w64 (1 + (a.length : Int)) = ((1 + a.length : Nat) : Int) := by rw [w64_id (by omega) (by omega)]; omega
      have hs : sub ⟨(64 :: (a ++ 64 :: c)).toArray⟩ 1 ((1 + a.length : Nat) : Int) = ⟨a.toArray⟩ := by
       have := sub_mk (64 :: (a ++ 64 :: c)) 1 (1 + a.length)
       rw [show ((1 : Nat) : Int) = 1 from rfl] at this
       rw [this]
       simp
      rw [h3] at hc
      rw [hw, if_pos (by omega), hs, if_neg (by omega)]
      obtain ⟨q1, q2, q3⟩ := parse_mk a (by omega) ha
      have ht : (a ++ 64 :: c).take (a.length : Int).toNat = a := by simp
      rw [q1, some_bind, ht]
      cases hd : a.all dg with
      | true =>
       rw [hd, if_pos rfl] at q2
       rw [q2]
       by_cases hm : 1000000 < val 0 a
       ·simp [hm]
        intro h
        omega
       ·have : ¬ (1000000 : Int) < (val 0 a : Int) := by omega
        have w1 : w64 ((val 0 a : Nat) : Int) = ((val 0 a : Nat) : Int) := w64_id (by omega) (by omega)
        have w2 : w64 ((a.length : Int) + 2) = ((a.length + 2 : Nat) : Int) := by rw [w64_id (by omega) (by omega)]; omega
        simp [hm, this, w1, w2]
      | false =>
       have := q3 hd
       cases hp : parseUintB 32 a with
       | ok u => exact absurd hp (this u)
       | _ => simp
  ·have h1 : decide (¬ (b.toNat : Int) = 64) = true := by
    rw [decide_eq_true_eq]; omega
   have hu : refL (b :: r) = (0, 0) := by simp only [refL]; rw [if_neg hb]
   rw [h1, if_pos rfl, hu]
   rfl
end Go.Proofs.YtoladeanenmepaaGreatDoor.LG
namespace Go.Proofs.YtoladeanenmepaaGreatDoor.LG
open Go Go.LG Go.Lib

theorem getD_at {α : Type} {l : List α} {i : Nat} (z : α) (h : i < l.length) : l.getD (Int.toNat (i : Int)) z = l[i] := by
 simp [List.getD_eq_getElem?_getD, h]

def strange (p : api_Page) : Bool := decide (p.Number < 1 ∨ 500 < p.Number)
theorem strange_mk (p : api_Page) : refs_Fill_1 p = some (strange p) := by
 unfold refs_Fill_1 strange
 rw [or_some, some_bind]
theorem page_loop (l : List api_Page) (hl : l.length ≤ 1000000) : ∀ (n i : Nat), l.length - i = n → i ≤ l.length →
  ∃ o, slices_IndexFunc_api_Page_k1_l22 l (i : Int) = some o ∧ o.isLeft = (l.drop i).any strange ∧ ∀ v, o = .inl v → 0 ≤ v := by
 intro n
 induction n with
 | zero =>
  intro i hn hi
  rw [slices_IndexFunc_api_Page_k1_l22, if_neg (by omega), List.drop_eq_nil_of_le (by omega)]
  exact ⟨_, rfl, rfl, fun v h => by cases h⟩
 | succ n ih =>
  intro i hn hi
  have hlt : i < l.length := by omega
  rw [slices_IndexFunc_api_Page_k1_l22, if_pos (by omega), if_pos (by omega), getD_at _ hlt, strange_mk, some_bind, w64_id (by omega) (by omega), add1, List.drop_eq_getElem_cons hlt, List.any_cons]
  cases hs : strange l[i] with
  | true => exact ⟨_, rfl, rfl, fun v h => by cases h; omega⟩
  | false => simpa using ih (i + 1) (by omega) (by omega)
theorem contains_page (l : List api_Page) (hl : l.length ≤ 1000000) : slices_ContainsFunc_api_Page_k1 l = some (l.any strange) := by
 obtain ⟨o, ho, h1, h2⟩ := page_loop l hl _ 0 rfl (Nat.zero_le _)
 unfold slices_ContainsFunc_api_Page_k1 slices_IndexFunc_api_Page_k1
 rw [show (0 : Int) = ((0 : Nat) : Int) from rfl, ho, some_bind]
 rw [List.drop_zero] at h1
 rw [← h1]
 cases o with
 | inl v =>
  have := h2 v rfl
  simp [this]
 | inr u => simp
def here (n : Int) (s : api_Slice) : Bool := decide (s.Node = n)
theorem slice_loop (l : List api_Slice) (m : Int) (hl : l.length ≤ 1000000) : ∀ (n i : Nat), l.length - i = n → i ≤ l.length →
  ∃ o, slices_IndexFunc_api_Slice_k1_l25 l m (i : Int) = some o ∧ o.isLeft = (l.drop i).any (here m) ∧ ∀ v, o = .inl v → 0 ≤ v := by
 intro n
 induction n with
 | zero =>
  intro i hn hi
  rw [slices_IndexFunc_api_Slice_k1_l25, if_neg (by omega), List.drop_eq_nil_of_le (by omega)]
  exact ⟨_, rfl, rfl, fun v h => by cases h⟩
 | succ n ih =>
  intro i hn hi
  have hlt : i < l.length := by omega
  rw [slices_IndexFunc_api_Slice_k1_l25, if_pos (by omega), if_pos (by omega), getD_at _ hlt, show pages_Find_1_k1 l[i] m = some (here m l[i]) from rfl, some_bind, w64_id (by omega) (by omega), add1, List.drop_eq_getElem_cons hlt, List.any_cons]
  cases hs : here m l[i] with
  | true => exact ⟨_, rfl, rfl, fun v h => by cases h; omega⟩
  | false => simpa using ih (i + 1) (by omega) (by omega)
theorem contains_slice (l : List api_Slice) (m : Int) (hl : l.length ≤ 1000000) : slices_ContainsFunc_api_Slice_k1 l m = some (l.any (here m)) := by
 obtain ⟨o, ho, h1, h2⟩ := slice_loop l m hl _ 0 rfl (Nat.zero_le _)
 unfold slices_ContainsFunc_api_Slice_k1 slices_IndexFunc_api_Slice_k1
 rw [show (0 : Int) = ((0 : Nat) : Int) from rfl, ho, some_bind]
 rw [List.drop_zero] at h1
 rw [← h1]
 cases o with
 | inl v =>
  have := h2 v rfl
  simp [this]
 | inr u => simp
def Fw (l : List api_Page) : Prop := l.length ≤ 30 ∧ ∀ p ∈ l, p.Slices.length ≤ 100
def fnd : List api_Page → Int → Option Int
 | [], _ => none
 | p :: l, n => if p.Slices.any (here n) = true then some p.Number else fnd l n
def fndR (o : Option Int) : Int × Bool := match o with | some k => (k, true) | none => (0, false)
theorem find_loop (l : List api_Page) (m : Int) (hl : Fw l) : ∀ (n i : Nat), l.length - i = n → i ≤ l.length →
  pages_Find_l27 l m (i : Int) = some (match fnd (l.drop i) m with | some k => .inl k | none => .inr ()) := by
 have h30 := hl.1
 intro n
 induction n with
 | zero =>
  intro i hn hi
  rw [pages_Find_l27, if_neg (by omega), List.drop_eq_nil_of_le (by omega)]
  rfl
 | succ n ih =>
  intro i hn hi
  have hlt : i < l.length := by omega
  have h100 := hl.2 l[i] (List.getElem_mem hlt)
  rw [pages_Find_l27, if_pos (by omega), if_pos (by omega), getD_at _ hlt, contains_slice _ _ (by omega), some_bind, w64_id (by omega) (by omega), add1, List.drop_eq_getElem_cons hlt, fnd]
  by_cases hs : l[i].Slices.any (here m) = true
  ·rw [if_pos hs, if_pos hs]
  ·rw [if_neg hs, if_neg hs]; exact ih (i + 1) (by omega) (by omega)
theorem find_mk (l : List api_Page) (m : Int) (hl : Fw l) : pages_Find l m = some (fndR (fnd l m)) := by
 have := find_loop l m hl _ 0 rfl (Nat.zero_le _)
 unfold pages_Find
 rw [show (0 : Int) = ((0 : Nat) : Int) from rfl, this, some_bind, List.drop_zero]
 cases fnd l m <;> rfl
theorem fnd_mem : ∀ (l : List api_Page) (n k : Int), fnd l n = some k → ∃ p ∈ l, p.Number = k
 | p :: l, n, k, h => by
  unfold fnd at h
  split at h
  ·cases h; exact ⟨p, List.mem_cons_self .., rfl⟩
  ·obtain ⟨q, hq, e⟩ := fnd_mem l n k h
   exact ⟨q, List.mem_cons_of_mem _ hq, e⟩
theorem few_loop (l : List api_Page) : ∀ (n i : Nat), 50 - i = n → i ≤ 50 → i ≤ l.length →
  ∃ o, formelaw41_few_l22 l (i : Int) = some o ∧ (o.isRight = true → l.length ≤ 50 → ∀ p ∈ l.drop i, p.Slices.length ≤ 100) := by
 intro n
 induction n with
 | zero =>
  intro i hn hi hl
  rw [formelaw41_few_l22]
  have : i = 50 := by omega
  subst this
  by_cases h : ((50 : Nat) : Int) < (l.length : Int)
  ·refine ⟨.inr (), by rw [if_pos h]; rfl, fun _ h2 => by omega⟩
  ·refine ⟨.inr (), by rw [if_neg h]; rfl, fun _ h2 p hp => ?_⟩
   rw [List.drop_eq_nil_of_le (by omega)] at hp
   cases hp
 | succ n ih =>
  intro i hn hi hl
  rw [formelaw41_few_l22]
  by_cases h : (i : Int) < (l.length : Int)
  ·have hlt : i < l.length := by omega
   rw [if_pos h, decide_eq_true (show (i : Int) < 50 by omega), some_bind, if_pos rfl, if_pos (by omega), getD_at _ hlt, w64_id (by omega) (by omega), add1]
   by_cases hs : (100 : Int) < (l[i].Slices.length : Int)
   ·rw [if_pos hs]; exact ⟨_, rfl, fun h => by cases h⟩
   ·rw [if_neg hs]
    obtain ⟨o, ho, hr⟩ := ih (i + 1) (by omega) (by omega) (by omega)
    refine ⟨o, ho, fun h1 h2 p hp => ?_⟩
    rw [List.drop_eq_getElem_cons hlt] at hp
    rcases List.mem_cons.1 hp with rfl | hp
    ·omega
    ·exact hr h1 h2 p hp
  ·refine ⟨.inr (), by rw [if_neg h]; rfl, fun _ h2 p hp => ?_⟩
   rw [List.drop_eq_nil_of_le (by omega)] at hp
   cases hp
theorem few_mk (l : List api_Page) : ∃ b, formelaw41_few l = some b ∧ (b = true → Fw l) := by
 obtain ⟨o, ho, hr⟩ := few_loop l _ 0 rfl (Nat.zero_le _) (Nat.zero_le _)
 unfold formelaw41_few
 rw [show (0 : Int) = ((0 : Nat) : Int) from rfl, ho, some_bind]
 cases o with
 | inl u => exact ⟨false, rfl, fun h => by cases h⟩
 | inr u =>
  refine ⟨decide ((l.length : Int) ≤ 30), rfl, fun h => ?_⟩
  rw [decide_eq_true_eq] at h
  exact ⟨by omega, hr rfl (by omega)⟩

theorem itoaF_nat {n : Nat} (h : n ≤ 1000000) : strconv_Itoa (n : Int) = some ⟨(decDigits n).toArray⟩ := by
 unfold strconv_Itoa
 rw [if_pos (by omega), itoaF_eq (by omega) (by omega)]
 unfold itoa
 rw [if_neg (by omega)]
 simp
theorem dig_bstr (n : Nat) : bstr [wu8 (w64 (48 + ((n % 10 : Nat) : Int)))] = ⟨[UInt8.ofNat (48 + n % 10)].toArray⟩ := by
 rw [w64_id (by omega) (by omega), wu8_id (by omega) (by omega)]
 have e : (48 + ((n % 10 : Nat) : Int)).toNat = 48 + n % 10 := by omega
 unfold bstr
 rw [List.map_cons, List.map_nil, e]
theorem dec_loop : ∀ (n : Nat) (acc : List UInt8), n + acc.length ≤ 1000000000 → formeref04_Decimal_l29 ⟨acc.toArray⟩ (n : Int) = some ⟨(if n = 0 then acc else decDigits n ++ acc).toArray⟩ := by
 intro n
 induction n using Nat.strongRecOn with
 | _ n ih =>
  intro acc h
  rw [formeref04_Decimal_l29]
  by_cases h0 : n = 0
  ·subst h0
   rw [if_neg (by simp), if_pos rfl]
  ·have e1 : Int.tmod (n : Int) 10 = ((n % 10 : Nat) : Int) := by rw [Int.tmod_eq_emod_of_nonneg (by omega)]; omega
   have e2 : Int.tdiv (n : Int) 10 = ((n / 10 : Nat) : Int) := by rw [Int.tdiv_eq_ediv_of_nonneg (by omega)]; omega
   rw [if_pos (by omega), e1, if_neg (by omega), dig_bstr, sz, sz, if_pos (by simp; omega), e2, w64_id (by omega) (by omega), mk_app, ih (n / 10) (by omega) _ (by simp; omega), if_neg h0]
   by_cases h1 : n < 10
   ·have : n / 10 = 0 := by omega
    rw [if_pos this, decDigits_small h1, show n % 10 = n by omega]
   ·rw [if_neg (by omega), decDigits_big h1, List.append_assoc]
theorem decimal_mk {n : Nat} (h0 : 1 ≤ n) (h : n ≤ 1000000) : formeref04_Decimal (n : Int) = some ⟨(decDigits n).toArray⟩ := by
 have := dec_loop n [] (by simp; omega)
 rw [if_neg (by omega), List.append_nil] at this
 unfold formeref04_Decimal
 rw [if_neg (by omega)]
 have e : formeref04_Decimal_l29 (⟨#[]⟩ : ByteArray) (n : Int) = some ⟨(decDigits n).toArray⟩ := this
 rw [e, some_bind, if_neg (by omega)]

theorem parts_loop {σ : Type} (φ : σ → (ByteArray × Int) → Option (σ × Bool)) (F : σ → List UInt8 × Nat → σ) (J : σ → Nat → Prop)
  (hφ : ∀ (s : σ) (p : List UInt8) (n k : Nat), p ≠ [] → J s (k + p.length) → φ s (⟨p.toArray⟩, (n : Int)) = some (F s (p, n), true) ∧ J (F s (p, n)) k) :
  ∀ (k : Nat) (l : List UInt8) (s : σ), l.length = k → k ≤ 1000000 → J s k → refs_parts_1_k1_l20 φ ⟨l.toArray⟩ s = some (.inr (⟨#[]⟩, (partsL l).foldl F s)) := by
 intro k
 induction k using Nat.strongRecOn with
 | _ k ih =>
  intro l s hk hl hJ
  rw [refs_parts_1_k1_l20]
  cases l with
  | nil =>
   rw [if_neg (by simp), parts_nil]
   rfl
  | cons b r =>
   have h1 := stp_pos (b :: r)
   have h2 := stp_le (l := b :: r) (by simp)
   have hm : max ((refL (b :: r)).2 : Int) 1 = ((stp (b :: r) : Nat) : Int) := by unfold stp; omega
   have hs1 : sub ⟨(b :: r).toArray⟩ 0 ((stp (b :: r) : Nat) : Int) = ⟨((b :: r).take (stp (b :: r))).toArray⟩ := by
    have := sub_mk (b :: r) 0 (stp (b :: r))
    rw [show ((0 : Nat) : Int) = 0 from rfl] at this
    rw [this]; simp
   have hs2 : sub ⟨(b :: r).toArray⟩ ((stp (b :: r) : Nat) : Int) (((b :: r).length : Nat) : Int) = ⟨((b :: r).drop (stp (b :: r))).toArray⟩ := by
    rw [sub_mk, List.take_of_length_le (by simp)]
   have hpl : ((b :: r).take (stp (b :: r))).length = stp (b :: r) := by rw [List.length_take]; omega
   have hdl : ((b :: r).drop (stp (b :: r))).length = k - stp (b :: r) := by rw [List.length_drop, hk]
   obtain ⟨q1, q2⟩ := hφ s ((b :: r).take (stp (b :: r))) (refL (b :: r)).1 (k - stp (b :: r)) (fun e => by rw [e] at hpl; simp at hpl; omega) (by rw [hpl]; rw [show k - stp (b :: r) + stp (b :: r) = k by omega]; exact hJ)
   rw [if_pos (mk_ne b r), reference_mk _ (by omega), some_bind]
   dsimp only
   rw [hm, sz, if_pos (by omega), hs1, q1, some_bind]
   simp only [Bool.not_true, Bool.false_eq_true, if_false]
   rw [if_pos (by omega), hs2, ih _ (by omega) _ _ hdl (by omega) q2, parts_cons (l := b :: r) (by simp), List.foldl_cons]
theorem parts_run {σ : Type} (φ : σ → (ByteArray × Int) → Option (σ × Bool)) (F : σ → List UInt8 × Nat → σ) (J : σ → Nat → Prop)
  (hφ : ∀ (s : σ) (p : List UInt8) (n k : Nat), p ≠ [] → J s (k + p.length) → φ s (⟨p.toArray⟩, (n : Int)) = some (F s (p, n), true) ∧ J (F s (p, n)) k)
  (l : List UInt8) (s : σ) (hl : l.length ≤ 1000000) (hJ : J s l.length) : refs_parts_1_k1 φ s ⟨l.toArray⟩ = some (⟨#[]⟩, (partsL l).foldl F s) := by
 unfold refs_parts_1_k1
 rw [parts_loop φ F J hφ _ l s rfl hl hJ, some_bind]

theorem ids_fold : ∀ (ps : List (List UInt8 × Nat)) (acc : List Int), ps.foldl (fun (s : List Int × Option Nat) p => (if 0 < p.2 then s.1 ++ [(p.2 : Int)] else s.1, s.2)) (acc, none) = (acc ++ ps.filterMap fun p => if 0 < p.2 then some (p.2 : Int) else none, none)
 | [], acc => by simp
 | p :: ps, acc => by
  rw [List.foldl_cons, ids_fold ps]
  by_cases h : 0 < p.2 <;> simp [h]
theorem refs_mk (l : List UInt8) (hl : l.length ≤ 1000000) : refs_Refs ⟨l.toArray⟩ = some (if okS l = true then (idsL l, 0) else ([], 1)) := by
 unfold refs_Refs
 rw [valid_mk, some_bind]
 cases hv : okS l with
 | false => rfl
 | true =>
  rw [if_neg (by simp), show refs_parts ⟨l.toArray⟩ = some ⟨l.toArray⟩ from rfl, some_bind]
  rw [parts_run _ (fun (s : List Int × Option Nat) p => (if 0 < p.2 then s.1 ++ [(p.2 : Int)] else s.1, s.2)) (fun s k => s.2 = none ∧ s.1.length + k ≤ 1000000) ?_ l ([], none) hl ⟨rfl, by simpa using hl⟩, some_bind, ids_fold]
  ·simp only [if_pos, List.nil_append]
   rfl
  ·rintro ⟨s, o⟩ p n k hp ⟨ho, hk⟩
   have h1 : 1 ≤ p.length := List.length_pos_iff.2 hp
   simp only at ho hk
   subst ho
   unfold rnd refs_Refs_r59
   simp only
   by_cases hn : 0 < n
   ·rw [if_pos (by omega), if_pos (by omega), some_bind, if_pos hn]
    exact ⟨rfl, by trivial, by show (s ++ [(n : Int)]).length + k ≤ 1000000; rw [List.length_append, List.length_singleton]; omega⟩
   ·rw [if_neg (by omega), some_bind, if_neg hn]
    exact ⟨rfl, by trivial, by (try simp only [List.length_append, List.length_cons, List.length_nil, ints_len]); omega⟩

def fP (ps : List api_Page) (n : Nat) : List UInt8 := match fnd ps (n : Int) with | some k => decDigits k.toNat | none => [63]
def Ok (ps : List api_Page) : Prop := ∀ p ∈ ps, 1 ≤ p.Number ∧ p.Number ≤ 500
theorem ok_of {ps : List api_Page} (h : ps.any strange = false) : Ok ps := fun p hp => by
 have := List.any_eq_false.1 h p hp
 unfold strange at this
 rw [decide_eq_true_eq] at this
 omega
theorem fP_len {ps : List api_Page} (h : Ok ps) (n : Nat) : (fP ps n).length ≤ 3 := by
 unfold fP
 cases hf : fnd ps (n : Int) with
 | none => simp
 | some k =>
  obtain ⟨p, hp, e⟩ := fnd_mem _ _ _ hf
  have := h p hp
  exact dec_len 2 k.toNat (by omega)
theorem fill_fold (f : Nat → List UInt8) : ∀ (ps : List (List UInt8 × Nat)) (u : Bool) (acc : List UInt8), ∃ u', ps.foldl (fun (s : (Bool × List Int) × Option Nat) p => ((true, s.1.2 ++ ints (if 0 < p.2 then f p.2 else p.1)), s.2)) ((u, ints acc), none) = ((u', ints (acc ++ ps.flatMap fun p => if 0 < p.2 then f p.2 else p.1)), none)
 | [], u, acc => ⟨u, by simp⟩
 | p :: ps, u, acc => by
  obtain ⟨u', h⟩ := fill_fold f ps true (acc ++ if 0 < p.2 then f p.2 else p.1)
  refine ⟨u', ?_⟩
  rw [List.foldl_cons]
  have e : ints acc ++ ints (if 0 < p.2 then f p.2 else p.1) = ints (acc ++ if 0 < p.2 then f p.2 else p.1) := by unfold ints; rw [List.map_append]
  simp only [e]
  rw [h, List.flatMap_cons, List.append_assoc]
theorem sbytes_mk (l : List UInt8) : sbytes ⟨l.toArray⟩ = ints l := by unfold sbytes ints; simp
theorem ints_len (l : List UInt8) : (ints l).length = l.length := by simp [ints]
theorem bstr_ints (l : List UInt8) : bstr (ints l) = ⟨l.toArray⟩ := bstr_map l
theorem write_mk (u : Bool) (acc : List Int) (p : List UInt8) (h : acc.length + p.length ≤ 100000000) : strings_Builder_WriteString_k1 ⟨u, acc⟩ ⟨p.toArray⟩ = some ((p.length : Int), ⟨true, acc ++ ints p⟩) := by
 unfold strings_Builder_WriteString_k1 strings_Builder_copyCheck
 rw [some_bind, sz, if_pos (by show acc.length + p.length ≤ 140737488355328; omega), sbytes_mk]
theorem filler_mk (l : List UInt8) (ps : List api_Page) (hl : l.length ≤ 1000000) (hf : Fw ps) (ho : Ok ps) : refs_filler_1_k1 ⟨l.toArray⟩ ps = some ⟨(fillL (fP ps) l).toArray⟩ := by
 unfold refs_filler_1_k1
 rw [show refs_parts ⟨l.toArray⟩ = some ⟨l.toArray⟩ from rfl, some_bind]
 obtain ⟨u', hu⟩ := fill_fold (fP ps) (partsL l) false []
 rw [parts_run _ (fun (s : (Bool × List Int) × Option Nat) p => ((true, s.1.2 ++ ints (if 0 < p.2 then fP ps p.2 else p.1)), s.2)) (fun s k => s.2 = none ∧ s.1.2.length + 3 * k ≤ 3000000) ?_ l ((false, []), none) hl ⟨rfl, by simp; omega⟩, some_bind]
 ·have e : ints ([] : List UInt8) = [] := rfl
  rw [e] at hu
  rw [hu]
  simp only [List.nil_append]
  unfold strings_Builder_String
  have hlen : (fillL (fP ps) l).length ≤ l.length := fill_len _ (fP_len ho) l
  have e2 : (partsL l).flatMap (fun p => if 0 < p.2 then fP ps p.2 else p.1) = fillL (fP ps) l := rfl
  rw [e2, if_pos (by show (ints (fillL (fP ps) l)).length ≤ 9223372036854775807; rw [ints_len]; omega), some_bind, bstr_ints]
 ·rintro ⟨⟨u, s⟩, o⟩ p n k hp ⟨hn0, hk⟩
  have h1 : 1 ≤ p.length := List.length_pos_iff.2 hp
  simp only at hn0 hk
  subst hn0
  unfold rnd refs_filler_1_k1_r53
  simp only
  by_cases hn : 0 < n
  ·rw [if_pos (by omega), find_mk ps _ hf, some_bind, if_pos hn]
   have h3 := fP_len ho n
   unfold fP at h3 ⊢
   cases hfd : fnd ps (n : Int) with
   | none =>
    have hw := write_mk u s [63] (by simp; omega)
    have hw' : strings_Builder_WriteString_k1 ⟨u, s⟩ (⟨#[63]⟩ : ByteArray) = _ := hw
    simp only [fndR, some_bind, Bool.false_eq_true, if_false]
    rw [hw', some_bind]
    exact ⟨rfl, by trivial, by (try simp only [List.length_append, List.length_cons, List.length_nil, ints_len]); omega⟩
   | some m =>
    obtain ⟨q, hq, e⟩ := fnd_mem _ _ _ hfd
    have hq := ho q hq
    obtain ⟨m', rfl⟩ : ∃ m' : Nat, m = (m' : Int) := ⟨m.toNat, by omega⟩
    rw [hfd] at h3
    simp only [Int.toNat_natCast] at h3
    simp only [fndR, Int.toNat_natCast, some_bind, if_true]
    rw [itoaF_nat (by omega), some_bind, write_mk u s _ (by omega), some_bind]
    exact ⟨rfl, by trivial, by (try simp only [List.length_append, List.length_cons, List.length_nil, ints_len]); omega⟩
  ·rw [if_neg (by omega), write_mk u s p (by omega), some_bind, if_neg hn]
   exact ⟨rfl, by trivial, by (try simp only [List.length_append, List.length_cons, List.length_nil, ints_len]); omega⟩
theorem fill_mk (l : List UInt8) (ps : List api_Page) (hl : l.length ≤ 1000000) (hf : Fw ps) :
  refs_Fill ⟨l.toArray⟩ ps = some (if okS l = true ∧ ps.any strange = false then (⟨(fillL (fP ps) l).toArray⟩, 0) else (⟨#[]⟩, 1)) := by
 have h30 := hf.1
 unfold refs_Fill
 rw [valid_mk, some_bind, contains_page _ (by omega), some_bind]
 cases hv : okS l with
 | false => rfl
 | true =>
  cases hs : ps.any strange with
  | true => rfl
  | false =>
   have e : (if (!true) = true then some true else some false) = some false := rfl
   rw [e, some_bind, if_neg (by simp), show refs_filler ps = some ps from rfl, some_bind, filler_mk l ps hl hf (ok_of hs), some_bind]
   simp
end Go.Proofs.YtoladeanenmepaaGreatDoor.LG
namespace Go.Proofs.YtoladeanenmepaaGreatDoor.LG
open Go Go.LG
theorem head_true : formelaw41_head = some true := formelaw41_head_le (fu := 300) _ (by kernel_rfl)
end Go.Proofs.YtoladeanenmepaaGreatDoor.LG
namespace Go.Proofs.YtoladeanenmepaaGreatDoor.LG
open Go Go.LG Go.Lib

theorem of_list (s : ByteArray) : ∃ l : List UInt8, s = ⟨l.toArray⟩ := ⟨s.data.toList, by cases s; simp⟩
theorem refs_yes {l : List UInt8} (hl : l.length ≤ 1000000) (h : okS l = true) : refs_Refs ⟨l.toArray⟩ = some (idsL l, 0) := by rw [refs_mk l hl, if_pos h]
theorem refs_no {l : List UInt8} (hl : l.length ≤ 1000000) (h : okS l = false) : refs_Refs ⟨l.toArray⟩ = some ([], 1) := by rw [refs_mk l hl, if_neg (by rw [h]; simp)]
theorem fill_yes {l : List UInt8} {ps : List api_Page} (hl : l.length ≤ 1000000) (hf : Fw ps) (h : okS l = true) (hs : ps.any strange = false) : refs_Fill ⟨l.toArray⟩ ps = some (⟨(fillL (fP ps) l).toArray⟩, 0) := by rw [fill_mk l ps hl hf, if_pos ⟨h, hs⟩]
theorem fill_no {l : List UInt8} {ps : List api_Page} (hl : l.length ≤ 1000000) (hf : Fw ps) (h : okS l = false ∨ ps.any strange = true) : refs_Fill ⟨l.toArray⟩ ps = some (⟨#[]⟩, 1) := by
 rw [fill_mk l ps hl hf, if_neg]
 rintro ⟨h1, h2⟩
 rcases h with h | h
 ·rw [h] at h1; cases h1
 ·rw [h] at h2; cases h2
theorem dg_ok {c : UInt8} (h : dg c = true) : ok c = true := by
 rw [ok_iff]
 unfold dg at h
 rw [decide_eq_true_eq] at h
 omega
theorem fP_ok (ps : List api_Page) (n : Nat) : (fP ps n).all ok = true := by
 unfold fP
 cases fnd ps (n : Int) with
 | none => decide
 | some k => exact List.all_eq_true.2 fun c hc => dg_ok (List.all_eq_true.1 (dec_dg _) c hc)
theorem prefix_take {W L : List UInt8} : W <+: L ↔ L.take W.length = W := by
 rw [List.prefix_iff_eq_take]; exact eq_comm
theorem look_mk (l W : List UInt8) (i : Nat) (hi : i ≤ l.length) (hl : l.length ≤ 1000000) (hW : W.length ≤ 1000000) :
  (if (((⟨W.toArray⟩ : ByteArray).size : Nat) : Int) ≤ w64 ((l.length : Int) - (i : Int)) then (if (0 : Int) ≤ (i : Int) ∧ (i : Int) ≤ w64 ((i : Int) + (((⟨W.toArray⟩ : ByteArray).size : Nat) : Int)) ∧ w64 ((i : Int) + (((⟨W.toArray⟩ : ByteArray).size : Nat) : Int)) ≤ (l.length : Int) then some (decide (sub ⟨l.toArray⟩ (i : Int) (w64 ((i : Int) + (((⟨W.toArray⟩ : ByteArray).size : Nat) : Int))) = ⟨W.toArray⟩)) else none) else some false) = some (decide (W <+: l.drop i)) := by
 rw [sz, w64_id (n := (l.length : Int) - (i : Int)) (by omega) (by omega), w64_id (n := (i : Int) + (W.length : Int)) (by omega) (by omega)]
 by_cases h : (W.length : Int) ≤ (l.length : Int) - (i : Int)
 ·rw [if_pos h, if_pos (by omega), show ((i : Int) + (W.length : Int)) = ((i + W.length : Nat) : Int) by omega, sub_mk, show i + W.length - i = W.length by omega]
  congr 1
  rw [decide_eq_decide, mk_inj, prefix_take]
 ·rw [if_neg h]
  have : ¬ W <+: l.drop i := fun hp => by
   have := hp.length_le
   rw [List.length_drop] at this
   omega
  rw [decide_eq_false this]
theorem drop_cons {α : Type} {l : List α} {k : Nat} {x : α} {r : List α} (h : l.drop k = x :: r) : k < l.length ∧ (∀ hk : k < l.length, l[k] = x) ∧ l.drop (k + 1) = r := by
 have hk : k < l.length := by
  rcases Nat.lt_or_ge k l.length with h' | h'
  ·exact h'
  ·rw [List.drop_eq_nil_of_le h'] at h; cases h
 rw [List.drop_eq_getElem_cons hk] at h
 exact ⟨hk, fun _ => (List.cons.inj h).1, (List.cons.inj h).2⟩
theorem word_cat (n : Nat) : (⟨#[64]⟩ : ByteArray) ++ ⟨(decDigits n).toArray⟩ ++ (⟨#[64]⟩ : ByteArray) = ⟨(word n).toArray⟩ := by
 have e : (⟨#[64]⟩ : ByteArray) = ⟨[(64 : UInt8)].toArray⟩ := rfl
 rw [e, mk_app, mk_app]
 simp [word]
theorem word_sz1 (n : Nat) : (⟨#[64]⟩ : ByteArray).size + (⟨(decDigits n).toArray⟩ : ByteArray).size = 1 + (decDigits n).length := by rw [sz]; rfl
theorem word_sz2 (n : Nat) : ((⟨#[64]⟩ : ByteArray) ++ ⟨(decDigits n).toArray⟩).size + (⟨#[64]⟩ : ByteArray).size = (word n).length := by
 have e : (⟨#[64]⟩ : ByteArray) = ⟨[(64 : UInt8)].toArray⟩ := rfl
 rw [e, mk_app, sz, sz]
 simp [word]
theorem num_loop (l : List UInt8) (ps : List api_Page) (Y : List Int) (hl : l.length ≤ 300) (hF : Fw ps) (hO : Ok ps) (hY : Y.length ≤ 300) :
  ∀ (n i k : Nat) (w : List UInt8), l.length - i = n → i ≤ l.length → k ≤ Y.length → Y.drop k = idsL (l.drop i) → w.length ≤ i →
   formelaw41_RefsNumbers_l129 ⟨l.toArray⟩ ps Y ⟨w.toArray⟩ (i : Int) (k : Int) = some (⟨(w ++ fillL (fP ps) (l.drop i)).toArray⟩, (Y.length : Int)) := by
 intro n
 induction n using Nat.strongRecOn with
 | _ n ih =>
  intro i k w hn hi hk hd hw
  rw [formelaw41_RefsNumbers_l129, sz]
  by_cases hlt : i < l.length
  ·have hrest : l.drop i = l[i] :: l.drop (i + 1) := List.drop_eq_getElem_cons hlt
   rw [if_pos (by omega)]
   -- a byte that begins no reference
   have byte : (∀ n, ¬ IsRef (l.drop i) n) → (if (0 : Int) ≤ (i : Int) ∧ (i : Int) ≤ w64 ((i : Int) + 1) ∧ w64 ((i : Int) + 1) ≤ (l.length : Int) then (if (⟨w.toArray⟩ : ByteArray).size + (sub ⟨l.toArray⟩ (i : Int) (w64 ((i : Int) + 1))).size ≤ 9223372036854775807 then formelaw41_RefsNumbers_l129 ⟨l.toArray⟩ ps Y (⟨w.toArray⟩ ++ sub ⟨l.toArray⟩ (i : Int) (w64 ((i : Int) + 1))) (w64 ((i : Int) + 1)) (k : Int) else none) else none) = some (⟨(w ++ fillL (fP ps) (l.drop i)).toArray⟩, (Y.length : Int)) := by
    intro hno
    rw [w64_id (n := (i : Int) + 1) (by omega) (by omega), add1, if_pos (by omega), sub_mk, show i + 1 - i = 1 by omega, hrest]
    have e : (l[i] :: l.drop (i + 1)).take 1 = [l[i]] := rfl
    rw [e, sz, sz, if_pos (by simp; omega), mk_app]
    rw [hrest] at hno hd
    rw [ih (n - 1) (by omega) (i + 1) k _ (by omega) (by omega) hk (by rw [hd, ids_byte hno]) (by simp; omega), fill_byte _ hno, List.append_assoc]
    rfl
   by_cases hk2 : k < Y.length
   ·have hmem : Y[k] ∈ idsL (l.drop i) := by rw [← hd, List.drop_eq_getElem_cons hk2]; exact List.mem_cons_self ..
    have hr := ids_range _ _ hmem
    obtain ⟨m, hm⟩ : ∃ m : Nat, Y[k] = (m : Int) := ⟨Y[k].toNat, by omega⟩
    rw [if_pos (by omega), if_pos (by omega), getD_at _ hk2, hm, decimal_mk (by omega) (by omega), some_bind, word_sz1, word_sz2]
    have hd7 := dec_len 6 m (by omega)
    have hwl := word_len m
    rw [if_pos (by omega), if_pos (by omega), word_cat, look_mk l (word m) i hi (by omega) (by omega), some_bind]
    by_cases hp : word m <+: l.drop i
    ·obtain ⟨r, hr2⟩ := hp
     rw [decide_eq_true ⟨r, hr2⟩, if_pos rfl, if_pos (by omega)]
     have hlen : (word m).length + r.length = l.length - i := by
      have := congrArg List.length hr2
      rw [List.length_append, List.length_drop] at this
      exact this
     have hr3 : l.drop (i + (word m).length) = r := by
      rw [← List.drop_drop, ← hr2]; simp
     have hdk : Y.drop (k + 1) = idsL r := by
      rw [← hr2, ids_ref r (by omega) (by omega)] at hd
      exact (drop_cons hd).2.2
     have wi : w64 ((i : Int) + (((⟨(word m).toArray⟩ : ByteArray).size : Nat) : Int)) = ((i + (word m).length : Nat) : Int) := by
      rw [sz, w64_id (by omega) (by omega)]; omega
     have wk : w64 ((k : Int) + 1) = ((k + 1 : Nat) : Int) := by rw [w64_id (by omega) (by omega)]; omega
     have hf3 := fP_len hO m
     have go : ∀ x : List UInt8, x = fP ps m → (if (⟨w.toArray⟩ : ByteArray).size + (⟨x.toArray⟩ : ByteArray).size ≤ 9223372036854775807 then formelaw41_RefsNumbers_l129 ⟨l.toArray⟩ ps Y (⟨w.toArray⟩ ++ ⟨x.toArray⟩) (w64 ((i : Int) + (((⟨(word m).toArray⟩ : ByteArray).size : Nat) : Int))) (w64 ((k : Int) + 1)) else none) = some (⟨(w ++ fillL (fP ps) (l.drop i)).toArray⟩, (Y.length : Int)) := by
      intro x hx
      have h1 : 1 ≤ (decDigits m).length := List.length_pos_iff.2 (dec_ne m)
      subst hx
      rw [sz, sz, if_pos (by omega), mk_app, wi, wk, ih (l.length - (i + (word m).length)) (by omega) (i + (word m).length) (k + 1) _ rfl (by omega) (by omega) (by rw [hdk, hr3]) (by rw [List.length_append]; omega), hr3, ← hr2, fill_ref _ r (by omega) (by omega), List.append_assoc]
     rw [find_mk ps _ hF, some_bind]
     cases hfd : fnd ps (m : Int) with
     | none =>
      simp only [fndR, Bool.false_eq_true, if_false]
      exact go [63] (by unfold fP; rw [hfd])
     | some u =>
      obtain ⟨p, hpm, hpe⟩ := fnd_mem _ _ _ hfd
      have hpo := hO p hpm
      obtain ⟨u', rfl⟩ : ∃ u' : Nat, u = (u' : Int) := ⟨u.toNat, by omega⟩
      simp only [fndR, if_true]
      rw [decimal_mk (by omega) (by omega), some_bind]
      exact go (decDigits u') (by unfold fP; rw [hfd]; simp)
    ·rw [decide_eq_false hp, if_neg (by simp)]
     refine byte fun m' hm' => hp ?_
     obtain ⟨a1, a2, r, hr2⟩ := hm'
     rw [hr2, ids_ref r a1 a2] at hd
     have e := (drop_cons hd).2.1 hk2
     have : m = m' := by omega
     subst this
     exact ⟨r, hr2.symm⟩
   ·rw [if_neg (by omega)]
    refine byte fun m' hm' => ?_
    obtain ⟨a1, a2, r, hr2⟩ := hm'
    rw [hr2, ids_ref r a1 a2, List.drop_eq_nil_of_le (by omega)] at hd
    cases hd
  ·rw [if_neg (by omega)]
   have e : l.drop i = [] := List.drop_eq_nil_of_le (by omega)
   rw [e, ids_nil] at hd
   have : Y.length ≤ k := List.drop_eq_nil_iff.1 hd
   rw [e, fill_nil, List.append_nil, show k = Y.length by omega]
theorem numbers_true (s : ByteArray) (ps : List api_Page) : formelaw41_RefsNumbers s ps = some true := by
 obtain ⟨a, rfl⟩ := of_list s
 obtain ⟨q, hq, hF⟩ := few_mk ps
 unfold formelaw41_RefsNumbers
 rw [head_true, some_bind, hq, some_bind, sz]
 by_cases h : (300 : Int) < (a.length : Int)
 ·rw [if_pos h, some_bind, if_pos rfl]
 ·rw [if_neg h, some_bind]
  cases q with
  | false => rfl
  | true =>
   have hF := hF rfl
   rw [if_neg (by simp)]
   cases hv : okS a with
   | false => rw [fill_no (by omega) hF (.inl hv), some_bind]; dsimp only; rw [refs_no (by omega) hv]; rfl
   | true =>
    cases hs : ps.any strange with
    | true => rw [fill_no (by omega) hF (.inr hs), some_bind]; dsimp only; rw [refs_yes (by omega) hv]; rfl
    | false =>
     have hO := ok_of hs
     have l1 := fill_len (fP ps) (fP_len hO) a
     obtain ⟨k1, k2⟩ := okS_all hv
     have hall : a.all ok = true := List.all_eq_true.2 fun b hb => ok_iff.2 (k1 b hb)
     have hvx : okS (fillL (fP ps) a) = true := by
      unfold okS
      rw [fill_all ok (fP ps) (fP_ok ps) a hall, decide_eq_true (by omega)]
      rfl
     have hlp := num_loop a ps (idsL a) (by omega) hF hO (by have := ids_len a; omega) _ 0 0 [] rfl (Nat.zero_le _) (Nat.zero_le _) (by simp) (Nat.zero_le _)
     have hlp' : formelaw41_RefsNumbers_l129 ⟨a.toArray⟩ ps (idsL a) (⟨#[]⟩ : ByteArray) 0 0 = some (⟨(fillL (fP ps) a).toArray⟩, ((idsL a).length : Int)) := by
      simpa using hlp
     have hv2 : formeref06_Valid ⟨(fillL (fP ps) a).toArray⟩ = some true := by rw [refValid_mk _ (by omega), hvx]
     have hlt : ¬ (a.length : Int) < (((⟨(fillL (fP ps) a).toArray⟩ : ByteArray).size : Nat) : Int) := by rw [sz]; omega
     rw [fill_yes (by omega) hF hv hs, some_bind]; dsimp only; rw [refs_yes (by omega) hv, some_bind]; dsimp only
     rw [if_neg (fun h => h rfl), if_neg (fun h => h rfl), decide_eq_false hlt, some_bind, if_neg (by simp), hv2, some_bind, some_bind, if_neg (by simp), hlp', some_bind]
     simp [some_bind]
end Go.Proofs.YtoladeanenmepaaGreatDoor.LG
