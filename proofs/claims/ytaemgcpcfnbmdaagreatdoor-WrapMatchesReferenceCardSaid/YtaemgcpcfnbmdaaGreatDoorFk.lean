/-
 Plain laws. No program in sight.
-/
import Derived.Test.YtaemgcpcfnbmdaaGreatDoorPd
import Derived.Test.YtaemgcpcfnbmdaaGreatDoorLgQ
import Derived.Lib.TrimByte
import Derived.Lib.SplitLaws
import Derived.Lib.ReplaceLaws
set_option linter.unusedVariables false
set_option linter.unusedSimpArgs false
namespace Go.Proofs.YtaemgcpcfnbmdaaGreatDoor.LG
open Go Go.LG Go.Lib

def cl (a : Int) : Int :=
 if 97 ≤ a ∧ a ≤ 122 then 1 else if 65 ≤ a ∧ a ≤ 90 then 2 else if 48 ≤ a ∧ a ≤ 57 then 3 else if a = 32 then 4 else if a = 126 then 6 else if 32 < a ∧ a < 126 then 5 else 0
theorem kY (a : Int) : da a = some (cl a) := by
 unfold da cl
 simp only [pT, rF, aa, decide_eq_true_eq]
 repeat' split
 all_goals first | rfl | omega
theorem kw (a : Int) : dP a = some (cl a) := by
 unfold dP cl
 simp only [pT, rF, aa, decide_eq_true_eq]
 repeat' split
 all_goals first | rfl | omega
theorem Cq {a : Int} : cl a = 0 ↔ a < 32 ∨ 126 < a := by
 unfold cl
 repeat' split
 all_goals omega
theorem Ao {a : Int} : cl a = 6 ↔ a = 126 := by
 unfold cl
 repeat' split
 all_goals omega
theorem yp {a : Int} : cl a = 4 ↔ a = 32 := by
 unfold cl
 repeat' split
 all_goals omega
def ok (b : UInt8) : Bool := decide (cl (b.toNat : Int) ≠ 0)
theorem vd {b : UInt8} : ok b = true ↔ 32 ≤ b.toNat ∧ b.toNat ≤ 126 := by
 unfold ok
 rw [decide_eq_true_eq, Ne, Cq]
 omega
def jm (l : List UInt8) : Bool := l.all ok && decide (l.length ≤ 2000)

theorem sz (l : List UInt8) : (⟨l.toArray⟩ : ByteArray).size = l.length := by simp [ByteArray.size]
theorem add1 (i : Nat) : ((i : Int) + 1) = ((i + 1 : Nat) : Int) := by omega
theorem uk (l : List UInt8) (hs : l.length ≤ 9223372036854775807) : ∀ (n i : Nat), l.length - i = n → i ≤ l.length →
  eA ⟨l.toArray⟩ (i : Int) = some (if (l.drop i).all ok then Sum.inr () else Sum.inl ()) := by
 intro n
 induction n with
 | zero =>
  intro i hn hi
  have : i = l.length := by omega
  subst this
  rw [eA, sz, if_neg (by omega), List.drop_length]
  simp
 | succ n ih =>
  intro i hn hi
  have hlt : i < l.length := by omega
  rw [eA, sz, if_pos (by omega), if_pos (by omega), oQ l hlt, kY, aa, av (by omega) (by omega), add1, ih (i + 1) (by omega) (by omega), List.drop_eq_getElem_cons hlt, List.all_cons]
  by_cases h : cl ((l[i]).toNat : Int) = 0
  ·rw [if_pos h]; simp [ok, h]
  ·rw [if_neg h]; simp [ok, h]
theorem fT (l : List UInt8) (hs : l.length ≤ 9223372036854775807) : cz ⟨l.toArray⟩ = some (jm l) := by
 unfold cz jm
 rw [show (0 : Int) = ((0 : Nat) : Int) from rfl, uk l hs _ 0 rfl (Nat.zero_le _), aa, List.drop_zero, sz]
 cases l.all ok <;> simp
 omega
theorem Bx (l : List UInt8) {i : Nat} (h : i < l.length) : (⟨l.toArray⟩ : ByteArray).get! i = l[i] := by
 simp only [ByteArray.get!]
 rw [getElem!_pos _ i (by simpa using h)]
 simp
theorem xK (l : List UInt8) {i : Nat} (h : i < l.length) (hb : 128 ≤ (l[i]).toNat) : 128 ≤ (Utf8.decode ⟨l.toArray⟩ i).1 := by
 unfold Utf8.decode
 simp only [Nat.add_zero, Bx l h, Utf8.runeError]
 rw [if_neg (by omega)]
 repeat' split
 all_goals simp only [Bool.and_eq_true, decide_eq_true_eq] at *
 all_goals omega
theorem j6 (l : List UInt8) {i : Nat} (h : i < l.length) (hb : (l[i]).toNat < 128) : Utf8.decode ⟨l.toArray⟩ i = ((l[i]).toNat, 1) := by
 unfold Utf8.decode
 simp only [Nat.add_zero, Bx l h]
 rw [if_pos hb]
theorem yd (l : List UInt8) : ∀ (n i : Nat), l.length - i = n → i ≤ l.length →
  ∃ o, fR ⟨l.toArray⟩ i = some o ∧ o.isRight = (l.drop i).all ok := by
 intro n
 induction n with
 | zero =>
  intro i hn hi
  have : i = l.length := by omega
  subst this
  refine ⟨.inr l.length, ?_, by simp⟩
  rw [fR, sz, if_neg (by omega)]
 | succ n ih =>
  intro i hn hi
  have hlt : i < l.length := by omega
  rw [fR, sz, if_pos (by omega)]
  rw [List.drop_eq_getElem_cons hlt, List.all_cons]
  by_cases hb : (l[i]).toNat < 128
  ·have hd := j6 l hlt hb
   rw [hd]
   simp only [kw, aa, vL (show (0 : Int) ≤ ((l[i]).toNat : Int) by omega) (show ((l[i]).toNat : Int) ≤ 255 by omega)]
   by_cases h1 : (126 : Int) < ((l[i]).toNat : Int)
   ·refine ⟨.inl (i + 1), by rw [if_pos h1, aa]; rfl, ?_⟩
    have : ok l[i] = false := by
     rw [Bool.eq_false_iff, Ne, vd]; omega
    simp [this]
   ·rw [if_neg h1, aa]
    by_cases h2 : cl ((l[i]).toNat : Int) = 0
    ·refine ⟨.inl (i + 1), by simp [h2], by simp [ok, h2]⟩
    ·obtain ⟨o, ho, hr⟩ := ih (i + 1) (by omega) (by omega)
     refine ⟨o, by simp [h2, ho], by rw [hr]; simp [ok, h2]⟩
  ·have hd := xK l hlt (by omega)
   refine ⟨.inl (i + (Utf8.decode ⟨l.toArray⟩ i).2), by rw [if_pos (by omega), aa]; rfl, ?_⟩
   have : ok l[i] = false := by
    rw [Bool.eq_false_iff, Ne, vd]; omega
   simp [this]
theorem iQ (l : List UInt8) : gf ⟨l.toArray⟩ = some (jm l) := by
 obtain ⟨o, ho, hr⟩ := yd l _ 0 rfl (Nat.zero_le _)
 unfold gf jm
 rw [ho, aa, sz]
 rw [List.drop_zero] at hr
 rw [← hr]
 cases o
 ·simp
 ·simp; omega
theorem dt {l : List UInt8} (h : jm l = true) : (∀ b ∈ l, 32 ≤ b.toNat ∧ b.toNat ≤ 126) ∧ l.length ≤ 2000 := by
 unfold jm at h
 rw [Bool.and_eq_true, List.all_eq_true, decide_eq_true_eq] at h
 exact ⟨fun b hb => vd.1 (h.1 b hb), h.2⟩
theorem xP {l : List UInt8} (h : ∀ b ∈ l, 32 ≤ b.toNat ∧ b.toNat ≤ 126) (h2 : l.length ≤ 2000) : jm l = true := by
 unfold jm
 rw [Bool.and_eq_true, List.all_eq_true, decide_eq_true_eq]
 exact ⟨fun b hb => vd.2 (h b hb), h2⟩

def shown (l : List UInt8) : List UInt8 := l.filter fun b => decide (b.toNat ≠ 126)
theorem j3 (b : UInt8) (l : List UInt8) : shown (b :: l) = if b.toNat = 126 then shown l else b :: shown l := by
 by_cases h : b.toNat = 126 <;> simp [shown, h]
def i8 (l : List UInt8) : List Int := l.map fun b => (b.toNat : Int)
theorem um (l : List UInt8) (hs : l.length ≤ 1000000) : ∀ (n i : Nat) (acc : List UInt8), l.length - i = n → i ≤ l.length → acc.length ≤ i →
  eK ⟨l.toArray⟩ (i8 acc) (i : Int) = some (i8 (acc ++ shown (l.drop i))) := by
 intro n
 induction n with
 | zero =>
  intro i acc hn hi ha
  have : i = l.length := by omega
  subst this
  rw [eK, sz, if_neg (by omega), List.drop_length]
  simp [shown]
 | succ n ih =>
  intro i acc hn hi ha
  have hlt : i < l.length := by omega
  rw [eK, sz, if_pos (by omega), if_pos (by omega), oQ l hlt, av (by omega) (by omega), add1, List.drop_eq_getElem_cons hlt]
  by_cases h : ((l[i]).toNat : Int) = 126
  ·rw [if_neg (by omega), aa, ih (i + 1) acc (by omega) (by omega) (by omega)]
   have h' : (l[i]).toNat = 126 := by omega
   rw [j3, if_pos h']
  ·rw [if_pos h, if_pos (by omega), if_pos (by simp [i8]; omega), aa]
   have h' : ¬ (l[i]).toNat = 126 := by omega
   have e : i8 acc ++ [((l[i]).toNat : Int)] = i8 (acc ++ [l[i]]) := by simp [i8]
   rw [e, ih (i + 1) (acc ++ [l[i]]) (by omega) (by omega) (by simp; omega), j3, if_neg h', List.append_assoc]
   rfl
theorem sY {l : List UInt8} (hs : l.length ≤ 1000000) : gB ⟨l.toArray⟩ = some ⟨(shown l).toArray⟩ := by
 unfold gB
 rw [show (0 : Int) = ((0 : Nat) : Int) from rfl, show ([] : List Int) = i8 [] from rfl, um l hs _ 0 [] rfl (Nat.zero_le _) (Nat.le_refl 0), aa]
 simp only [List.nil_append, List.drop_zero, i8, rJ]
def wc : Bool → List UInt8 → Nat
 | _, [] => 0
 | o, b :: l => if b.toNat = 126 then wc o l else if b.toNat = 32 then wc false l else (if o then 0 else 1) + wc true l
theorem tL : ∀ (o : Bool) (l : List UInt8), wc o (shown l) = wc o l
 | _, [] => rfl
 | o, b :: l => by
  by_cases h : b.toNat = 126
  ·have : shown (b :: l) = shown l := by simp [shown, h]
   rw [this, tL o l]; simp [wc, h]
  ·have : shown (b :: l) = b :: shown l := by simp [shown, h]
   rw [this]; simp only [wc, if_neg h, tL]
theorem xu (l : List UInt8) (hl : ∀ b ∈ l, 32 ≤ b.toNat ∧ b.toNat ≤ 126) (hs : l.length ≤ 1000000) : ∀ (n i : Nat) (k : Nat) (o : Bool), l.length - i = n → i ≤ l.length → k ≤ i →
  ∃ p, cY ⟨l.toArray⟩ (k : Int) o i = some (((k + wc o (l.drop i) : Nat) : Int), p) := by
 intro n
 induction n with
 | zero =>
  intro i k o hn hi hk
  have : i = l.length := by omega
  subst this
  refine ⟨l.length, ?_⟩
  rw [cY, sz, if_neg (by omega), List.drop_length]
  simp [wc]
 | succ n ih =>
  intro i k o hn hi hk
  have hlt : i < l.length := by omega
  obtain ⟨hb1, hb2⟩ := hl l[i] (by simp)
  rw [cY, sz, if_pos (by omega), j6 l hlt (by omega), List.drop_eq_getElem_cons hlt]
  simp only [kw, aa, vL (show (0 : Int) ≤ ((l[i]).toNat : Int) by omega) (show ((l[i]).toNat : Int) ≤ 255 by omega)]
  by_cases h6 : (l[i]).toNat = 126
  ·have c6 : cl ((l[i]).toNat : Int) = 6 := Ao.2 (by omega)
   obtain ⟨p, hp⟩ := ih (i + 1) k o (by omega) (by omega) (by omega)
   refine ⟨p, ?_⟩
   rw [if_pos c6]
   simp only [aa]
   rw [hp, wc, if_pos h6]
  ·have c6 : ¬ cl ((l[i]).toNat : Int) = 6 := fun h => h6 (by have := Ao.1 h; omega)
   by_cases h4 : (l[i]).toNat = 32
   ·have c4 : cl ((l[i]).toNat : Int) = 4 := yp.2 (by omega)
    obtain ⟨p, hp⟩ := ih (i + 1) k false (by omega) (by omega) (by omega)
    refine ⟨p, ?_⟩
    rw [if_neg c6, if_pos c4]
    simp only [aa]
    rw [hp, wc, if_neg h6, if_pos h4]
   ·have c4 : ¬ cl ((l[i]).toNat : Int) = 4 := fun h => h4 (by have := yp.1 h; omega)
    have key : ∀ X : Option (Int × Nat), ((if o = false then cY ⟨l.toArray⟩ (ax ((k : Int) + 1)) true (i + 1) else cY ⟨l.toArray⟩ (k : Int) true (i + 1)) = X) → ∃ p, X = some (((k + wc o (l[i] :: l.drop (i + 1)) : Nat) : Int), p) := by
     intro X hX
     subst hX
     cases o
     ·obtain ⟨p, hp⟩ := ih (i + 1) (k + 1) true (by omega) (by omega) (by omega)
      refine ⟨p, ?_⟩
      rw [if_pos rfl, av (by omega) (by omega), add1, hp, wc, if_neg h6, if_neg h4]
      simp only [Bool.false_eq_true, if_false, Nat.add_assoc]
     ·obtain ⟨p, hp⟩ := ih (i + 1) k true (by omega) (by omega) (by omega)
      refine ⟨p, ?_⟩
      rw [if_neg (by simp), hp, wc, if_neg h6, if_neg h4]
      simp only [if_true, Nat.zero_add]
    apply key
    simp only [if_neg c6, if_neg c4]
    repeat' split
    all_goals simp_all [aa]
theorem oP {l : List UInt8} (h : jm l = true) : gI ⟨l.toArray⟩ = some ((wc false l : Int), 0) := by
 obtain ⟨h1, h2⟩ := dt h
 obtain ⟨p, hp⟩ := xu l h1 (by omega) _ 0 0 false rfl (Nat.zero_le _) (Nat.le_refl _)
 unfold gI
 rw [iQ, aa, h]
 simp only [Bool.not_true, Bool.false_eq_true, if_false]
 rw [show (0 : Int) = ((0 : Nat) : Int) from rfl, hp, aa]
 simp
theorem Bw {l : List UInt8} (h : jm l = false) : gI ⟨l.toArray⟩ = some (0, 1) := by
 unfold gI
 rw [iQ, aa, h]
 simp
theorem jv (l : List UInt8) : (shown l).length ≤ l.length := List.length_filter_le _ _
theorem qt {l : List UInt8} {b : UInt8} (h : b ∈ shown l) : b ∈ l ∧ b.toNat ≠ 126 := by
 simpa [shown] using h
def bl : UInt8 := 32
theorem DB {b : UInt8} : b = bl ↔ b.toNat = 32 := by
 constructor
 ·intro h; rw [h]; rfl
 ·intro h; exact UInt8.toNat_inj.1 (by rw [h]; rfl)
def tl (l : List UInt8) : List UInt8 := trimLeftB l bl
def tr (l : List UInt8) : List UInt8 := trimRightB l bl
theorem qo (b : UInt8) (l : List UInt8) : tl (b :: l) = if b = bl then tl l else b :: l := by
 unfold tl trimLeftB
 rw [List.dropWhile_cons]
 by_cases h : b = bl <;> simp [h]
theorem Cb (l : List UInt8) (b : UInt8) : tr (l ++ [b]) = if b = bl then tr l else l ++ [b] := by
 unfold tr trimRightB
 rw [List.reverse_append, List.reverse_singleton, List.singleton_append, List.dropWhile_cons]
 by_cases h : b = bl <;> simp [h]
theorem yo (b : UInt8) (l : List UInt8) : tr (b :: l) = if tr l = [] then (if b = bl then [] else [b]) else b :: tr l := by
 unfold tr trimRightB
 rw [List.reverse_cons, List.dropWhile_append]
 cases h : l.reverse.dropWhile (· == bl) with
 | nil => by_cases hb : b = bl <;> simp [hb]
 | cons x xs => simp
theorem CU : ∀ l : List UInt8, tl (tr l) = tr (tl l)
 | [] => rfl
 | b :: l => by
  have ih := CU l
  rw [qo, yo]
  by_cases hb : b = bl
  ·rw [if_pos hb, if_pos hb, ← ih]
   split
   ·rename_i h; rw [h]
   ·rw [qo, if_pos hb]
  ·rw [if_neg hb, if_neg hb, yo]
   split
   ·simp [qo, hb]
   ·rw [qo, if_neg hb]
def yi (l : List UInt8) : List UInt8 := tl (tr l)
theorem CJ {b : UInt8} : ((b.toNat : Int) = 32) ↔ b = bl := by rw [DB]; omega
theorem uf : ∀ (n : Nat) (l : List UInt8), l.length = n → l.length ≤ 1000000 → fc ⟨l.toArray⟩ = some ⟨(tl l).toArray⟩
 | 0, l, h, _ => by
  have : l = [] := List.eq_nil_of_length_eq_zero h
  subst this
  rw [fc]; rfl
 | n + 1, [], h, _ => by cases h
 | n + 1, b :: l, h, hs => by
  have hb := oQ (b :: l) (i := 0) (by simp)
  simp only [List.getElem_cons_zero] at hb
  rw [fc, sz, if_pos (by simp only [List.length_cons] at *; omega), if_pos (by simp only [List.length_cons] at *; omega), aa, show (0 : Int) = ((0 : Nat) : Int) from rfl, hb]
  simp only [decide_eq_true_eq, CJ]
  rw [qo]
  split
  ·rename_i hbb
   rw [if_pos (by simp only [List.length_cons] at *; omega), show (1 : Int) = ((1 : Nat) : Int) from rfl, nz]
   have e : (List.take ((b :: l).length - 1) (List.drop 1 (b :: l))) = l := by simp
   simp only [e]
   exact uf n l (by simpa using h) (by simp only [List.length_cons] at hs; omega)
  ·rfl
theorem tX : ∀ (n : Nat) (l : List UInt8), l.length = n → l.length ≤ 1000000 → e8 ⟨l.toArray⟩ = some ⟨(tr l).toArray⟩
 | 0, l, h, _ => by
  have : l = [] := List.eq_nil_of_length_eq_zero h
  subst this
  rw [e8]; rfl
 | n + 1, l, h, hs => by
  obtain ⟨l', b, rfl⟩ : ∃ l' b, l = l' ++ [b] := by
   rcases List.eq_nil_or_concat l with h0 | ⟨l', b, h0⟩
   ·subst h0; cases h
   ·exact ⟨l', b, by simpa using h0⟩
  have hl : (l' ++ [b]).length = l'.length + 1 := by simp
  rw [hl] at h hs
  have hb := oQ (l' ++ [b]) (i := l'.length) (by simp)
  simp only [List.getElem_concat_length] at hb
  have e1 : ax (((l'.length + 1 : Nat) : Int) - 1) = (l'.length : Int) := by rw [av (by omega) (by omega)]; omega
  rw [e8, sz, hl, e1, if_pos (by omega), if_pos (by omega), aa, hb]
  simp only [decide_eq_true_eq, CJ]
  rw [Cb]
  split
  ·rename_i hbb
   rw [if_pos (by omega), show (0 : Int) = ((0 : Nat) : Int) from rfl, nz]
   have e : (List.take (l'.length - 0) (List.drop 0 (l' ++ [b]))) = l' := by simp
   simp only [e]
   exact tX n l' (by omega) (by omega)
  ·rfl
theorem yb : ∀ l : List UInt8, (tl l).length ≤ l.length
 | [] => Nat.le_refl _
 | b :: l => by
  rw [qo]
  split
  ·have := yb l; simp only [List.length_cons]; omega
  ·exact Nat.le_refl _
end Go.Proofs.YtaemgcpcfnbmdaaGreatDoor.LG
namespace Go.Proofs.YtaemgcpcfnbmdaaGreatDoor.LG
open Go Go.LG Go.Lib

instance decMem (k : ByteArray) (l : List ByteArray) : Decidable (k ∈ l) := @List.instDecidableMemOfLawfulBEq ByteArray instBEqOfDecidableEq inferInstance k l
theorem nU {α β : Type} [DecidableEq α] : ∀ (l : List (α × β)) (a : α) (i : Nat), kh l a i = (kh l a 0).map fun p => (p.1 + i, p.2)
 | [], a, i => rfl
 | x :: l, a, i => by
  by_cases h : a = x.1
  ·simp [kh, h]
  ·simp only [kh, if_neg h]
   rw [nU l a (i + 1), nU l a (0 + 1), Option.map_map]
   congr 1
   funext p
   show (p.1 + (i + 1), p.2) = (p.1 + (0 + 1) + i, p.2)
   congr 1
   omega
theorem oR {α β : Type} [DecidableEq α] (x : α × β) (l : List (α × β)) (a : α) : oo (x :: l) a = if a = x.1 then some x.2 else oo l a := by
 unfold oo
 by_cases h : a = x.1
 ·simp [kh, h]
 ·simp only [kh, if_neg h]
  rw [nU l a (0 + 1), Option.map_map]
  rfl
theorem zK {α β : Type} [DecidableEq α] (x : α × β) (l : List (α × β)) (a : α) (b : β) : rj (x :: l) a b = if a = x.1 then (a, b) :: l else x :: rj l a b := by
 unfold rj
 by_cases h : a = x.1
 ·simp [kh, h]
 ·simp only [kh, if_neg h]
  rw [nU l a (0 + 1)]
  cases kh l a 0 with
  | none => simp
  | some p => simp
theorem sI {α β : Type} [DecidableEq α] : ∀ (l : List (α × β)) (a : α) (b : β) (k : α), oo (rj l a b) k = if k = a then some b else oo l k
 | [], a, b, k => by
  show oo [(a, b)] k = _
  rw [oR]
 | x :: l, a, b, k => by
  rw [zK]
  by_cases h : a = x.1
  ·rw [if_pos h, oR, oR]
   by_cases hk : k = a
   ·simp [hk]
   ·rw [if_neg hk, if_neg hk, if_neg (fun e => hk (e.trans h.symm))]
  ·rw [if_neg h, oR, oR, sI l a b k]
   by_cases hk : k = a
   ·subst hk; simp [h]
   ·simp [hk]
theorem oN {α : Type} (pre : List α) (k : α) (ks : List α) (d : α) : (pre ++ k :: ks).getD (Int.toNat (pre.length : Int)) d = k := by
 simp [List.getD_eq_getElem?_getD]

theorem Aq (a : Int) : fM a = some (decide (97 ≤ a ∧ a ≤ 122)) := by
 unfold fM
 rw [pT, aa]
theorem yT (a : Int) : gq a = some (decide (1 ≤ a ∧ a ≤ 5)) := by
 unfold gq
 rw [pT, aa]
def BO (k : ByteArray) : Bool := decide ((k.size : Int) = 2) && decide (97 ≤ bt k 0 ∧ bt k 0 ≤ 122) && decide (97 ≤ bt k 1 ∧ bt k 1 ≤ 122)
def qd (pre : List ByteArray) : List ByteArray → Bool
 | [] => true
 | k :: ks => BO k && !decide (k ∈ pre) && qd (pre ++ [k]) ks
theorem EW (k : ByteArray) (c : Bool) (X Y : Option (Sum (List (ByteArray × Bool)) (List (ByteArray × Bool)))) :
  ((if ¬ (k.size : Int) = 2 then some true else (if (0 : Int) ≤ 0 ∧ 0 < (k.size : Int) then (fM (bt k 0) >>= fun y117 => some (!y117)) else none)) >>= fun v104 => ((if v104 = true then some true else (if (0 : Int) ≤ 1 ∧ 1 < (k.size : Int) then (fM (bt k 1) >>= fun y131 => some (!y131)) else none)) >>= fun v118 => ((if v118 = true then some true else some c) >>= fun v132 => (if v132 = true then X else Y)))) = if (BO k && !c) = true then Y else X := by
 unfold BO
 simp only [Aq, aa]
 by_cases h2 : (k.size : Int) = 2
 ·by_cases h3 : 97 ≤ bt k 0 ∧ bt k 0 ≤ 122
  ·by_cases h4 : 97 ≤ bt k 1 ∧ bt k 1 ≤ 122
   ·cases c <;> simp [h2, h3, h4]
   ·cases c <;> simp [h2, h3, h4]
  ·cases c <;> simp [h2, h3]
 ·rw [if_pos h2]
  cases c <;> simp [h2]
theorem sR (b : ak) (hs : b.Keep.length ≤ 100000000000000) : ∀ (rest pre : List ByteArray) (m : List (ByteArray × Bool)), b.Keep = pre ++ rest → (∀ k, (oo m k).getD false = decide (k ∈ pre)) →
  ∃ o, dF b (pre.length : Int) m = some o ∧ o.isRight = qd pre rest
 | [], pre, m, hk, hm => ⟨.inr m, by rw [dF, if_neg (by rw [hk]; simp)], rfl⟩
 | k :: ks, pre, m, hk, hm => by
  have hl : b.Keep.length = pre.length + (ks.length + 1) := by rw [hk]; simp
  have hg : b.Keep.getD (Int.toNat (pre.length : Int)) ⟨#[]⟩ = k := by rw [hk, oN]
  rw [dF, if_pos (by omega), if_pos (by omega), hg, EW, hm, qd]
  cases hb : BO k && !decide (k ∈ pre)
  ·exact ⟨.inl m, by simp, by simp⟩
  ·obtain ⟨o, ho, hr⟩ := sR b hs ks (pre ++ [k]) (rj m k true) (by rw [hk]; simp) (fun k' => by
    rw [sI]
    by_cases e : k' = k
    ·simp [e]
    ·simp [e, hm])
   refine ⟨o, ?_, by simpa using hr⟩
   rw [if_pos rfl, av (by omega) (by omega)]
   rw [show ((pre.length : Int) + 1) = ((pre ++ [k]).length : Int) by simp]
   exact ho
def vb (b : ak) : Bool := decide (1 ≤ b.Before ∧ b.Before ≤ 5) && decide (1 ≤ b.Behind ∧ b.Behind ≤ 5) && decide (b.Keep.length ≤ 20) && qd [] b.Keep
theorem Dj (b : ak) (hs : b.Keep.length ≤ 100000000000000) : ja b = some (vb b) := by
 obtain ⟨o, ho, hr⟩ := sR b hs b.Keep [] [] rfl (fun k => by simp [oo, kh])
 unfold ja vb
 simp only [yT, aa]
 rw [← hr]
 have ho' : dF b 0 [] = some o := ho
 simp only [ho', aa]
 by_cases h1 : 1 ≤ b.Before ∧ b.Before ≤ 5
 ·by_cases h2 : 1 ≤ b.Behind ∧ b.Behind ≤ 5
  ·by_cases h3 : b.Keep.length ≤ 20
   ·have h3' : ¬ (20 : Int) < (b.Keep.length : Int) := by omega
    cases o <;> simp [h1, h2, h3, h3']
   ·have h3' : (20 : Int) < (b.Keep.length : Int) := by omega
    simp [h1, h2, h3, h3']
  ·simp [h1, h2]
 ·simp [h1]
theorem sZ (b : ak) (hs : b.Keep.length ≤ 100000000000000) : ∀ (p2 p1 : List ByteArray) (k : ByteArray) (ks : List ByteArray), b.Keep = p1 ++ (p2 ++ k :: ks) →
  dR b ((p1.length + p2.length : Nat) : Int) (p1.length : Int) = some (if k ∈ p2 then .inl () else .inr ())
 | [], p1, k, ks, hk => by rw [dR, if_neg (by simp)]; simp
 | x :: p2, p1, k, ks, hk => by
  have hl : b.Keep.length = p1.length + (p2.length + 1 + (ks.length + 1)) := by rw [hk]; simp; omega
  have h1 : b.Keep.getD (Int.toNat (p1.length : Int)) ⟨#[]⟩ = x := by rw [hk, List.cons_append, oN]
  have h2 : b.Keep.getD (Int.toNat ((p1.length + (x :: p2).length : Nat) : Int)) ⟨#[]⟩ = k := by
   rw [hk, ← List.append_assoc, show p1.length + (x :: p2).length = (p1 ++ x :: p2).length by simp, oN]
  have hlen : (x :: p2).length = p2.length + 1 := rfl
  rw [dR, h1, h2, hlen, if_pos (by omega), if_pos (by omega), av (by omega) (by omega)]
  by_cases e : x = k
  ·simp [e]
  ·have ih := sZ b hs p2 (p1 ++ [x]) k ks (by rw [hk]; simp)
   rw [if_neg e]
   rw [show (p1 ++ [x]).length = p1.length + 1 by simp] at ih
   rw [show ((p1.length : Int) + 1) = ((p1.length + 1 : Nat) : Int) by omega, show p1.length + (p2.length + 1) = p1.length + 1 + p2.length by omega, ih]
   have e' : ¬ k = x := fun h => e h.symm
   simp [e']
theorem Av (k : ByteArray) (X Y : Option (Sum Unit Unit)) :
  ((if ¬ (k.size : Int) = 2 then some true else (if (0 : Int) ≤ 0 ∧ 0 < (k.size : Int) then some (decide ((bt k 0) < 97)) else none)) >>= fun v96 => ((if v96 = true then some true else (if (0 : Int) ≤ 0 ∧ 0 < (k.size : Int) then some (decide (122 < (bt k 0))) else none)) >>= fun v104 => ((if v104 = true then some true else (if (0 : Int) ≤ 1 ∧ 1 < (k.size : Int) then some (decide ((bt k 1) < 97)) else none)) >>= fun v112 => ((if v112 = true then some true else (if (0 : Int) ≤ 1 ∧ 1 < (k.size : Int) then some (decide (122 < (bt k 1))) else none)) >>= fun v120 => (if v120 = true then X else Y))))) = if BO k = true then Y else X := by
 unfold BO
 by_cases h2 : (k.size : Int) = 2
 ·by_cases h3 : bt k 0 < 97
  ·have : ¬ 97 ≤ bt k 0 := by omega
   simp [h2, h3, this]
  ·by_cases h4 : 122 < bt k 0
   ·have : ¬ bt k 0 ≤ 122 := by omega
    simp [h2, h3, h4, this]
   ·by_cases h5 : bt k 1 < 97
    ·have : ¬ 97 ≤ bt k 1 := by omega
     simp [h2, h3, h4, h5, this]
    ·by_cases h6 : 122 < bt k 1
     ·have : ¬ bt k 1 ≤ 122 := by omega
      simp [h2, h3, h4, h5, h6, this]
     ·have e1 : 97 ≤ bt k 0 := by omega
      have e2 : bt k 0 ≤ 122 := by omega
      have e3 : 97 ≤ bt k 1 := by omega
      have e4 : bt k 1 ≤ 122 := by omega
      simp [h2, h3, h4, h5, h6, e1, e2, e3, e4]
 ·rw [if_pos h2]
  simp [h2]
theorem pM (b : ak) (hs : b.Keep.length ≤ 100000000000000) : ∀ (rest pre : List ByteArray), b.Keep = pre ++ rest → eF b (pre.length : Int) = some (if qd pre rest then .inr () else .inl ())
 | [], pre, hk => by rw [eF, if_neg (by rw [hk]; simp)]; simp [qd]
 | k :: ks, pre, hk => by
  have hl : b.Keep.length = pre.length + (ks.length + 1) := by rw [hk]; simp
  have hg : b.Keep.getD (Int.toNat (pre.length : Int)) ⟨#[]⟩ = k := by rw [hk, oN]
  have hd := sZ b hs pre [] k ks (by rw [hk]; simp)
  simp only [List.length_nil, Nat.zero_add] at hd
  rw [show ((0 : Nat) : Int) = 0 from rfl] at hd
  rw [eF, if_pos (by omega), if_pos (by omega), hg, Av, hd, qd, aa]
  cases hk' : BO k
  ·simp
  ·by_cases hp : k ∈ pre
   ·simp [hp]
   ·have ih := pM b hs ks (pre ++ [k]) (by rw [hk]; simp)
    rw [show ((pre ++ [k]).length : Int) = (pre.length : Int) + 1 by simp] at ih
    simp only [if_neg hp, if_true, av (show -9223372036854775808 ≤ (pre.length : Int) + 1 by omega) (by omega), ih]
    simp [hp]
theorem uT (b : ak) (hs : b.Keep.length ≤ 100000000000000) : gC b = some (vb b) := by
 have h := pM b hs b.Keep [] rfl
 rw [show (([] : List ByteArray).length : Int) = 0 from rfl] at h
 unfold gC vb
 rw [h]
 by_cases h1 : b.Before < 1
 ·have : ¬ 1 ≤ b.Before := by omega
  simp [h1, this]
 ·by_cases h2 : 5 < b.Before
  ·have : ¬ b.Before ≤ 5 := by omega
   simp [h1, h2, this]
  ·by_cases h3 : b.Behind < 1
   ·have : ¬ 1 ≤ b.Behind := by omega
    simp [h1, h2, h3, this]
   ·by_cases h4 : 5 < b.Behind
    ·have : ¬ b.Behind ≤ 5 := by omega
     simp [h1, h2, h3, h4, this]
    ·have e1 : 1 ≤ b.Before := by omega
     have e2 : b.Before ≤ 5 := by omega
     have e3 : 1 ≤ b.Behind := by omega
     have e4 : b.Behind ≤ 5 := by omega
     by_cases h5 : b.Keep.length ≤ 20
     ·have h5' : ¬ (20 : Int) < (b.Keep.length : Int) := by omega
      cases qd [] b.Keep <;> simp [h1, h2, h3, h4, e1, e2, e3, e4, h5, h5']
     ·have h5' : (20 : Int) < (b.Keep.length : Int) := by omega
      simp [h1, h2, h3, h4, e1, e2, e3, e4, h5, h5']
theorem rI (b : ak) (hs : b.Keep.length ≤ 100000000000000) : ∀ (rest pre : List ByteArray) (m : List (ByteArray × Bool)), b.Keep = pre ++ rest → (∀ k, (oo m k).getD false = decide (k ∈ pre)) →
  ∃ m', dA b (pre.length : Int) m = some m' ∧ ∀ k, (oo m' k).getD false = decide (k ∈ b.Keep)
 | [], pre, m, hk, hm => ⟨m, by rw [dA, if_neg (by rw [hk]; simp)], fun k => by rw [hm, hk]; simp⟩
 | k :: ks, pre, m, hk, hm => by
  have hl : b.Keep.length = pre.length + (ks.length + 1) := by rw [hk]; simp
  have hg : b.Keep.getD (Int.toNat (pre.length : Int)) ⟨#[]⟩ = k := by rw [hk, oN]
  obtain ⟨m', h1, h2⟩ := rI b hs ks (pre ++ [k]) (rj m k true) (by rw [hk]; simp) (fun k' => by
    rw [sI]
    by_cases e : k' = k
    ·simp [e]
    ·simp [e, hm])
  refine ⟨m', ?_, h2⟩
  rw [show ((pre ++ [k]).length : Int) = (pre.length : Int) + 1 by simp] at h1
  rw [dA, if_pos (by omega), if_pos (by omega), hg, av (by omega) (by omega), h1]
theorem xD (b : ak) (l : List UInt8) (hs : b.Keep.length ≤ 100000000000000) : ∃ m, gO b ⟨l.toArray⟩ = some (b.Before, b.Behind, b.Keep, ⟨l.toArray⟩, m, vb b && jm l) ∧ ∀ k, (oo m k).getD false = decide (k ∈ b.Keep) := by
 obtain ⟨m, h1, h2⟩ := rI b hs b.Keep [] [] rfl (fun k => by simp [oo, kh])
 refine ⟨m, ?_, h2⟩
 rw [show (([] : List ByteArray).length : Int) = 0 from rfl] at h1
 unfold gO
 rw [h1, aa, Dj b hs, aa, iQ, aa]
 cases vb b <;> simp

def zT (a : Int) : Bool := decide (cl a = 1 ∨ cl a = 2)
def BL (a : Int) : Bool := decide ((cl a = 1 ∨ cl a = 2) ∨ cl a = 3)
theorem letter_eq (a : Int) : gr a = some (zT a) := by
 unfold gr zT
 simp only [kw, aa, rF]
theorem se (a : Int) : f9 a = some (zT a) := by
 unfold f9 zT
 simp only [kY, aa, rF]
theorem wZ (a : Int) : im a = some (BL a) := by
 unfold im BL
 simp only [letter_eq, kw, aa, rF, zT, decide_eq_true_eq]
theorem sT (a : Int) : gz a = some (BL a) := by
 unfold gz BL
 simp only [kY, aa, pT]
 congr 1
 exact decide_eq_decide.2 (by omega)
theorem Am : zT 126 = false := by decide
def mo (b : UInt8) : Bool := zT (b.toNat : Int) || decide ((b.toNat : Int) = 126)
def run (x : List UInt8) : List UInt8 := shown (x.takeWhile mo)
theorem yw : run [] = [] := rfl
theorem rK (b : UInt8) (x : List UInt8) : run (b :: x) = if mo b = true then (if b.toNat = 126 then run x else b :: run x) else [] := by
 unfold run
 rw [List.takeWhile_cons]
 by_cases h : mo b = true
 ·rw [if_pos h, if_pos h, j3]
 ·rw [if_neg h, if_neg h]; rfl
theorem yF (l : List UInt8) {i : Nat} (h : i < l.length) (a6 a7 : Int) (a8 : List ByteArray) (a16 : List (ByteArray × Bool)) : br (i : Int) a6 a7 a8 ⟨l.toArray⟩ a16 = some (mo l[i]) := by
 unfold br mo
 rw [sz, oQ l h, letter_eq, if_pos (by omega), aa, if_pos (by simpa using h), if_pos (by omega), aa]
 cases zT ((l[i]).toNat : Int) <;> simp [h]
theorem wv (s : ByteArray) {i : Int} (h : ¬ (0 ≤ i ∧ i < (s.size : Int))) (a6 a7 : Int) (a8 : List ByteArray) (a16 : List (ByteArray × Bool)) : br i a6 a7 a8 s a16 = some false := by
 unfold br
 by_cases h0 : 0 ≤ i
 ·have : ¬ i < (s.size : Int) := fun e => h ⟨h0, e⟩
  simp [h0, this]
 ·simp [h0]
theorem uU (acc : List UInt8) (b : UInt8) : i8 acc ++ [(b.toNat : Int)] = i8 (acc ++ [b]) := by simp [i8]
theorem Bn (l : List UInt8) (hs : l.length ≤ 1000000) (a1 a2 : Int) (a3 : List ByteArray) (a11 : List (ByteArray × Bool)) : ∀ (n i : Nat) (acc : List UInt8), l.length - i = n → i ≤ l.length → acc.length ≤ i →
  ∃ p, bI a1 a2 a3 ⟨l.toArray⟩ a11 (i8 acc) (i : Int) = some (i8 (acc ++ run (l.drop i)), p) := by
 intro n
 induction n with
 | zero =>
  intro i acc hn hi ha
  have : i = l.length := by omega
  subst this
  refine ⟨(l.length : Int), ?_⟩
  rw [bI, wv _ (by rw [sz]; omega), aa, List.drop_length, yw, List.append_nil]
  simp
 | succ n ih =>
  intro i acc hn hi ha
  have hlt : i < l.length := by omega
  rw [bI, yF l hlt, aa, List.drop_eq_getElem_cons hlt, rK, sz, oQ l hlt]
  cases hm : mo l[i]
  ·exact ⟨(i : Int), by simp⟩
  ·rw [if_pos rfl, if_pos (by omega), if_pos rfl, av (by omega) (by omega), add1]
   by_cases h6 : (l[i]).toNat = 126
   ·obtain ⟨p, hp⟩ := ih (i + 1) acc (by omega) (by omega) (by omega)
    exact ⟨p, by rw [if_neg (by omega), aa, hp, if_pos h6]⟩
   ·obtain ⟨p, hp⟩ := ih (i + 1) (acc ++ [l[i]]) (by omega) (by omega) (by simp; omega)
    exact ⟨p, by rw [if_pos (by omega), if_pos (by omega), if_pos (by simp [i8]; omega), aa, uU, hp, if_neg h6]; simp⟩
theorem wH {l : List UInt8} {i : Nat} (h : i < l.length) : (l.take (i + 1)).reverse = l[i] :: (l.take i).reverse := by
 rw [List.take_succ_eq_append_getElem h]; simp
theorem AH (l : List UInt8) (hs : l.length ≤ 1000000) (a1 a2 : Int) (a3 : List ByteArray) (a11 : List (ByteArray × Bool)) : ∀ (i : Nat) (acc : List UInt8), acc.length + i ≤ l.length →
  ∃ p, bQ a1 a2 a3 ⟨l.toArray⟩ a11 (i8 acc) ((i : Int) - 1) = some (i8 (acc ++ run (l.take i).reverse), p) := by
 intro i
 induction i with
 | zero =>
  intro acc ha
  refine ⟨-1, ?_⟩
  rw [bQ, wv _ (by rw [sz]; omega), aa]
  simp [yw]
 | succ i ih =>
  intro acc ha
  have hlt : i < l.length := by omega
  rw [show ((i + 1 : Nat) : Int) - 1 = (i : Int) by omega]
  rw [bQ, yF l hlt, aa, wH hlt, rK, sz, oQ l hlt]
  cases hm : mo l[i]
  ·exact ⟨(i : Int), by simp⟩
  ·rw [if_pos rfl, if_pos (by omega), if_pos rfl, av (by omega) (by omega), show (i : Int) + -1 = (i : Int) - 1 by omega]
   by_cases h6 : (l[i]).toNat = 126
   ·obtain ⟨p, hp⟩ := ih acc (by omega)
    exact ⟨p, by rw [if_neg (by omega), aa, hp, if_pos h6]⟩
   ·obtain ⟨p, hp⟩ := ih (acc ++ [l[i]]) (by simp; omega)
    exact ⟨p, by rw [if_pos (by omega), if_pos (by omega), if_pos (by simp [i8]; omega), aa, uU, hp, if_neg h6]; simp⟩
theorem wJ (l : List UInt8) (hs : l.length ≤ 1000000) (a1 a2 : Int) (a3 : List ByteArray) (a11 : List (ByteArray × Bool)) {i : Nat} (hi : i ≤ l.length) : bL a1 a2 a3 ⟨l.toArray⟩ a11 (i : Int) false = some ⟨(run (l.drop i)).toArray⟩ := by
 obtain ⟨p, hp⟩ := Bn l hs a1 a2 a3 a11 _ i [] rfl hi (Nat.zero_le _)
 unfold bL
 rw [if_neg (by simp), show ([] : List Int) = i8 [] from rfl, hp, aa, List.nil_append]
 show some (qI (i8 (run (l.drop i)))) = _
 rw [i8, rJ]
theorem wM (l : List UInt8) (hs : l.length ≤ 1000000) (a1 a2 : Int) (a3 : List ByteArray) (a11 : List (ByteArray × Bool)) {i : Nat} (hi : i ≤ l.length) : bL a1 a2 a3 ⟨l.toArray⟩ a11 (i : Int) true = some ⟨(run (l.take i).reverse).toArray⟩ := by
 obtain ⟨p, hp⟩ := AH l hs a1 a2 a3 a11 i [] (by simpa using hi)
 unfold bL
 rw [if_pos rfl, av (by omega) (by omega), show ([] : List Int) = i8 [] from rfl, hp, aa, List.nil_append]
 show some (qI (i8 (run (l.take i).reverse))) = _
 rw [i8, rJ]
def Ay (n : Nat) (f : Int) : List UInt8 → Int
 | [] => f
 | b :: _ => if n = 0 then (b.toNat : Int) else f
theorem uS (l : List UInt8) {i : Nat} (h : i < l.length) (s n f : Int) : bT ⟨l.toArray⟩ s (i : Int) n f =
  if mo l[i] = true then (if (l[i]).toNat = 126 then bT ⟨l.toArray⟩ s (ax ((i : Int) + s)) n f else bT ⟨l.toArray⟩ s (ax ((i : Int) + s)) (ax (n + 1)) (if n = 0 then ((l[i]).toNat : Int) else f)) else some (n, f) := by
 rw [bT, sz, oQ l h, se, if_pos (by omega), aa, if_pos (by simpa using h), if_pos (by omega), aa]
 unfold mo
 by_cases h6 : (l[i]).toNat = 126
 ·have h6' : ((l[i]).toNat : Int) = 126 := by omega
  simp [h6', Am, h6, h]
 ·have h6' : ¬ ((l[i]).toNat : Int) = 126 := by omega
  cases hl : zT ((l[i]).toNat : Int)
  ·simp [h6', h6, h]
  ·by_cases hn : n = 0 <;> simp [h6', h6, hn, h]
theorem tV (s : ByteArray) {i : Int} (h : ¬ (0 ≤ i ∧ i < (s.size : Int))) (st n f : Int) : bT s st i n f = some (n, f) := by
 rw [bT]
 by_cases h0 : 0 ≤ i
 ·have : ¬ i < (s.size : Int) := fun e => h ⟨h0, e⟩
  simp [h0, this]
 ·simp [h0]
theorem wY (l : List UInt8) (hs : l.length ≤ 1000000) : ∀ (m i n : Nat) (f : Int), l.length - i = m → i ≤ l.length → n ≤ i →
  bT ⟨l.toArray⟩ 1 (i : Int) (n : Int) f = some (((n + (run (l.drop i)).length : Nat) : Int), Ay n f (run (l.drop i))) := by
 intro m
 induction m with
 | zero =>
  intro i n f hm hi hn
  have : i = l.length := by omega
  subst this
  rw [tV _ (by rw [sz]; omega), List.drop_length]
  rfl
 | succ m ih =>
  intro i n f hm hi hn
  have hlt : i < l.length := by omega
  rw [uS l hlt, List.drop_eq_getElem_cons hlt, rK, av (n := (i : Int) + 1) (by omega) (by omega), av (n := (n : Int) + 1) (by omega) (by omega), add1 i, add1 n]
  cases hmo : mo l[i]
  ·simp [Ay]
  ·by_cases h6 : (l[i]).toNat = 126
   ·simp only [h6, if_true]
    exact ih (i + 1) n f (by omega) (by omega) (by omega)
   ·simp only [h6, if_true, if_false]
    rw [ih (i + 1) (n + 1) _ (by omega) (by omega) (by omega)]
    simp only [List.length_cons]
    congr 2
    ·omega
    ·rw [Ay]
     cases run (l.drop (i + 1)) with
     | nil => simp [Ay]; 
     | cons x xs => simp [Ay]
theorem xd (l : List UInt8) (hs : l.length ≤ 1000000) : ∀ (i n : Nat) (f : Int), n + i ≤ l.length →
  bT ⟨l.toArray⟩ (-1) ((i : Int) - 1) (n : Int) f = some (((n + (run (l.take i).reverse).length : Nat) : Int), Ay n f (run (l.take i).reverse)) := by
 intro i
 induction i with
 | zero =>
  intro n f hn
  rw [tV _ (by rw [sz]; omega)]
  rfl
 | succ i ih =>
  intro n f hn
  have hlt : i < l.length := by omega
  rw [show ((i + 1 : Nat) : Int) - 1 = (i : Int) by omega]
  rw [uS l hlt, wH hlt, rK, av (n := (i : Int) + -1) (by omega) (by omega), av (n := (n : Int) + 1) (by omega) (by omega), show (i : Int) + -1 = (i : Int) - 1 by omega, add1 n]
  cases hmo : mo l[i]
  ·simp [Ay]
  ·by_cases h6 : (l[i]).toNat = 126
   ·simp only [h6, if_true]
    exact ih n f (by omega)
   ·simp only [h6, if_true, if_false]
    rw [ih (n + 1) _ (by omega)]
    simp only [List.length_cons]
    congr 2
    ·omega
    ·rw [Ay]
     cases run (l.take i).reverse with
     | nil => simp [Ay]
     | cons x xs => simp [Ay]
end Go.Proofs.YtaemgcpcfnbmdaaGreatDoor.LG
namespace Go.Proofs.YtaemgcpcfnbmdaaGreatDoor.LG
open Go Go.LG Go.Lib

def back (l : List UInt8) (at_ : Nat) : List UInt8 := run (l.take (at_ - 1)).reverse
def zV (l : List UInt8) (at_ : Nat) : List UInt8 := run (l.drop at_)
def rT (x y : UInt8) : ByteArray := ⟨#[x, y]⟩
def D9 (b : ak) (l : List UInt8) (at_ : Nat) : Bool :=
 decide (2 ≤ at_) && zT ((l.getD (at_ - 2) 0).toNat : Int) && decide (b.Before ≤ ((back l at_).length : Int)) && decide (b.Behind ≤ ((zV l at_).length : Int)) && !decide (rT ((back l at_).headD 0) ((zV l at_).headD 0) ∈ b.Keep)
def nb (l : List UInt8) : Bool := l.any fun c => decide (c.toNat ≠ 32)
def Bm (b : ak) (l : List UInt8) (at_ : Nat) : Option Bool :=
 if (l.getD (at_ - 1) 0).toNat = 32 then (if nb (l.take at_) = true ∧ (l.getD at_ 0).toNat ≠ 32 then some false else none)
 else if (l.getD (at_ - 1) 0).toNat = 45 then (if 2 ≤ at_ ∧ BL ((l.getD (at_ - 2) 0).toNat : Int) = true ∧ BL ((l.getD at_ 0).toNat : Int) = true then some false else none)
 else if (l.getD (at_ - 1) 0).toNat = 126 then (if D9 b l at_ = true then some true else none)
 else none
theorem lD (l : List UInt8) {i : Nat} (h : i < l.length) : bt ⟨l.toArray⟩ (i : Int) = ((l.getD i 0).toNat : Int) := by
 rw [oQ l h, List.getD_eq_getElem?_getD, List.getElem?_eq_getElem h]; rfl
theorem yk (x : UInt8) (xs : List UInt8) : sub ⟨(x :: xs).toArray⟩ 0 1 = ⟨#[x]⟩ := by
 rw [show (0 : Int) = ((0 : Nat) : Int) from rfl, show (1 : Int) = ((1 : Nat) : Int) from rfl, nz]
 simp
theorem B0 (b : ak) (l : List UInt8) (hs : l.length ≤ 1000000) (m : List (ByteArray × Bool)) (hm : ∀ k, (oo m k).getD false = decide (k ∈ b.Keep)) (h1 : 1 ≤ b.Before) (h2 : 1 ≤ b.Behind)
  {at_ : Nat} (ha : 1 ≤ at_) (hl : at_ < l.length) : du b.Before b.Behind b.Keep ⟨l.toArray⟩ m (at_ : Int) = some (D9 b l at_) := by
 unfold du D9
 rw [av (n := (at_ : Int) - 1) (by omega) (by omega), show (at_ : Int) - 1 = ((at_ - 1 : Nat) : Int) by omega, wM l hs _ _ _ _ (by omega), aa, wJ l hs _ _ _ _ (by omega), aa, sz, sz, sz]
 show (_ >>= fun v43 => (_ >>= fun v57 => _)) = _
 rw [show run (l.take (at_ - 1)).reverse = back l at_ from rfl, show run (l.drop at_) = zV l at_ from rfl]
 by_cases h3 : (at_ : Int) < 2
 ·have : ¬ 2 ≤ at_ := by omega
  rw [if_pos h3]
  simp [this]
 ·have e2 : 2 ≤ at_ := by omega
  rw [if_neg h3, av (n := (at_ : Int) - 2) (by omega) (by omega), show (at_ : Int) - 2 = ((at_ - 2 : Nat) : Int) by omega, if_pos (by omega), lD l (by omega), letter_eq, aa, aa]
  cases zT ((l.getD (at_ - 2) 0).toNat : Int)
  ·simp
  ·by_cases h4 : ((back l at_).length : Int) < b.Before
   ·have : ¬ b.Before ≤ ((back l at_).length : Int) := by omega
    simp [h4, this]
   ·by_cases h5 : ((zV l at_).length : Int) < b.Behind
    ·have : ¬ b.Behind ≤ ((zV l at_).length : Int) := by omega
     simp [h4, h5, this]
    ·have e4 : b.Before ≤ ((back l at_).length : Int) := by omega
     have e5 : b.Behind ≤ ((zV l at_).length : Int) := by omega
     simp only [h4, h5, e4, e5, e2, Bool.not_true, Bool.false_eq_true, if_false, aa, decide_true, decide_false, Bool.true_and]
     rw [if_pos (by omega), if_pos (by omega)]
     generalize back l at_ = x at *
     generalize zV l at_ = y at *
     cases x with
     | nil => simp at e4; omega
     | cons x xs =>
      cases y with
      | nil => simp at e5; omega
      | cons y ys =>
       rw [yk, yk, if_pos (show (⟨#[x]⟩ : ByteArray).size + (⟨#[y]⟩ : ByteArray).size ≤ 9223372036854775807 from (by show 1 + 1 ≤ 9223372036854775807; omega)), hm]
       rfl
theorem u5 (b : ak) (hs : b.Keep.length ≤ 100000000000000) (x y : UInt8) (hv : ∀ k ∈ b.Keep, ∃ u v : UInt8, k = rT u v) : ∀ (rest pre : List ByteArray), b.Keep = pre ++ rest →
  eZ b (x.toNat : Int) (y.toNat : Int) (pre.length : Int) = some (if rT x y ∈ rest then .inl () else .inr ())
 | [], pre, hk => by rw [eZ, if_neg (by rw [hk]; simp)]; simp
 | k :: ks, pre, hk => by
  have hl : b.Keep.length = pre.length + (ks.length + 1) := by rw [hk]; simp
  have hg : b.Keep.getD (Int.toNat (pre.length : Int)) ⟨#[]⟩ = k := by rw [hk, oN]
  obtain ⟨u, v, rfl⟩ := hv k (by rw [hk]; simp)
  have ih := u5 b hs x y hv ks (pre ++ [rT u v]) (by rw [hk]; simp)
  rw [show ((pre ++ [rT u v]).length : Int) = (pre.length : Int) + 1 by simp] at ih
  have b0 : bt (rT u v) 0 = (u.toNat : Int) := rfl
  have b1 : bt (rT u v) 1 = (v.toNat : Int) := rfl
  have s2 : (rT u v).size = 2 := rfl
  rw [eZ, if_pos (by omega), if_pos (by omega), hg, s2, b0, b1, if_pos (by omega), av (by omega) (by omega), ih]
  have hB : (0 : Int) ≤ (pre.length : Int) ∧ (pre.length : Int) < (b.Keep.length : Int) := by omega
  rw [if_pos hB]
  have inj : ∀ p q : UInt8, ((p.toNat : Int) = (q.toNat : Int)) ↔ p = q := fun p q => ⟨fun h => UInt8.toNat_inj.1 (by omega), fun h => by rw [h]⟩
  have kinj : rT x y = rT u v ↔ x = u ∧ y = v := by
   constructor
   ·intro h
    have := congrArg (fun k : ByteArray => k.data) h
    simpa [rT] using this
   ·rintro ⟨rfl, rfl⟩; rfl
  simp only [inj, List.mem_cons, kinj]
  by_cases e1 : u = x
  ·by_cases e2 : v = y
   ·simp [e1, e2]
   ·have e2' : ¬ y = v := fun h => e2 h.symm
    simp [e1, e2, e2']
  ·have e1' : ¬ x = u := fun h => e1 h.symm
   simp [e1, e1']
theorem u9 : ∀ (rest pre : List ByteArray), qd pre rest = true → ∀ k ∈ rest, BO k = true
 | [], _, _, k, hk => by cases hk
 | x :: xs, pre, h, k, hk => by
  rw [qd, Bool.and_eq_true, Bool.and_eq_true] at h
  rcases List.mem_cons.1 hk with rfl | hk
  ·exact h.1.1
  ·exact u9 xs _ h.2 k hk
theorem vV {b : ak} (h : vb b = true) : 1 ≤ b.Before ∧ b.Before ≤ 5 ∧ 1 ≤ b.Behind ∧ b.Behind ≤ 5 ∧ b.Keep.length ≤ 20 ∧ qd [] b.Keep = true := by
 unfold vb at h
 simp only [Bool.and_eq_true, decide_eq_true_eq] at h
 exact ⟨h.1.1.1.1, h.1.1.1.2, h.1.1.2.1, h.1.1.2.2, h.1.2, h.2⟩
theorem two_bytes {k : ByteArray} (h : (k.size : Int) = 2) : ∃ u v : UInt8, k = rT u v := by
 obtain ⟨⟨l⟩⟩ := k
 have h' : l.length = 2 := by
  have : ((⟨⟨l⟩⟩ : ByteArray)).size = l.length := rfl
  omega
 match l, h' with
 | [u, v], _ => exact ⟨u, v, rfl⟩
theorem BT {b : ak} (h : vb b = true) : ∀ k ∈ b.Keep, ∃ u v : UInt8, k = rT u v := by
 intro k hk
 have := u9 _ _ (vV h).2.2.2.2.2 k hk
 unfold BO at this
 simp only [Bool.and_eq_true, decide_eq_true_eq] at this
 exact two_bytes this.1.1
theorem zm (l : List UInt8) (n : Nat) (hs : l.length ≤ 1000000) (hn : n ≤ l.length) : ∀ (k i : Nat), n - i = k → i ≤ n → e9 ⟨l.toArray⟩ (n : Int) (i : Int) = some (if nb ((l.take n).drop i) = true then .inl () else .inr ()) := by
 intro k
 induction k with
 | zero =>
  intro i hk hi
  have : i = n := by omega
  subst this
  rw [e9, if_neg (by omega)]
  simp [nb, List.drop_eq_nil_of_le]
 | succ k ih =>
  intro i hk hi
  have hlt : i < n := by omega
  have hl : i < l.length := by omega
  have hd : (l.take n).drop i = l[i] :: (l.take n).drop (i + 1) := by
   rw [List.drop_eq_getElem_cons (by simp; omega)]; simp
  rw [e9, sz, oQ l hl, if_pos (by omega), if_pos (by omega), av (by omega) (by omega), add1, ih (i + 1) (by omega) (by omega), hd]
  by_cases h : (l[i]).toNat = 32
  ·have h' : ((l[i]).toNat : Int) = 32 := by omega
   simp [h', nb, h]
  ·have h' : ¬ ((l[i]).toNat : Int) = 32 := by omega
   simp [h', nb, h]
theorem xl (b : ak) (l : List UInt8) (hv : vb b = true) (hs : l.length ≤ 1000000) {at_ : Nat} (ha : 1 ≤ at_) (hl : at_ < l.length) :
  iP b ⟨l.toArray⟩ (at_ : Int) = some ((Bm b l at_).isSome, (Bm b l at_).getD false) := by
 obtain ⟨v1, v2, v3, v4, v5, v6⟩ := vV hv
 unfold iP Bm
 rw [av (n := (at_ : Int) - 1) (by omega) (by omega), show (at_ : Int) - 1 = ((at_ - 1 : Nat) : Int) by omega, sz, if_pos (by omega), lD l (show at_ - 1 < l.length by omega), lD l hl]
 have hS := zm l at_ hs (by omega) _ 0 rfl (Nat.zero_le _)
 rw [List.drop_zero, show ((0 : Nat) : Int) = 0 from rfl] at hS
 by_cases c1 : (l.getD (at_ - 1) 0).toNat = 32
 ·rw [if_pos (by omega), if_pos c1]
  unfold kH
  rw [hS, aa]
  have hB : (0 : Int) ≤ (at_ : Int) ∧ (at_ : Int) < ((l.length : Nat) : Int) := by omega
  generalize (l.getD at_ 0).toNat = d
  by_cases d1 : d = 32
  ·have d1' : ((d : Nat) : Int) = 32 := by omega
   cases nb (l.take at_) <;> simp only [Bool.false_eq_true, if_false, if_true, aa] <;> rw [if_pos hB] <;> simp [d1, d1']
  ·have d1' : ¬ ((d : Nat) : Int) = 32 := by omega
   cases nb (l.take at_) <;> simp only [Bool.false_eq_true, if_false, if_true, aa] <;> rw [if_pos hB] <;> simp [d1, d1']
 ·rw [if_neg (by omega), if_neg c1]
  by_cases c2 : (l.getD (at_ - 1) 0).toNat = 45
  ·rw [if_pos (by omega), if_pos c2]
   by_cases h2 : (at_ : Int) < 2
   ·have : ¬ 2 ≤ at_ := by omega
    rw [if_pos h2]; simp [this]
   ·have e2 : 2 ≤ at_ := by omega
    rw [if_neg h2, av (n := (at_ : Int) - 2) (by omega) (by omega), show (at_ : Int) - 2 = ((at_ - 2 : Nat) : Int) by omega, if_pos (by omega), lD l (by omega), sT, aa, if_pos (by omega), sT, aa]
    cases BL ((l.getD (at_ - 2) 0).toNat : Int) <;> cases BL ((l.getD at_ 0).toNat : Int) <;> simp [e2]
  ·rw [if_neg (by omega), if_neg c2]
   by_cases c3 : (l.getD (at_ - 1) 0).toNat = 126
   ·rw [if_neg (by omega), if_pos c3]
    unfold D9
    by_cases h2 : (at_ : Int) < 2
    ·have : ¬ 2 ≤ at_ := by omega
     rw [if_pos h2]; simp [this]
    ·have e2 : 2 ≤ at_ := by omega
     rw [if_neg h2, av (n := (at_ : Int) - 2) (by omega) (by omega), show (at_ : Int) - 2 = ((at_ - 2 : Nat) : Int) by omega, if_pos (by omega), lD l (by omega), se, aa]
     have hb := xd l hs (at_ - 1) 0 0 (by omega)
     have hf := wY l hs _ at_ 0 0 rfl (by omega) (by omega)
     rw [show ((at_ - 1 : Nat) : Int) - 1 = ((at_ - 2 : Nat) : Int) by omega] at hb
     rw [show ((0 : Nat) : Int) = 0 from rfl] at hb hf
     unfold jL
     rw [hb, hf]
     rw [show run (l.take (at_ - 1)).reverse = back l at_ from rfl, show run (l.drop at_) = zV l at_ from rfl]
     simp only [aa, Nat.zero_add]
     cases zT ((l.getD (at_ - 2) 0).toNat : Int)
     ·simp
     ·by_cases h4 : ((back l at_).length : Int) < b.Before
      ·have : ¬ b.Before ≤ ((back l at_).length : Int) := by omega
       simp [h4, this]
      ·by_cases h5 : ((zV l at_).length : Int) < b.Behind
       ·have : ¬ b.Behind ≤ ((zV l at_).length : Int) := by omega
        simp [h4, h5, this]
       ·have e4 : b.Before ≤ ((back l at_).length : Int) := by omega
        have e5 : b.Behind ≤ ((zV l at_).length : Int) := by omega
        simp only [h4, h5, e4, e5, e2, Bool.not_true, Bool.false_eq_true, if_false, aa, decide_true, decide_false, Bool.true_and]
        generalize back l at_ = x at *
        generalize zV l at_ = y at *
        cases x with
        | nil => simp at e4; omega
        | cons x xs =>
         cases y with
         | nil => simp at e5; omega
         | cons y ys =>
          have hK := u5 b (by omega) x y (BT hv) b.Keep [] rfl
          rw [show (([] : List ByteArray).length : Int) = 0 from rfl] at hK
          unfold kI
          simp only [Ay, if_true]
          rw [hK, aa]
          simp only [List.headD_cons]
          by_cases hm : rT x y ∈ b.Keep <;> simp [hm]
   ·rw [if_pos (by omega), if_neg c3]; simp

def yv (f : Nat → Option Bool) (at_ : Nat) : Nat → List (Nat × Bool)
 | 0 => []
 | n + 1 => match f at_ with
  | some h => (at_, h) :: yv f (at_ + 1) n
  | none => yv f (at_ + 1) n
def nq (p : Nat × Bool) : ah := ⟨(p.1 : Int), p.2⟩
def LP (b : ak) (l : List UInt8) : List (Nat × Bool) := yv (Bm b l) 1 (l.length - 1)
theorem yq (f : Nat → Option Bool) : ∀ (n a : Nat), (yv f a n).length ≤ n
 | 0, _ => Nat.le_refl _
 | n + 1, a => by
  have := yq f n (a + 1)
  simp only [yv]
  split
  ·simp only [List.length_cons]; omega
  ·omega
def Up : Nat → List (Nat × Bool) → Nat → Prop
 | a, [], e => a ≤ e
 | a, x :: xs, e => a ≤ x.1 ∧ Up x.1 xs e
theorem Up.mono {a a' e e' : Nat} : ∀ {xs : List (Nat × Bool)}, a' ≤ a → e ≤ e' → Up a xs e → Up a' xs e'
 | [], h, h', hu => Nat.le_trans h (Nat.le_trans hu h')
 | x :: xs, h, h', hu => ⟨Nat.le_trans h hu.1, Up.mono (Nat.le_refl _) h' hu.2⟩
theorem Aa (f : Nat → Option Bool) : ∀ (n a : Nat), Up a (yv f a n) (a + n)
 | 0, a => Nat.le_refl _
 | n + 1, a => by
  have := Aa f n (a + 1)
  simp only [yv]
  split
  ·exact ⟨Nat.le_refl _, Up.mono (by simp) (by omega) this⟩
  ·exact Up.mono (by omega) (by omega) this
theorem vp (b : ak) (l : List UInt8) (hv : vb b = true) (hs : l.length ≤ 1000000) : ∀ (n a : Nat) (acc : List ah), l.length - a = n → 1 ≤ a → acc.length ≤ a →
  eY b ⟨l.toArray⟩ acc (a : Int) = some (acc ++ (yv (Bm b l) a n).map nq) := by
 intro n
 induction n with
 | zero =>
  intro a acc hn ha hc
  rw [eY, sz, if_neg (by omega)]
  simp [yv]
 | succ n ih =>
  intro a acc hn ha hc
  rw [eY, sz, if_pos (by omega), xl b l hv hs ha (by omega), aa, av (by omega) (by omega), add1]
  simp only [yv]
  cases Bm b l a with
  | none =>
   simp only [Option.isSome_none, Bool.false_eq_true, if_false, aa]
   exact ih (a + 1) acc (by omega) (by omega) (by omega)
  | some h =>
   simp only [Option.isSome_some, if_true, Option.getD_some]
   rw [if_pos (by omega), aa, ih (a + 1) _ (by omega) (by omega) (by simp; omega)]
   simp [nq]
theorem xO (b : ak) (l : List UInt8) (hk : b.Keep.length ≤ 100000000000000) (hl : l.length ≤ 9223372036854775807) :
  jq b ⟨l.toArray⟩ = some (if (vb b && jm l) = true then ((LP b l).map nq, 0) else ([], 1)) := by
 unfold jq
 rw [uT b hk, aa, fT l hl, aa]
 cases hv : vb b
 ·simp
 ·cases ho : jm l
  ·simp
  ·have h2 := (dt ho).2
   have := vp b l hv (by omega) (l.length - 1) 1 [] (by omega) (Nat.le_refl _) (by simp)
   rw [show ((1 : Nat) : Int) = 1 from rfl] at this
   simp only [Bool.not_true, Bool.false_eq_true, if_false, aa, this, List.nil_append, Bool.and_self, if_true]
   rfl
def sV {σ : Type} (φ : σ → ah → Option (σ × Bool)) : List (Nat × Bool) → σ → Option (Sum σ σ)
 | [], s => some (.inr s)
 | x :: xs, s => φ s (nq x) >>= fun y => if y.2 = true then sV φ xs y.1 else some (.inl y.1)
theorem Cm (l : List UInt8) (a : Nat) (h : a < l.length) : nb (l.take (a + 1)) = (nb (l.take a) || decide ((l.getD a 0).toNat ≠ 32)) := by
 rw [List.take_succ_eq_append_getElem h, List.getD_eq_getElem?_getD, List.getElem?_eq_getElem h]
 unfold nb
 rw [List.any_append, List.any_cons, List.any_nil, Bool.or_false, Option.getD_some]
theorem xi {σ : Type} (φ : σ → ah → Option (σ × Bool)) (b : ak) (l : List UInt8) (m : List (ByteArray × Bool)) (hm : ∀ k, (oo m k).getD false = decide (k ∈ b.Keep)) (hv : vb b = true) (hs : l.length ≤ 1000000) :
  ∀ (n a : Nat) (s : σ), l.length - a = n → 1 ≤ a → aT φ b.Before b.Behind b.Keep ⟨l.toArray⟩ m (nb (l.take (a - 1))) (a : Int) s = sV φ (yv (Bm b l) a n) s := by
 obtain ⟨v1, v2, v3, v4, v5, v6⟩ := vV hv
 intro n
 induction n with
 | zero =>
  intro a s hn ha
  rw [aT, sz, if_neg (by omega)]
  rfl
 | succ n ih =>
  intro a s hn ha
  have hl : a < l.length := by omega
  have begun : (if nb (l.take (a - 1)) = true then some true else (if (0 : Int) ≤ ax ((a : Int) - 1) ∧ ax ((a : Int) - 1) < ((l.length : Nat) : Int) then some (decide (¬ (bt ⟨l.toArray⟩ (ax ((a : Int) - 1))) = 32)) else none)) = some (nb (l.take a)) := by
   rw [av (n := (a : Int) - 1) (by omega) (by omega), show (a : Int) - 1 = ((a - 1 : Nat) : Int) by omega, if_pos (c := (0 : Int) ≤ _ ∧ _) (by omega), lD l (by omega)]
   have := Cm l (a - 1) (by omega)
   rw [show a - 1 + 1 = a by omega] at this
   rw [this]
   cases nb (l.take (a - 1))
   ·simp; omega
   ·simp
  have next := fun s => ih (a + 1) s (by omega) (by omega)
  rw [show a + 1 - 1 = a by omega] at next
  rw [aT, sz, if_pos (by omega), begun, aa]
  rw [av (n := (a : Int) - 1) (by omega) (by omega), av (n := (a : Int) + 1) (by omega) (by omega), show (a : Int) - 1 = ((a - 1 : Nat) : Int) by omega, add1, if_pos (c := (0 : Int) ≤ ((a - 1 : Nat) : Int) ∧ _) (by omega), lD l (show a - 1 < l.length by omega), lD l hl]
  have yld : ∀ (h : Bool), decide (((l.getD (a - 1) 0).toNat : Int) = 126) = h →
    (((φ s (⟨(a : Int), decide (((l.getD (a - 1) 0).toNat : Int) = 126)⟩ : ah) >>= fun (s120, b121) => some (!b121, s120)) >>= fun (v109, v111) => (if v109 = true then some (Sum.inl v111) else some (Sum.inr (nb (l.take a), v111)))) >>= fun (o78 : Sum σ (Bool × σ)) => match o78 with | (Sum.inl v64) => some (Sum.inl v64) | (Sum.inr (v66, v68)) => aT φ b.Before b.Behind b.Keep ⟨l.toArray⟩ m v66 ((a + 1 : Nat) : Int) v68)
     = sV φ ((a, h) :: yv (Bm b l) (a + 1) n) s := by
   intro h hh
   rw [hh]
   show _ = φ s (nq (a, h)) >>= _
   show (((φ s (nq (a, h)) >>= _) >>= _) >>= _) = _
   cases φ s (nq (a, h)) with
   | none => rfl
   | some y =>
    obtain ⟨s', b'⟩ := y
    cases b'
    ·rfl
    ·simp only [aa, Bool.not_true, Bool.false_eq_true, if_false, if_true]
     exact next s'
  have nay : ((some (false, s) >>= fun (v109, v111) => (if v109 = true then some (Sum.inl v111) else some (Sum.inr (nb (l.take a), v111)))) >>= fun (o78 : Sum σ (Bool × σ)) => match o78 with | (Sum.inl v64) => some (Sum.inl v64) | (Sum.inr (v66, v68)) => aT φ b.Before b.Behind b.Keep ⟨l.toArray⟩ m v66 ((a + 1 : Nat) : Int) v68)
     = sV φ (yv (Bm b l) (a + 1) n) s := by
   simp only [aa, Bool.false_eq_true, if_false]
   exact next s
  simp only [yv]
  rw [Bm.eq_1 b l a]
  by_cases c1 : (l.getD (a - 1) 0).toNat = 32
  ·rw [if_pos (c := ((l.getD (a - 1) 0).toNat : Int) = 32) (by omega), if_pos c1]
   have hd : ((if nb (l.take a) = true then (if (0 : Int) ≤ (a : Int) ∧ (a : Int) < ((l.length : Nat) : Int) then some (decide (¬ ((l.getD a 0).toNat : Int) = 32)) else none) else some false) : Option Bool) = some (decide (nb (l.take a) = true ∧ (l.getD a 0).toNat ≠ 32)) := by
    rw [if_pos (c := (0 : Int) ≤ (a : Int) ∧ _) (by omega)]
    generalize (l.getD a 0).toNat = d
    by_cases d1 : d = 32
    ·have d1' : ((d : Nat) : Int) = 32 := by omega
     cases nb (l.take a) <;> simp [d1, d1']
    ·have d1' : ¬ ((d : Nat) : Int) = 32 := by omega
     cases nb (l.take a) <;> simp [d1, d1']
   rw [hd, aa]
   by_cases hp : nb (l.take a) = true ∧ (l.getD a 0).toNat ≠ 32
   ·rw [if_pos hp, decide_eq_true hp]
    simp only [if_true]
    rw [if_pos (by omega)]
    exact yld false (decide_eq_false (by omega))
   ·rw [if_neg hp, decide_eq_false hp]
    simp only [if_false, Bool.false_eq_true]
    exact nay
  ·rw [if_neg (c := ((l.getD (a - 1) 0).toNat : Int) = 32) (by omega), if_neg c1]
   by_cases c2 : (l.getD (a - 1) 0).toNat = 45
   ·rw [if_pos (c := ((l.getD (a - 1) 0).toNat : Int) = 45) (by omega), if_pos c2]
    by_cases h2 : 2 ≤ a
    ·rw [if_pos (c := (1 : Int) < (a : Int)) (by omega), av (n := (a : Int) - 2) (by omega) (by omega), show (a : Int) - 2 = ((a - 2 : Nat) : Int) by omega, if_pos (c := (0 : Int) ≤ ((a - 2 : Nat) : Int) ∧ _) (by omega), lD l (show a - 2 < l.length by omega), wZ, aa, wZ, aa]
     rw [if_pos (c := (0 : Int) ≤ (a : Int) ∧ _) (by omega), aa]
     cases BL ((l.getD (a - 2) 0).toNat : Int)
     ·simp only [Bool.false_eq_true, if_false, aa, and_false, false_and]
      exact nay
     ·simp only [if_true, aa]
      cases BL ((l.getD a 0).toNat : Int)
      ·simp only [Bool.false_eq_true, if_false, and_false]
       exact nay
      ·simp only [h2, if_true, and_self]
       rw [if_pos (by omega)]
       exact yld false (decide_eq_false (by omega))
    ·rw [if_neg (c := (1 : Int) < (a : Int)) (by omega), aa]
     simp only [h2, Bool.false_eq_true, if_false, aa, false_and]
     exact nay
   ·rw [if_neg (c := ((l.getD (a - 1) 0).toNat : Int) = 45) (by omega), if_neg c2]
    by_cases c3 : (l.getD (a - 1) 0).toNat = 126
    ·rw [if_pos (c := ((l.getD (a - 1) 0).toNat : Int) = 126) (by omega), if_pos c3, B0 b l hs m hm v1 v3 ha hl, aa]
     cases D9 b l a
     ·simp only [Bool.false_eq_true, if_false]
      exact nay
     ·simp only [if_true]
      rw [if_pos (by omega)]
      exact yld true (decide_eq_true (by omega))
    ·rw [if_neg (c := ((l.getD (a - 1) 0).toNat : Int) = 126) (by omega), if_neg c3]
     simp only [aa]
     exact next s
theorem yV {σ : Type} (φ : σ → ah → Option (σ × Bool)) (b : ak) (l : List UInt8) (m : List (ByteArray × Bool)) (hm : ∀ k, (oo m k).getD false = decide (k ∈ b.Keep)) (hv : vb b = true) (hs : l.length ≤ 1000000) (s : σ) :
  cF φ s b.Before b.Behind b.Keep ⟨l.toArray⟩ m = sV φ (LP b l) s >>= fun o => match o with | .inl v => some v | .inr v => some v := by
 have := xi φ b l m hm hv hs (l.length - 1) 1 s rfl (Nat.le_refl _)
 unfold cF LP
 rw [← this]
 rfl
theorem sC (b : ak) (l : List UInt8) : (LP b l).length ≤ l.length := Nat.le_trans (yq _ _ _) (by omega)
theorem u0 : ∀ (xs : List (Nat × Bool)) (acc : List ah), acc.length + xs.length ≤ 1000000 → sV (j5 (fun u x => cS u x)) xs (acc, none) = some (.inr (acc ++ xs.map nq, none))
 | [], acc, h => by simp [sV]
 | x :: xs, acc, h => by
  have ih := u0 xs (acc ++ [nq x]) (by simp at *; omega)
  simp only [List.length_cons] at h
  have step : j5 (fun u x => cS u x) (acc, none) (nq x) = some ((acc ++ [nq x], none), true) := by
   unfold j5 cS
   simp only
   rw [if_pos (by omega)]; rfl
  show (j5 (fun u x => cS u x) (acc, none) (nq x) >>= fun y => if y.2 = true then sV (j5 (fun u x => cS u x)) xs y.1 else some (.inl y.1)) = _
  rw [step, aa]
  simp only [if_true]
  rw [ih]
  simp
theorem th (b : ak) (l : List UInt8) (hk : b.Keep.length ≤ 100000000000000) :
  jW b ⟨l.toArray⟩ = some (if (vb b && jm l) = true then ((LP b l).map nq, 0) else ([], 1)) := by
 obtain ⟨m, h1, hm⟩ := xD b l hk
 unfold jW
 rw [h1, aa]
 cases hv : vb b
 ·simp
 ·cases ho : jm l
  ·simp
  ·have h2 := (dt ho).2
   simp only [Bool.and_self, Bool.not_true, Bool.false_eq_true, if_false, if_true]
   unfold eQ
   simp only [aa]
   rw [yV _ b l m hm hv (by omega), u0 _ [] (by have := sC b l; simp; omega), aa]
   simp

def part (l : List UInt8) (a e : Nat) (h : Bool) : List UInt8 := yi (shown ((l.drop a).take (e - a))) ++ (if h = true then [45] else [])
theorem pV : ∀ (s : List UInt8), replaceK [126] [] (s.count 126) s = shown s
 | [] => rfl
 | b :: s => by
  have ih := pV s
  by_cases h : b = 126
  ·subst h
   rw [List.count_cons_self, replaceK_hit _ _ _ _ 0 (by rw [index_one]; rfl)]
   simpa [shown] using ih
  ·have h' : ¬ b.toNat = 126 := fun e => h (UInt8.toNat_inj.1 (by rw [e]; rfl))
   rw [List.count_cons_of_ne (fun e => h e), j3, if_neg h', ← ih]
   cases hc : s.count 126 with
   | zero => rfl
   | succ k =>
    obtain ⟨i, hi⟩ := index_of_count (s := s) (old := [126]) (by rw [count_one]; omega)
    have hi' : index (b :: s) [126] = ((i + 1 : Nat) : Int) := by
     rw [index_one] at hi ⊢
     unfold indexByte
     simp [h, hi]
     all_goals omega
    rw [replaceK_hit _ _ _ _ _ hi, replaceK_hit _ _ _ _ _ hi']
    simp
theorem sw (s : List UInt8) : replaceAll s [126] [] = shown s := by
 have h1 : ¬ (([126] : List UInt8) == []) = true := by decide
 unfold replaceAll replace replaceNum
 rw [if_neg h1, if_pos (.inl (by omega)), count_one, pV]
theorem uQ (p q : List UInt8) : (⟨p.toArray⟩ : ByteArray) ++ ⟨q.toArray⟩ = ⟨(p ++ q).toArray⟩ := by
 apply ByteArray.ext
 simp
theorem oL (l : List UInt8) : (yi l).length ≤ l.length := by
 have h1 : (tr l).length ≤ l.length := by
  unfold tr trimRightB
  rw [List.length_reverse]
  exact Nat.le_trans (List.dropWhile_sublist _).length_le (by simp)
 exact Nat.le_trans (yb _) h1
theorem m8 (l : List UInt8) (a e : Nat) : ((l.drop a).take (e - a)).length ≤ l.length := by simp; omega
theorem DL (b : ak) (l : List UInt8) : Up 0 (LP b l) l.length := by
 unfold LP
 by_cases h : l.length = 0
 ·rw [h]; exact Nat.le_refl _
 ·exact Up.mono (by omega) (by omega) (Aa (Bm b l) (l.length - 1) 1)
theorem qu {l : List UInt8} (h : jm l = true) (a n : Nat) : jm ((l.drop a).take n) = true := by
 obtain ⟨h1, h2⟩ := dt h
 exact xP (fun b hb => h1 b (List.mem_of_mem_drop (List.mem_of_mem_take hb))) (by simp; omega)
theorem zN {l : List UInt8} (h : jm l = true) : jm (shown l) = true := by
 obtain ⟨h1, h2⟩ := dt h
 exact xP (fun b hb => h1 b (qt hb).1) (Nat.le_trans (jv l) h2)
theorem wV {l : List UInt8} (h : jm l = true) : iS ⟨l.toArray⟩ = some (⟨(shown l).toArray⟩, 0) := by
 have h2 := (dt h).2
 unfold iS
 rw [fT l (by omega), aa, h, sY (by omega)]
 rfl
theorem xy {l : List UInt8} (h : jm l = true) : jl ⟨l.toArray⟩ = some (⟨(yi l).toArray⟩, 0) := by
 have h2 := (dt h).2
 unfold jl
 rw [fT l (by omega), aa, h]
 simp only [Bool.not_true, Bool.false_eq_true, if_false]
 rw [uf _ l rfl (by omega), aa, tX _ (tl l) rfl (by have := yb l; omega), aa, yi, CU]
theorem tq {l : List UInt8} (ho : jm l = true) {a e : Nat} (hae : a ≤ e) (he : e ≤ l.length) (h : Bool) : ii ⟨l.toArray⟩ (a : Int) (e : Int) h = some ⟨(part l a e h).toArray⟩ := by
 have h2 := (dt ho).2
 have hsl := jv ((l.drop a).take (e - a))
 have htl := oL (shown ((l.drop a).take (e - a)))
 have hp := m8 l a e
 unfold ii part
 rw [sz, if_pos (by omega), nz, wV (qu ho _ _), aa]
 simp only
 rw [xy (zN (qu ho _ _)), aa]
 cases h
 ·simp
 ·simp only [if_true]
  rw [sz, if_pos (by
   have : (⟨#[45]⟩ : ByteArray).size = 1 := rfl
   omega)]
  exact congrArg some (uQ (yi (shown ((l.drop a).take (e - a)))) [45])
end Go.Proofs.YtaemgcpcfnbmdaaGreatDoor.LG
namespace Go.Proofs.YtaemgcpcfnbmdaaGreatDoor.LG
open Go Go.LG Go.Lib

theorem vE {i j : Int} (hi : 0 ≤ i) (hj : 0 ≤ j) (h : i + j ≤ 2000000) : ax (Int.fdiv (IntKind.wrap .u64 (ax (i + j))) (2 ^ 1)) = (i + j) / 2 := by
 have e1 : ax (i + j) = i + j := av (by omega) (by omega)
 have e2 : IntKind.wrap .u64 (i + j) = i + j := by
  simp [IntKind.wrap, IntKind.bits, IntKind.signed]
  omega
 rw [e1, e2]
 have e3 : Int.fdiv (i + j) (2 ^ 1) = (i + j) / 2 := by
  rw [Int.fdiv_eq_ediv_of_nonneg _ (by decide)]; rfl
 rw [e3]
 exact av (by omega) (by omega)
theorem qe (a b : Int) : cy a b = some (if a < b then -1 else if b < a then 1 else 0) := by
 unfold cy fP
 simp
 split
 ·rfl
 ·split <;> rfl
def ea {α : Type} (x : Option α) : Prop := ∃ r, x = some r
theorem ea.val {α : Type} {a : α} : ea (some a) := ⟨a, rfl⟩
theorem ea.bind {α β : Type} {x : Option α} {f : α → Option β} (h : ea x) (k : ∀ a, x = some a → ea (f a)) : ea (x >>= f) := by
 obtain ⟨a, ha⟩ := h
 rw [ha, aa]; exact k a ha
theorem ea.ite {α : Type} {c : Prop} [Decidable c] {x y : Option α} (h : c → ea x) (k : ¬ c → ea y) : ea (if c then x else y) := by
 by_cases hc : c
 ·rw [if_pos hc]; exact h hc
 ·rw [if_neg hc]; exact k hc
theorem ea.sub {α : Type} {c : Prop} [Decidable c] {x : Option α} (hc : c) (h : ea x) : ea (if c then x else none) := by rw [if_pos hc]; exact h
theorem pi (g : aA) (b : Int) : iA g b = some (if g.Byte < b then -1 else if b < g.Byte then 1 else 0) := by
 unfold iA
 rw [qe, aa]
theorem Cj (l : List aA) (b : Int) (hl : l.length ≤ 1000000) : ∀ (n : Nat) (i j : Int), (j - i).toNat = n → 0 ≤ i → i ≤ j → j ≤ (l.length : Int) →
  ∃ r : Int, aI l b i j = some r ∧ 0 ≤ r ∧ r ≤ (l.length : Int) := by
 intro n
 induction n using Nat.strongRecOn with
 | _ n ih =>
  intro i j hn h0 h1 h2
  rw [aI]
  by_cases h : i < j
  ·rw [if_pos h, vE h0 (by omega) (by omega), if_pos ⟨by omega, by omega⟩, pi, aa]
   have e : ax ((i + j) / 2 + 1) = (i + j) / 2 + 1 := av (by omega) (by omega)
   rw [e]
   by_cases hc : (if (l.getD (Int.toNat ((i + j) / 2)) ao).Byte < b then (-1 : Int) else if b < (l.getD (Int.toNat ((i + j) / 2)) ao).Byte then 1 else 0) < 0
   ·rw [if_pos hc]
    exact ih _ (by omega) _ _ rfl (by omega) (by omega) h2
   ·rw [if_neg hc]
    exact ih _ (by omega) _ _ rfl h0 (by omega) (by omega)
  ·rw [if_neg h]; exact ⟨i, rfl, h0, by omega⟩
theorem qq (f : ai) (b : Int) (hf : f.Glyphs.length ≤ 1000000) : ea (fE f b) := by
 obtain ⟨r, hr, h0, h1⟩ := Cj f.Glyphs b hf _ 0 _ rfl (Int.le_refl _) (by omega) (Int.le_refl _)
 unfold fE
 refine ea.bind ?_ fun a _ => ea.val
 unfold eT bJ
 rw [hr, aa]
 by_cases h : r < (f.Glyphs.length : Int)
 ·rw [if_pos h, if_pos ⟨h0, h⟩, pi]
  simp only [aa]
  exact ea.ite (fun _ => ea.val) fun _ => ea.sub ⟨h0, h⟩ ea.val
 ·rw [if_neg h]
  simp only [aa]
  exact ea.ite (fun _ => ea.val) fun hc => absurd rfl hc
theorem or2 (a b : Int) : kV [a, b] = some (if a = 0 then b else a) := by
 unfold kV
 rw [fQ]
 have e1 : ax (0 + 1) = 1 := by decide
 have e2 : ax (1 + 1) = 2 := by decide
 by_cases ha : a = 0
 ·subst ha
  rw [e1, fQ, e2, fQ]
  by_cases hb : b = 0
  ·subst hb; rfl
  ·simp [hb]
 ·simp [ha]
theorem sF (k : bX) (p : aO) : ea (gH k p) := by
 unfold gH cy fP
 refine ea.bind ?_ fun a _ => ea.bind ?_ fun b _ => ea.bind ⟨_, or2 a b⟩ fun _ _ => ea.val
 ·have := qe k.Left p.left; unfold cy fP at this; exact ⟨_, this⟩
 ·have := qe k.Right p.right; unfold cy fP at this; exact ⟨_, this⟩
theorem B9 (l : List bX) (p : aO) (hl : l.length ≤ 1000000) : ∀ (n : Nat) (i j : Int), (j - i).toNat = n → 0 ≤ i → i ≤ j → j ≤ (l.length : Int) →
  ∃ r : Int, aD l p i j = some r ∧ 0 ≤ r ∧ r ≤ (l.length : Int) := by
 intro n
 induction n using Nat.strongRecOn with
 | _ n ih =>
  intro i j hn h0 h1 h2
  rw [aD]
  by_cases h : i < j
  ·rw [if_pos h, vE h0 (by omega) (by omega), if_pos ⟨by omega, by omega⟩]
   obtain ⟨y, hy⟩ := sF (l.getD (Int.toNat ((i + j) / 2)) am) p
   rw [hy, aa]
   have e : ax ((i + j) / 2 + 1) = (i + j) / 2 + 1 := av (by omega) (by omega)
   rw [e]
   by_cases hc : y < 0
   ·rw [if_pos hc]
    exact ih _ (by omega) _ _ rfl (by omega) (by omega) h2
   ·rw [if_neg hc]
    exact ih _ (by omega) _ _ rfl h0 (by omega) (by omega)
  ·rw [if_neg h]; exact ⟨i, rfl, h0, by omega⟩
theorem AV (l : List bX) (p : aO) (hl : l.length ≤ 1000000) : ea (bU l p) := by
 obtain ⟨r, hr, h0, h1⟩ := B9 l p hl _ 0 _ rfl (Int.le_refl _) (by omega) (Int.le_refl _)
 unfold bU bh
 rw [hr, aa]
 by_cases h : r < (l.length : Int)
 ·obtain ⟨y, hy⟩ := sF (l.getD (Int.toNat r) am) p
  rw [if_pos h, if_pos ⟨h0, h⟩, hy]
  simp only [aa]
  exact ea.ite (fun _ => ea.val) fun _ => ea.sub ⟨h0, h⟩ ea.val
 ·rw [if_neg h]
  simp only [aa]
  exact ea.ite (fun _ => ea.val) fun hc => absurd rfl hc
theorem wI (f : ai) (hf : f.Glyphs.length ≤ 1000000) : ∀ (n i : Nat), f.Glyphs.length - i = n → ea (cA f (i : Int)) := by
 intro n
 induction n with
 | zero => intro i hn; rw [cA, if_neg (by omega)]; exact ea.val
 | succ n ih =>
  intro i hn
  rw [cA, if_pos (by omega), if_pos ⟨by omega, by omega⟩, av (n := (i : Int) + 1) (by omega) (by omega)]
  refine ea.bind ?_ fun _ _ => ea.ite (fun _ => ea.val) fun _ => ih (i + 1) (by omega)
  refine ea.ite (fun _ => ea.val) fun _ => ea.ite (fun _ => ea.val) fun _ => ea.ite (fun _ => ea.val) fun _ => ea.ite (fun _ => ea.val) fun _ => ea.ite (fun h => ?_) fun _ => ea.val
  rw [av (n := (i : Int) - 1) (by omega) (by omega)]
  exact ea.sub ⟨by omega, by omega⟩ ea.val
theorem vz (f : ai) (hf : f.Glyphs.length ≤ 1000000) (hk : f.Kerns.length ≤ 1000000) : ∀ (n i : Nat), f.Kerns.length - i = n → ea (cf f (i : Int)) := by
 intro n
 induction n with
 | zero => intro i hn; rw [cf, if_neg (by omega)]; exact ea.val
 | succ n ih =>
  intro i hn
  rw [cf, if_pos (by omega), if_pos ⟨by omega, by omega⟩, av (n := (i : Int) + 1) (by omega) (by omega)]
  refine ea.bind (qq f _ hf) fun a _ => ea.bind (qq f _ hf) fun b _ => ea.bind (ea.ite (fun _ => ea.val) fun _ => ea.val) fun _ _ => ea.bind (ea.ite (fun _ => ea.val) fun _ => ea.val) fun _ _ => ea.bind (ea.ite (fun _ => ea.val) fun _ => ea.val) fun _ _ => ?_
  refine ea.ite (fun _ => ea.val) fun _ => ea.bind ?_ fun _ _ => ea.ite (fun _ => ea.val) fun _ => ih (i + 1) (by omega)
  refine ea.ite (fun h => ?_) fun _ => ea.val
  rw [av (n := (i : Int) - 1) (by omega) (by omega)]
  exact ea.sub ⟨by omega, by omega⟩ (ea.bind (sF _ _) fun _ _ => ea.val)
theorem tQ (f : ai) (hf : f.Glyphs.length ≤ 1000000) (hk : f.Kerns.length ≤ 1000000) : ea (aU f) := by
 unfold aU
 refine ea.bind (ea.ite (fun _ => ea.val) fun _ => ea.val) fun _ _ => ea.ite (fun _ => ea.val) fun _ => ea.bind (wI f hf _ 0 rfl) fun o _ => ?_
 cases o
 ·exact ea.val
 ·refine ea.bind (vz f hf hk _ 0 rfl) fun o _ => ?_
  cases o <;> exact ea.val
end Go.Proofs.YtaemgcpcfnbmdaaGreatDoor.LG
namespace Go.Proofs.YtaemgcpcfnbmdaaGreatDoor.LG
open Go Go.LG Go.Lib

def Sm (f : ai) : Prop := f.Glyphs.length ≤ 1000000 ∧ f.Kerns.length ≤ 1000000
theorem Bp (f : ai) (hf : Sm f) (l : List UInt8) (hl : ∀ b ∈ l, 32 ≤ b.toNat ∧ b.toNat ≤ 126) : ∀ (n i : Nat), l.length - i = n → ea (eS f ⟨l.toArray⟩ i) := by
 intro n
 induction n with
 | zero => intro i hn; rw [eS, sz, if_neg (by omega)]; exact ea.val
 | succ n ih =>
  intro i hn
  have hlt : i < l.length := by omega
  have hb := hl _ (List.getElem_mem hlt)
  rw [eS, sz, if_pos hlt, j6 l hlt (by omega)]
  exact ea.bind (qq f _ hf.1) fun _ _ => ea.bind (ea.ite (fun _ => ea.val) fun _ => ea.val) fun _ _ => ea.ite (fun _ => ea.val) fun _ => ih (i + 1) (by omega)
theorem Cf (f : ai) (hf : Sm f) (l : List UInt8) : ea (fx f ⟨l.toArray⟩) := by
 unfold fx
 rw [iQ]
 refine ea.bind (tQ f hf.1 hf.2) fun y _ => ea.bind (ea.ite (fun _ => ea.val) fun _ => ea.val) fun v hv => ea.ite (fun _ => ea.val) fun hn => ?_
 have ho : jm l = true := by
  by_cases hy : (!y) = true
  ·rw [if_pos hy] at hv; cases hv; exact absurd rfl hn
  ·rw [if_neg hy, aa] at hv; cases hv; simpa using hn
 refine ea.bind (Bp f hf l (dt ho).1 _ 0 rfl) fun o _ => ?_
 cases o <;> exact ea.val
theorem Dc {f : ai} (hf : Sm f) {l : List UInt8} {b : Bool} {e : Int} (h : fx f ⟨l.toArray⟩ = some (b, e)) (he : e = 0) : jm l = true := by
 subst he
 obtain ⟨y, hy⟩ := tQ f hf.1 hf.2
 unfold fx at h
 rw [iQ, hy] at h
 simp only [aa] at h
 cases ho : jm l
 ·rw [ho] at h
  cases y <;> simp at h
 ·rfl
theorem AQ (f : ai) (hf : Sm f) (u : Int) (p : aO) : ∃ u2, j5 (fun (u : Int) (x : aO) => cV f u x) (u, none) p = some ((u2, none), true) := by
 obtain ⟨g, hg⟩ := qq f p.right hf.1
 obtain ⟨k, hk⟩ := AV f.Kerns p hf.2
 unfold j5 cV
 simp only [hg, hk, aa]
 exact ⟨_, rfl⟩
theorem wR (f : ai) (hf : Sm f) (l : List UInt8) (hl : ∀ b ∈ l, 32 ≤ b.toNat ∧ b.toNat ≤ 126) : ∀ (n i : Nat) (p u : Int), l.length - i = n →
  ∃ j u2, bp (j5 (fun (u : Int) (x : aO) => cV f u x)) ⟨l.toArray⟩ p i (u, none) = some (.inr (j, (u2, none))) := by
 intro n
 induction n with
 | zero => intro i p u hn; rw [bp, sz, if_neg (by omega)]; exact ⟨_, _, rfl⟩
 | succ n ih =>
  intro i p u hn
  have hlt : i < l.length := by omega
  have hb := hl _ (List.getElem_mem hlt)
  rw [bp, sz, if_pos hlt, j6 l hlt (by omega)]
  by_cases h : ((l[i].toNat, 1).1 : Int) = 126
  ·rw [if_pos h]; exact ih (i + 1) p u (by omega)
  ·rw [if_neg h]
   obtain ⟨u2, h2⟩ := AQ f hf u ⟨p, uG (((l[i].toNat, 1).1 : Int))⟩
   rw [h2, aa]
   exact ih (i + 1) _ u2 (by omega)
theorem Ct (f : ai) (hf : Sm f) (l : List UInt8) : ea (jn f ⟨l.toArray⟩) := by
 unfold jn
 refine ea.bind (Cf f hf l) fun a ha => ?_
 obtain ⟨b, e⟩ := a
 refine ea.ite (fun _ => ea.val) fun he => ea.ite (fun _ => ea.val) fun _ => ?_
 have ho := Dc hf ha (Decidable.not_not.1 he)
 obtain ⟨j, u, hu⟩ := wR f hf l (dt ho).1 _ 0 0 0 rfl
 unfold kU ff
 rw [aa, hu]
 exact ea.val
theorem y3 (f : ai) (hf : Sm f) (l : List UInt8) (s : Int) : ea (df f ⟨l.toArray⟩ s) := by
 unfold df
 exact ea.bind (Ct f hf l) fun _ _ => ea.bind (ea.ite (fun _ => ea.val) fun _ => ea.val) fun _ _ => ea.bind (ea.ite (fun _ => ea.val) fun _ => ea.val) fun _ _ => ea.ite (fun _ => ea.val) fun _ => ea.ite (fun _ => ea.val) fun _ => ea.val
theorem vK (l : List UInt8) (hs : l.length ≤ 1000000) {a e : Nat} (hae : a ≤ e) (he : e ≤ l.length) (h : Bool) : ix ⟨l.toArray⟩ (a : Int) (e : Int) h = some ⟨(part l a e h).toArray⟩ := by
 have hp := m8 l a e
 unfold ix strings_ReplaceAll mW
 rw [sz, if_pos (by omega), nz]
 simp only
 have e1 : ((⟨#[126]⟩ : ByteArray)).data.toList = [126] := rfl
 have e2 : ((⟨#[]⟩ : ByteArray)).data.toList = [] := rfl
 have e3 : ((⟨#[32]⟩ : ByteArray)).data.toList = [32] := rfl
 rw [sz, if_pos ⟨by omega, by decide, by decide⟩, aa, sw]
 have hsl := jv ((l.drop a).take (e - a))
 have htl := oL (shown ((l.drop a).take (e - a)))
 rw [sz, if_pos (by omega)]
 simp only
 rw [if_pos (by decide), aa]
 have ht : (trimB (shown ((l.drop a).take (e - a))) 32).length ≤ 1000000 := Nat.le_trans htl (by omega)
 cases h
 ·simp only [Bool.false_eq_true, if_false]
  unfold part
  simp only [Bool.false_eq_true, if_false, List.append_nil]
  rfl
 ·simp only [if_true]
  have e4 : (⟨#[45]⟩ : ByteArray).size = 1 := rfl
  rw [sz, e4, if_pos (by omega)]
  unfold part
  simp only [if_true]
  exact congrArg some (uQ (trimB (shown ((l.drop a).take (e - a))) 32) [45])
def W (f : ai) (l : List UInt8) (s : Int) (a : Nat) (p : Nat × Bool) : Int := ((df f ⟨(part l a p.1 p.2).toArray⟩ s).map (·.1)).getD 0
def ln (f : ai) (l : List UInt8) (s : Int) (a : Nat) (p : Nat × Bool) : az := ⟨(a : Int), (p.1 : Int), W f l s a p, p.2⟩
theorem yz (f : ai) (hf : Sm f) (l : List UInt8) (hs : l.length ≤ 1000000) (E : List ah) (s : Int) {a : Nat} {p : Nat × Bool} (hae : a ≤ p.1) (he : p.1 ≤ l.length) :
  cJ ⟨l.toArray⟩ E f s (a : Int) (nq p) = some (ln f l s a p) := by
 obtain ⟨⟨w, e⟩, hw⟩ := y3 f hf (part l a p.1 p.2) s
 unfold cJ fb
 show (ix ⟨l.toArray⟩ (a : Int) (p.1 : Int) p.2 >>= _) = _
 rw [vK l hs hae he, aa, hw]
 unfold ln W
 rw [hw]
 rfl
end Go.Proofs.YtaemgcpcfnbmdaaGreatDoor.LG
namespace Go.Proofs.YtaemgcpcfnbmdaaGreatDoor.LG
open Go Go.LG Go.Lib

def ends (b : ak) (l : List UInt8) : List (Nat × Bool) := LP b l ++ [(l.length, false)]
theorem CT : ∀ {xs : List (Nat × Bool)} {a e : Nat}, Up a xs e → xs.Pairwise (fun x y => x.1 ≤ y.1) ∧ ∀ x ∈ xs, a ≤ x.1 ∧ x.1 ≤ e
 | [], a, e, _ => ⟨List.Pairwise.nil, fun _ h => nomatch h⟩
 | x :: xs, a, e, h => by
  obtain ⟨h1, h2⟩ := CT h.2
  have hx : x.1 ≤ e := by
   cases xs with
   | nil => exact h.2
   | cons y ys => have := h2 y (by simp); omega
  refine ⟨List.pairwise_cons.2 ⟨fun y hy => (h2 y hy).1, h1⟩, fun y hy => ?_⟩
  rcases List.mem_cons.1 hy with rfl | hy
  ·exact ⟨h.1, hx⟩
  ·have := h2 y hy; have := h.1; omega
theorem vB (b : ak) (l : List UInt8) : (ends b l).Pairwise (fun x y => x.1 ≤ y.1) ∧ ∀ x ∈ ends b l, x.1 ≤ l.length := by
 obtain ⟨h1, h2⟩ := CT (DL b l)
 unfold ends
 refine ⟨List.pairwise_append.2 ⟨h1, List.pairwise_singleton _ _, fun x hx y hy => ?_⟩, fun x hx => ?_⟩
 ·rw [List.mem_singleton.1 hy]; exact (h2 x hx).2
 ·rcases List.mem_append.1 hx with hx | hx
  ·exact (h2 x hx).2
  ·rw [List.mem_singleton.1 hx]; exact Nat.le_refl _
theorem AM (b : ak) (l : List UInt8) : (ends b l).length ≤ l.length + 1 := by
 have := sC b l
 unfold ends; simp; exact this
theorem jb (E : List (Nat × Bool)) {i : Nat} (h : i < E.length) : (E.map nq).getD (Int.toNat (i : Int)) aG = nq E[i] := by
 simp [List.getD_eq_getElem?_getD, h]
theorem xM (E : List (Nat × Bool)) (hE : E.length ≤ 1000000) (a : Nat) (hl : ∃ x, E.getLast? = some x ∧ a < x.1) : ∀ (n i : Nat), E.length - i = n → i < E.length → (∀ j (h : j < E.length), j < i → E[j].1 ≤ a) →
  ∃ k, ∃ h : k < E.length, bd (E.map nq) (a : Int) (i : Int) = some (.inl (k : Int)) ∧ a < E[k].1 ∧ ∀ j (h : j < E.length), j < k → E[j].1 ≤ a := by
 intro n
 induction n with
 | zero => intro i hn hi; omega
 | succ n ih =>
  intro i hn hi hb
  rw [bd, List.length_map, if_pos (by omega), if_pos ⟨by omega, by omega⟩, jb E hi]
  unfold eH
  rw [aa]
  show ∃ k, ∃ h : k < E.length, (if decide ((a : Int) < (E[i].1 : Int)) = true then _ else _) = _ ∧ _
  by_cases h : a < E[i].1
  ·rw [if_pos (by simpa using h)]
   exact ⟨i, hi, rfl, h, hb⟩
  ·rw [if_neg (by simpa using h), av (by omega) (by omega), add1]
   have hi2 : i + 1 < E.length := by
    rcases Nat.lt_or_ge (i + 1) E.length with h' | h'
    ·exact h'
    ·obtain ⟨x, hx, hax⟩ := hl
     have : i = E.length - 1 := by omega
     rw [List.getLast?_eq_getElem?, ← this, List.getElem?_eq_getElem hi] at hx
     cases hx; omega
   refine ih (i + 1) (by omega) hi2 fun j hj hji => ?_
   rcases Nat.lt_or_ge j i with h' | h'
   ·exact hb j hj h'
   ·have : j = i := by omega
    subst this; omega
def pick (w : Nat × Bool → Int) (room : Int) (D : List (Nat × Bool)) : Nat → Option Nat
 | 0 => none
 | m + 1 => if w (D.getD m (0, false)) ≤ room then some m else pick w room D m
theorem vF {w : Nat × Bool → Int} {room : Int} {D : List (Nat × Bool)} : ∀ {m i : Nat}, pick w room D m = some i → i < m ∧ w (D.getD i (0, false)) ≤ room
 | 0, i, h => nomatch h
 | m + 1, i, h => by
  unfold pick at h
  split at h
  ·cases h; exact ⟨Nat.lt_succ_self _, by assumption⟩
  ·have := vF h; exact ⟨by omega, this.2⟩
def tup (x : az) : Int × Int × Int × Bool := (x.From, x.Until, x.Width, x.Hyphen)
abbrev nx (s : ByteArray) (E : List ah) (f : ai) (sc a room : Int) : (Int × Int × Int × Bool) → (Int × ah) → Option ((Int × Int × Int × Bool) × Option Nat) :=
 fun (u : Int × Int × Int × Bool) (x : Int × ah) => bM s E f sc a room u.1 u.2.1 u.2.2.1 u.2.2.2 x.1 x.2
theorem zR (f : ai) (hf : Sm f) (l : List UInt8) (hs : l.length ≤ 1000000) (E : List ah) (sc room : Int) (a : Nat) (D : List (Nat × Bool)) (hD : ∀ x ∈ D, a ≤ x.1 ∧ x.1 ≤ l.length) (hl : D.length ≤ 1000000) (z : Int × Int × Int × Bool) :
  ∀ m : Nat, m ≤ D.length → aR (j5 (nx ⟨l.toArray⟩ E f sc (a : Int) room)) (D.map nq) ((m : Int) - 1) (z, none) =
   some (match pick (W f l sc a) room D m with | some i => .inl (tup (ln f l sc a (D.getD i (0, false))), some 0) | none => .inr (z, none)) := by
 intro m
 induction m with
 | zero => intro _; rw [aR, if_neg (by omega)]; rfl
 | succ m ih =>
  intro hm
  have hlt : m < D.length := by omega
  rw [aR, List.length_map, if_pos (by omega), if_pos ⟨by omega, by omega⟩]
  have e1 : (((m + 1 : Nat) : Int) - 1) = (m : Int) := by omega
  rw [e1, jb D hlt]
  have hx := hD D[m] (List.getElem_mem hlt)
  have e2 : D.getD m (0, false) = D[m] := by simp [List.getD_eq_getElem?_getD, hlt]
  have step : j5 (nx ⟨l.toArray⟩ E f sc (a : Int) room) (z, none) ((m : Int), nq D[m]) = some (if W f l sc a D[m] ≤ room then ((tup (ln f l sc a D[m]), some 0), false) else ((z, none), true)) := by
   unfold j5
   simp only [nx]
   unfold bM
   rw [yz f hf l hs E sc hx.1 hx.2, aa]
   show ((if W f l sc a D[m] ≤ room then _ else _) >>= _) = _
   by_cases hw : W f l sc a D[m] ≤ room
   ·rw [if_pos hw, if_pos hw]; rfl
   ·rw [if_neg hw, if_neg hw]; rfl
  rw [step, aa]
  unfold pick
  rw [e2]
  by_cases hw : W f l sc a D[m] ≤ room
  ·rw [if_pos hw, if_pos hw]
   simp only [e2]
   rfl
  ·rw [if_neg hw, if_neg hw]
   show aR _ _ (ax ((m : Int) - 1)) (z, none) = _
   rw [av (by omega) (by omega)]
   exact ih (by omega)
def stop (f : ai) (l : List UInt8) (sc : Int) (a : Nat) (room : Int) (D : List (Nat × Bool)) : Nat × Bool :=
 match pick (W f l sc a) room D D.length with
 | some i => D.getD i (0, false)
 | none => D.getD 0 (0, false)
theorem yS (f : ai) (hf : Sm f) (b : ak) (l : List UInt8) (hs : l.length ≤ 100000) (sc : Int) {a : Nat} (ha : a < l.length) :
  ∃ k, ∃ h : k < (ends b l).length, a < ((ends b l)[k]).1 ∧ (∀ j (h : j < (ends b l).length), j < k → ((ends b l)[j]).1 ≤ a) ∧
   ∀ room, b5 ⟨l.toArray⟩ ((ends b l).map nq) f sc (a : Int) room = some (ln f l sc a (stop f l sc a room ((ends b l).drop k))) := by
 have hlen := AM b l
 obtain ⟨hpw, hle⟩ := vB b l
 have hl : ∃ x, (ends b l).getLast? = some x ∧ a < x.1 := ⟨(l.length, false), by unfold ends; simp, ha⟩
 have h0 : 0 < (ends b l).length := by unfold ends; simp
 obtain ⟨k, hk, hi, hak, hb⟩ := xM (ends b l) (by omega) a hl _ 0 rfl h0 (fun j _ h => by omega)
 refine ⟨k, hk, hak, hb, fun room => ?_⟩
 have hi' : bd ((ends b l).map nq) (a : Int) 0 = some (.inl (k : Int)) := hi
 have hc : fk ((ends b l).map nq) (k : Int) (((ends b l).length : Nat) : Int) = ((ends b l).drop k).map nq := by
  unfold fk
  rw [Int.toNat_natCast, Int.toNat_natCast, List.take_of_length_le (by simp), List.map_drop]
 have hDl : ((ends b l).drop k).length = (ends b l).length - k := List.length_drop ..
 have hD : ∀ x ∈ (ends b l).drop k, a ≤ x.1 ∧ x.1 ≤ l.length := by
  intro x hx
  refine ⟨?_, hle x (List.mem_of_mem_drop hx)⟩
  rw [List.drop_eq_getElem_cons hk] at hx
  rcases List.mem_cons.1 hx with rfl | hx
  ·omega
  ·have h2 := hpw.sublist (List.drop_sublist k _)
   rw [List.drop_eq_getElem_cons hk] at h2
   have := (List.pairwise_cons.1 h2).1 x hx
   omega
 have hD0 : 0 < ((ends b l).drop k).length := by omega
 unfold b5 cr dJ cd
 rw [hi', aa]
 show (some (k : Int) >>= _) = _
 rw [aa, List.length_map, if_pos ⟨by omega, by omega⟩, hc, aa, List.length_map, av (n := (((ends b l).drop k).length : Int) - 1) (by omega) (by omega)]
 have hB := zR f hf l (by omega) ((ends b l).map nq) sc room a _ hD (by omega) (0, 0, 0, false) ((ends b l).drop k).length (Nat.le_refl _)
 unfold nx at hB
 rw [hB, aa]
 unfold stop
 cases hp : pick (W f l sc a) room ((ends b l).drop k) ((ends b l).drop k).length with
 | some i => rfl
 | none =>
  show (if (0 : Int) ≤ 0 ∧ (0 : Int) < ((((ends b l).drop k).length : Nat) : Int) then _ else none) = _
  rw [if_pos ⟨by omega, by omega⟩]
  have e := jb ((ends b l).drop k) hD0
  have e' : (((ends b l).drop k).map nq).getD (Int.toNat 0) aG = nq (((ends b l).drop k)[0]) := e
  have hx := hD _ (List.getElem_mem hD0)
  have e3 : ((ends b l).drop k).getD 0 (0, false) = ((ends b l).drop k)[0] := by rw [List.getD_eq_getElem?_getD, List.getElem?_eq_getElem hD0]; rfl
  rw [e', yz f hf l (by omega) _ sc hx.1 hx.2, aa]
  simp only [e3]
end Go.Proofs.YtaemgcpcfnbmdaaGreatDoor.LG
namespace Go.Proofs.YtaemgcpcfnbmdaaGreatDoor.LG
open Go Go.LG Go.Lib

theorem xe (f : ai) (c : Int) (hf : f.Glyphs.length ≤ 1000000) : ∀ (n i : Nat), f.Glyphs.length - i = n → ∃ o, bw f c (i : Int) = some o ∧ ∀ v, o = .inl v → 0 ≤ v ∧ v < (f.Glyphs.length : Int) := by
 intro n
 induction n with
 | zero => intro i hn; rw [bw, if_neg (by omega)]; exact ⟨_, rfl, fun v h => by cases h⟩
 | succ n ih =>
  intro i hn
  rw [bw, if_pos (by omega), if_pos ⟨by omega, by omega⟩, av (n := (i : Int) + 1) (by omega) (by omega)]
  by_cases h : ((f.Glyphs.getD (Int.toNat (i : Int)) ao).Byte) = c
  ·rw [if_pos h]; exact ⟨_, rfl, fun v h => by cases h; omega⟩
  ·rw [if_neg h]; exact ih (i + 1) (by omega)
theorem ye (f : ai) (c : Int) (hf : f.Glyphs.length ≤ 1000000) : ∃ v, cQ f c = some v ∧ (0 ≤ v → v < (f.Glyphs.length : Int)) := by
 obtain ⟨o, ho, h⟩ := xe f c hf _ 0 rfl
 unfold cQ
 have ho' : bw f c 0 = some o := ho
 rw [ho', aa]
 cases o with
 | inl v => exact ⟨v, rfl, fun _ => (h v rfl).2⟩
 | inr u => exact ⟨-1, rfl, fun h => by omega⟩
end Go.Proofs.YtaemgcpcfnbmdaaGreatDoor.LG
namespace Go.Proofs.YtaemgcpcfnbmdaaGreatDoor.LG
open Go Go.LG Go.Lib

theorem hZ (x lo hi : Int) : aY x lo hi = some (decide (lo ≤ x ∧ x ≤ hi)) := by
 have key : ∀ a b : Int, ic a b = some (if a < b then -1 else if b < a then 1 else 0) := by
  intro a b
  unfold ic cmp_isNaN_int
  simp
  split
  ·rfl
  ·split <;> rfl
 unfold aY
 rw [key, aa]
 by_cases h1 : x < lo
 ·have : ¬ (lo ≤ x ∧ x ≤ hi) := by omega
  simp [h1, this]
 ·rw [if_neg h1]
  have h0 : (0 : Int) ≤ (if lo < x then 1 else 0) := by split <;> decide
  rw [if_pos h0, key, aa, aa]
  congr 1
  by_cases h2 : x < hi
  ·have : lo ≤ x ∧ x ≤ hi := by omega
   simp [h2, this]
  ·rw [if_neg h2]
   by_cases h3 : hi < x
   ·have : ¬ (lo ≤ x ∧ x ≤ hi) := by omega
    simp [h3, this]
   ·have : lo ≤ x ∧ x ≤ hi := by omega
    simp [h3, this]
end Go.Proofs.YtaemgcpcfnbmdaaGreatDoor.LG
namespace Go.Proofs.YtaemgcpcfnbmdaaGreatDoor.LG
open Go Go.LG Go.Lib

def behind (b : ak) (l : List UInt8) (a : Nat) : List (Nat × Bool) := (ends b l).dropWhile fun p => decide (p.1 ≤ a)
theorem q9 {α : Type} (p : α → Bool) : ∀ (k : Nat) (E : List α) (h : k < E.length), p E[k] = false → (∀ j (h : j < E.length), j < k → p E[j] = true) → E.dropWhile p = E.drop k
 | 0, x :: E, h, hk, hb => by
  have : p x = false := hk
  simp [List.dropWhile_cons, this]
 | k + 1, x :: E, h, hk, hb => by
  have h0 : p x = true := hb 0 (by simp) (by omega)
  rw [List.dropWhile_cons, if_pos h0, List.drop_succ_cons]
  exact q9 p k E (by simpa using h) (by simpa using hk) fun j hj hjk => by
   have := hb (j + 1) (by simpa using hj) (by omega)
   simpa using this
def vZ (f : ai) (b : ak) (l : List UInt8) (sc : Int) (a : Nat) (room : Int) : Nat × Bool := stop f l sc a room (behind b l a)
theorem rn (f : ai) (hf : Sm f) (b : ak) (l : List UInt8) (hs : l.length ≤ 100000) (sc : Int) {a : Nat} (ha : a < l.length) (room : Int) :
  b5 ⟨l.toArray⟩ ((ends b l).map nq) f sc (a : Int) room = some (ln f l sc a (vZ f b l sc a room)) ∧ vZ f b l sc a room ∈ ends b l ∧ a < (vZ f b l sc a room).1 ∧ (vZ f b l sc a room).1 ≤ l.length := by
 obtain ⟨k, hk, hak, hb, hx⟩ := yS f hf b l hs sc ha
 have e : behind b l a = (ends b l).drop k := q9 _ k _ hk (by simpa using hak) fun j hj hjk => by simpa using hb j hj hjk
 obtain ⟨hpw, hle⟩ := vB b l
 have hm : vZ f b l sc a room ∈ (ends b l).drop k := by
  have h0 : 0 < ((ends b l).drop k).length := by rw [List.length_drop]; omega
  have key : ∀ i, i < ((ends b l).drop k).length → ((ends b l).drop k).getD i (0, false) ∈ (ends b l).drop k := fun i hi => by
   rw [List.getD_eq_getElem?_getD, List.getElem?_eq_getElem hi]
   exact List.getElem_mem hi
  unfold vZ stop
  rw [e]
  cases hp : pick (W f l sc a) room ((ends b l).drop k) ((ends b l).drop k).length with
  | none => exact key 0 h0
  | some i => exact key i (vF hp).1
 refine ⟨by rw [hx room]; unfold vZ; rw [e], List.mem_of_mem_drop hm, ?_, hle _ (List.mem_of_mem_drop hm)⟩
 have h2 := hpw.sublist (List.drop_sublist k _)
 rw [List.drop_eq_getElem_cons hk] at h2 hm
 rcases List.mem_cons.1 hm with h | h
 ·rw [h]; exact hak
 ·have := (List.pairwise_cons.1 h2).1 _ h
  omega
def DD (f : ai) (b : ak) (l : List UInt8) (sc : Int) (R : Nat → Int) : Nat → Nat → Nat → List az
 | 0, _, _ => []
 | n + 1, a, i => if wc false (l.drop a) = 0 then [] else ln f l sc a (vZ f b l sc a (R i)) :: DD f b l sc R n (vZ f b l sc a (R i)).1 (i + 1)
def oD (rooms : List Int) (i : Nat) : Int := rooms.getD (min i (rooms.length - 1)) 0
theorem xZ (f : ai) (hf : Sm f) (b : ak) (l : List UInt8) (hs : l.length ≤ 100000) (ho : jm l = true) (sc : Int) (rooms : List Int) (hr : 0 < rooms.length) (hr2 : rooms.length ≤ 1000000) :
  ∀ (n a i : Nat) (acc : List az), l.length - a < n → a ≤ l.length → i ≤ a → acc.length ≤ a →
   bo (j5 (fun (u : (List az)) (x : az) => aP u x)) ⟨l.toArray⟩ ((ends b l).map nq) f sc rooms (a : Int) (i : Int) (acc, none) = some (acc ++ DD f b l sc (oD rooms) n a i, none) := by
 intro n
 induction n with
 | zero => intro a i acc h; omega
 | succ n ih =>
  intro a i acc hn ha hi hacc
  have e0 : sub ⟨l.toArray⟩ (a : Int) (l.length : Int) = ⟨(l.drop a).toArray⟩ := by
   rw [nz]
   congr 2
   exact List.take_of_length_le (by simp)
  have hod : jm (l.drop a) = true := by
   have := qu ho a (l.drop a).length
   rwa [List.take_length] at this
  rw [bo, sz, if_pos ⟨by omega, by omega⟩, e0, oP hod, aa]
  unfold DD
  by_cases hw : wc false (l.drop a) = 0
  ·rw [if_pos hw]
   simp [hw]
  ·rw [if_neg hw]
   have hlt : a < l.length := by
    rcases Nat.lt_or_ge a l.length with h | h
    ·exact h
    ·exact absurd (by rw [List.drop_eq_nil_of_le h]; rfl) hw
   have e1 : ax ((rooms.length : Int) - 1) = (rooms.length : Int) - 1 := av (by omega) (by omega)
   have e2 : min (i : Int) ((rooms.length : Int) - 1) = ((min i (rooms.length - 1) : Nat) : Int) := by omega
   have e3 : ax ((i : Int) + 1) = ((i + 1 : Nat) : Int) := by rw [av (by omega) (by omega)]; omega
   obtain ⟨hx, hm, hgt, hle⟩ := rn f hf b l hs sc hlt (oD rooms i)
   show (if ((wc false (l.drop a) : Nat) : Int) = 0 then _ else _) = _
   rw [if_neg (by omega), e1, e2, if_pos ⟨by omega, by omega⟩]
   have e4 : rooms.getD (Int.toNat ((min i (rooms.length - 1) : Nat) : Int)) 0 = oD rooms i := rfl
   rw [e4, hx, aa]
   have step : j5 (fun (u : (List az)) (x : az) => aP u x) (acc, none) (ln f l sc a (vZ f b l sc a (oD rooms i))) = some ((acc ++ [ln f l sc a (vZ f b l sc a (oD rooms i))], none), true) := by
    unfold j5 aP
    simp only
    rw [if_pos (by omega)]; rfl
   rw [step, aa, e3]
   have := ih (vZ f b l sc a (oD rooms i)).1 (i + 1) (acc ++ [ln f l sc a (vZ f b l sc a (oD rooms i))]) (by omega) hle (by omega) (by simp; omega)
   rw [List.append_assoc] at this
   exact this
end Go.Proofs.YtaemgcpcfnbmdaaGreatDoor.LG
namespace Go.Proofs.YtaemgcpcfnbmdaaGreatDoor.LG
open Go Go.LG Go.Lib

theorem yC (l : List UInt8) (a : Nat) : sub ⟨l.toArray⟩ (a : Int) (l.length : Int) = ⟨(l.drop a).toArray⟩ := by
 rw [nz]
 congr 2
 exact List.take_of_length_le (by simp)
theorem ym {l : List UInt8} (ho : jm l = true) (a : Nat) : jm (l.drop a) = true := by
 have := qu ho a (l.drop a).length
 rwa [List.take_length] at this
end Go.Proofs.YtaemgcpcfnbmdaaGreatDoor.LG
namespace Go.Proofs.YtaemgcpcfnbmdaaGreatDoor.LG
open Go Go.LG Go.Lib

theorem getD_at {α : Type} (l : List α) (d : α) {i : Nat} (h : i < l.length) : l.getD (Int.toNat (i : Int)) d = l[i] := by
 simp [List.getD_eq_getElem?_getD, h]
def Inc (gs : List aA) : Prop := ∀ i j (hi : i < gs.length) (hj : j < gs.length), i < j → (gs[i]).Byte < (gs[j]).Byte
theorem Aj (l : List aA) (b : Int) (hl : l.length ≤ 1000000) (hI : Inc l) : ∀ (n i j : Nat), j - i = n → i ≤ j → j ≤ l.length →
  (∀ k (h : k < l.length), k < i → (l[k]).Byte < b) → (∀ k (h : k < l.length), j ≤ k → b ≤ (l[k]).Byte) →
  ∃ r : Nat, aI l b (i : Int) (j : Int) = some (r : Int) ∧ r ≤ l.length ∧ (∀ k (h : k < l.length), k < r → (l[k]).Byte < b) ∧ (∀ k (h : k < l.length), r ≤ k → b ≤ (l[k]).Byte) := by
 intro n
 induction n using Nat.strongRecOn with
 | _ n ih =>
  intro i j hn h1 h2 hlo hhi
  rw [aI]
  by_cases h : i < j
  ·have em : ((i : Int) + (j : Int)) / 2 = (((i + j) / 2 : Nat) : Int) := by omega
   have hm : (i + j) / 2 < l.length := by omega
   have e : ax ((((i + j) / 2 : Nat) : Int) + 1) = (((i + j) / 2 + 1 : Nat) : Int) := by rw [av (by omega) (by omega)]; omega
   rw [if_pos (by omega), vE (by omega) (by omega) (by omega), em, if_pos ⟨by omega, by omega⟩, pi, aa, getD_at l _ hm, e]
   by_cases hc : (l[(i + j) / 2]).Byte < b
   ·rw [if_pos (by rw [if_pos hc]; decide)]
    refine ih _ (by omega) _ _ rfl (by omega) h2 (fun k hk hki => ?_) hhi
    rcases Nat.lt_or_ge k ((i + j) / 2) with h' | h'
    ·have := hI k _ hk hm h'; omega
    ·have : k = (i + j) / 2 := by omega
     subst this; exact hc
   ·rw [if_neg (by rw [if_neg hc]; split <;> decide)]
    refine ih _ (by omega) _ _ rfl (by omega) (by omega) hlo (fun k hk hki => ?_)
    rcases Nat.lt_or_ge ((i + j) / 2) k with h' | h'
    ·have := hI _ k hm hk h'; omega
    ·have : k = (i + j) / 2 := by omega
     subst this; omega
  ·rw [if_neg (by omega)]
   have : i = j := by omega
   subst this
   exact ⟨i, rfl, h2, hlo, hhi⟩
def rH (gs : List aA) (b : Int) : Option aA := gs.find? fun g => decide (g.Byte = b)
theorem oY {α : Type} {p : α → Bool} : ∀ {l : List α} (r : Nat) (h : r < l.length), p l[r] = true → (∀ k (h : k < l.length), k < r → p l[k] = false) → l.find? p = some l[r]
 | x :: l, 0, h, hp, _ => by
  have : p x = true := hp
  simp [List.find?_cons, this]
 | x :: l, r + 1, h, hp, hn => by
  have : p x = false := hn 0 (by simp) (by omega)
  rw [List.find?_cons, this]
  exact oY r (by simpa using h) (by simpa using hp) fun k hk hkr => by
   have := hn (k + 1) (by simpa using hk) (by omega)
   simpa using this
theorem qr {α : Type} {p : α → Bool} {l : List α} (hn : ∀ k (h : k < l.length), p l[k] = false) : l.find? p = none := by
 rw [List.find?_eq_none]
 intro x hx
 obtain ⟨k, hk, rfl⟩ := List.getElem_of_mem hx
 rw [hn k hk]; decide
theorem r9 {f : ai} (hf : f.Glyphs.length ≤ 1000000) (hI : Inc f.Glyphs) (b : Int) :
  fE f b = some (match rH f.Glyphs b with | some g => (g, true) | none => (⟨0, 0⟩, false)) := by
 obtain ⟨r, hr, hle, hlo, hhi⟩ := Aj f.Glyphs b hf hI _ 0 f.Glyphs.length rfl (Nat.zero_le _) (Nat.le_refl _) (fun k _ h => by omega) (fun k h h' => by omega)
 have hr' : aI f.Glyphs b 0 (f.Glyphs.length : Int) = some (r : Int) := hr
 unfold fE eT bJ
 rw [hr', aa]
 by_cases h : r < f.Glyphs.length
 ·rw [if_pos (by omega), if_pos ⟨by omega, by omega⟩, pi, getD_at _ _ h]
  simp only [aa]
  by_cases hb : (f.Glyphs[r]).Byte = b
  ·have e : rH f.Glyphs b = some f.Glyphs[r] := oY r h (by simpa using hb) fun k hk hkr => by have := hlo k hk hkr; simp; omega
   rw [e]
   have h3 : (if (f.Glyphs[r]).Byte < b then (-1 : Int) else if b < (f.Glyphs[r]).Byte then 1 else 0) = 0 := by rw [if_neg (by omega), if_neg (by omega)]
   rw [h3]
   simp [h]
  ·have e : rH f.Glyphs b = none := qr fun k hk => by
    rcases Nat.lt_or_ge k r with h' | h'
    ·have := hlo k hk h'; simp; omega
    ·have h0 := hhi r h (Nat.le_refl _)
     have : (f.Glyphs[r]).Byte ≤ (f.Glyphs[k]).Byte := by
      rcases Nat.lt_or_ge r k with h'' | h''
      ·have := hI r k h hk h''; omega
      ·have : k = r := by omega
       subst this; omega
     simp; omega
   rw [e]
   have h3 : ¬ (if (f.Glyphs[r]).Byte < b then (-1 : Int) else if b < (f.Glyphs[r]).Byte then 1 else 0) = 0 := by
    split
    ·decide
    ·split
     ·decide
     ·omega
   simp [h3]
 ·have e : rH f.Glyphs b = none := qr fun k hk => by have := hlo k hk (by omega); simp; omega
  rw [if_neg (by omega), e]
  simp
theorem vW (f : ai) (c : Int) (hf : f.Glyphs.length ≤ 1000000) : ∀ (n i : Nat), f.Glyphs.length - i = n → (∀ k (h : k < f.Glyphs.length), k < i → (f.Glyphs[k]).Byte ≠ c) →
  (rH f.Glyphs c = none ∧ bw f c (i : Int) = some (.inr ())) ∨ (∃ k : Nat, ∃ h : k < f.Glyphs.length, rH f.Glyphs c = some f.Glyphs[k] ∧ bw f c (i : Int) = some (.inl (k : Int))) := by
 intro n
 induction n with
 | zero =>
  intro i hn hb
  rw [bw, if_neg (by omega)]
  exact .inl ⟨qr fun k hk => by have := hb k hk (by omega); simpa using this, rfl⟩
 | succ n ih =>
  intro i hn hb
  have hi : i < f.Glyphs.length := by omega
  rw [bw, if_pos (by omega), if_pos ⟨by omega, by omega⟩, getD_at _ _ hi, av (n := (i : Int) + 1) (by omega) (by omega), add1]
  by_cases h : (f.Glyphs[i]).Byte = c
  ·rw [if_pos h]
   exact .inr ⟨i, hi, oY i hi (by simpa using h) fun k hk hki => by have := hb k hk hki; simpa using this, rfl⟩
  ·rw [if_neg h]
   exact ih (i + 1) (by omega) fun k hk hki => by
    rcases Nat.lt_or_ge k i with h' | h'
    ·exact hb k hk h'
    ·have : k = i := by omega
     subst this; exact h
theorem qv (f : ai) (c : Int) (hf : f.Glyphs.length ≤ 1000000) :
  (rH f.Glyphs c = none ∧ cQ f c = some (-1)) ∨ (∃ k : Nat, ∃ h : k < f.Glyphs.length, rH f.Glyphs c = some f.Glyphs[k] ∧ cQ f c = some (k : Int)) := by
 have h0 := vW f c hf _ 0 rfl (fun k _ h => by omega)
 unfold cQ
 rcases h0 with ⟨h1, h2⟩ | ⟨k, hk, h1, h2⟩
 ·have h2' : bw f c 0 = some (.inr ()) := h2
  exact .inl ⟨h1, by rw [h2']; rfl⟩
 ·have h2' : bw f c 0 = some (.inl (k : Int)) := h2
  exact .inr ⟨k, hk, h1, by rw [h2']; rfl⟩
def gk (gs : List aA) (i : Nat) : aA := gs.getD i ao
theorem Ba (gs : List aA) {i : Nat} (h : i < gs.length) : gs[i] = gk gs i := by simp [gk, List.getD_eq_getElem?_getD, h]
def yg (gs : List aA) (i : Nat) : Prop := 32 ≤ (gk gs i).Byte ∧ (gk gs i).Byte ≤ 125 ∧ 0 ≤ (gk gs i).Advance ∧ (gk gs i).Advance ≤ 1000 ∧ (0 < i → (gk gs (i - 1)).Byte < (gk gs i).Byte)
instance {gs : List aA} {i : Nat} : Decidable (yg gs i) := by unfold yg; infer_instance
theorem BE (f : ai) (hf : f.Glyphs.length ≤ 1000000) {i : Nat} (hi : i < f.Glyphs.length) (c1 : Prop) [Decidable c1] (hc : c1 ↔ 125 < (gk f.Glyphs i).Byte) :
  (if ((f.Glyphs.getD (Int.toNat (i : Int)) ao).Byte) < 32 then some true else (if c1 then some true else (if ((f.Glyphs.getD (Int.toNat (i : Int)) ao).Advance) < 0 then some true else (if 1000 < ((f.Glyphs.getD (Int.toNat (i : Int)) ao).Advance) then some true else (if 0 < (i : Int) then (if (0 : Int) ≤ ax ((i : Int) - 1) ∧ ax ((i : Int) - 1) < (f.Glyphs.length : Int) then some (decide (((f.Glyphs.getD (Int.toNat (i : Int)) ao).Byte) ≤ ((f.Glyphs.getD (Int.toNat (ax ((i : Int) - 1))) ao).Byte))) else none) else some false))))) = some (!decide (yg f.Glyphs i)) := by
 have e1 : ax ((i : Int) - 1) = (i : Int) - 1 := av (by omega) (by omega)
 have e0 : f.Glyphs.getD (Int.toNat (i : Int)) ao = gk f.Glyphs i := rfl
 rw [e0, e1]
 unfold yg
 by_cases h1 : (gk f.Glyphs i).Byte < 32
 ·have : ¬ 32 ≤ (gk f.Glyphs i).Byte := by omega
  simp [h1, this]
 ·by_cases h2 : c1
  ·have := hc.1 h2
   have : ¬ (gk f.Glyphs i).Byte ≤ 125 := by omega
   simp [h1, h2, this]
  ·have h2' : ¬ 125 < (gk f.Glyphs i).Byte := fun h => h2 (hc.2 h)
   by_cases h3 : (gk f.Glyphs i).Advance < 0
   ·have : ¬ 0 ≤ (gk f.Glyphs i).Advance := by omega
    simp [h1, h2, h3, this]
   ·by_cases h4 : 1000 < (gk f.Glyphs i).Advance
    ·have : ¬ (gk f.Glyphs i).Advance ≤ 1000 := by omega
     simp [h1, h2, h3, h4, this]
    ·have k1 : 32 ≤ (gk f.Glyphs i).Byte := by omega
     have k2 : (gk f.Glyphs i).Byte ≤ 125 := by omega
     have k3 : 0 ≤ (gk f.Glyphs i).Advance := by omega
     have k4 : (gk f.Glyphs i).Advance ≤ 1000 := by omega
     rw [if_neg h1, if_neg h2, if_neg h3, if_neg h4]
     by_cases h5 : 0 < i
     ·have e2 : f.Glyphs.getD (Int.toNat ((i : Int) - 1)) ao = gk f.Glyphs (i - 1) := by rw [show Int.toNat ((i : Int) - 1) = i - 1 by omega]; rfl
      rw [if_pos (by omega), if_pos ⟨by omega, by omega⟩, e2]
      by_cases h6 : (gk f.Glyphs i).Byte ≤ (gk f.Glyphs (i - 1)).Byte
      ·have : ¬ (gk f.Glyphs (i - 1)).Byte < (gk f.Glyphs i).Byte := by omega
       simp [h5, h6, this]
      ·have : (gk f.Glyphs (i - 1)).Byte < (gk f.Glyphs i).Byte := by omega
       simp [k1, k2, k3, k4, h5, h6, this]
     ·rw [if_neg (by omega)]
      simp [k1, k2, k3, k4, h5]
theorem qs (f : ai) (hf : f.Glyphs.length ≤ 1000000) : ∀ (n i : Nat), f.Glyphs.length - i = n → i ≤ f.Glyphs.length →
  ∃ o, cA f (i : Int) = some o ∧ cD f (i : Int) = some o ∧ (o = .inr () → ∀ k, i ≤ k → k < f.Glyphs.length → yg f.Glyphs k) := by
 intro n
 induction n with
 | zero =>
  intro i hn hi
  rw [cA, cD, if_neg (by omega), if_neg (by omega)]
  exact ⟨_, rfl, rfl, fun _ k hk h => by omega⟩
 | succ n ih =>
  intro i hn hi
  have hi' : i < f.Glyphs.length := by omega
  have t1 := BE f hf hi' (126 ≤ ((f.Glyphs.getD (Int.toNat (i : Int)) ao).Byte)) (show 126 ≤ (gk f.Glyphs i).Byte ↔ _ by omega)
  have t2 := BE f hf hi' (125 < ((f.Glyphs.getD (Int.toNat (i : Int)) ao).Byte)) Iff.rfl
  have e1 : cA f (i : Int) = if (!decide (yg f.Glyphs i)) = true then some (.inl ()) else cA f ((i + 1 : Nat) : Int) := by
   conv => lhs; rw [cA]
   rw [if_pos (by omega), if_pos ⟨by omega, by omega⟩, av (n := (i : Int) + 1) (by omega) (by omega), add1, t1, aa]
  have e2 : cD f (i : Int) = if (!decide (yg f.Glyphs i)) = true then some (.inl ()) else cD f ((i + 1 : Nat) : Int) := by
   conv => lhs; rw [cD]
   rw [if_pos (by omega), if_pos ⟨by omega, by omega⟩, av (n := (i : Int) + 1) (by omega) (by omega), add1, t2, aa]
  rw [e1, e2]
  by_cases h : yg f.Glyphs i
  ·rw [if_neg (by simpa using h), if_neg (by simpa using h)]
   obtain ⟨o, h1, h2, h3⟩ := ih (i + 1) (by omega) (by omega)
   refine ⟨o, h1, h2, fun ho k hk hl => ?_⟩
   rcases Nat.lt_or_ge i k with h' | h'
   ·exact h3 ho k (by omega) hl
   ·have : k = i := by omega
    subst this; exact h
  ·rw [if_pos (by simpa using h), if_pos (by simpa using h)]
   exact ⟨_, rfl, rfl, fun h => by cases h⟩
theorem x7 {gs : List aA} (h : ∀ k, k < gs.length → yg gs k) : Inc gs := by
 intro i j hi hj hij
 rw [Ba gs hi, Ba gs hj]
 induction j with
 | zero => omega
 | succ j ih =>
  have h1 := (h (j + 1) hj).2.2.2.2 (by omega)
  have h2 : j + 1 - 1 = j := rfl
  rw [h2] at h1
  rcases Nat.lt_or_ge i j with h' | h'
  ·have := ih (by omega) h'; omega
  ·have : i = j := by omega
   subst this; exact h1
def kk (ks : List bX) (i : Nat) : bX := ks.getD i am
theorem sW (ks : List bX) {i : Nat} (h : i < ks.length) : ks[i] = kk ks i := by simp [kk, List.getD_eq_getElem?_getD, h]
theorem tW (k : bX) (p : aO) : gH k p = some (if k.Left < p.left then -1 else if p.left < k.Left then 1 else if k.Right < p.right then -1 else if p.right < k.Right then 1 else 0) := by
 unfold gH
 rw [qe, qe, aa, aa, or2, aa]
 congr 1
 by_cases h1 : k.Left < p.left
 ·simp [h1]
 ·by_cases h2 : p.left < k.Left
  ·simp [h1, h2]
  ·simp [h1, h2]
def u1 (f : ai) (i : Nat) : Prop := (∃ g, rH f.Glyphs (kk f.Kerns i).Left = some g ∧ 0 ≤ g.Advance + (kk f.Kerns i).By) ∧ (rH f.Glyphs (kk f.Kerns i).Right).isSome = true ∧ (kk f.Kerns i).By ≤ 1000 ∧
 (0 < i → (kk f.Kerns (i - 1)).Left < (kk f.Kerns i).Left ∨ (kk f.Kerns (i - 1)).Left = (kk f.Kerns i).Left ∧ (kk f.Kerns (i - 1)).Right < (kk f.Kerns i).Right)
theorem Co {gs : List aA} {b : Int} {g : aA} (h : rH gs b = some g) : g ∈ gs ∧ g.Byte = b := by
 unfold rH at h
 exact ⟨List.mem_of_find?_eq_some h, by simpa using List.find?_some h⟩
theorem ra {gs : List aA} (hg : ∀ k, k < gs.length → yg gs k) {b : Int} {g : aA} (h : rH gs b = some g) : 32 ≤ b ∧ b ≤ 125 ∧ 0 ≤ g.Advance ∧ g.Advance ≤ 1000 := by
 obtain ⟨hm, hb⟩ := Co h
 obtain ⟨k, hk, rfl⟩ := List.getElem_of_mem hm
 have := hg k hk
 rw [Ba gs hk] at *
 unfold yg at this
 omega
open Classical in
theorem Dt (f : ai) (hf : Sm f) (hg : ∀ k, k < f.Glyphs.length → yg f.Glyphs k) {i : Nat} (hi : i < f.Kerns.length) :
  cf f (i : Int) = if u1 f i then cf f ((i + 1 : Nat) : Int) else some (.inl ()) := by
 have hk1 := hf.1
 have hk2 := hf.2
 have hI := x7 hg
 have e1 : ax ((i : Int) - 1) = (i : Int) - 1 := av (by omega) (by omega)
 have e0 : f.Kerns.getD (Int.toNat (i : Int)) am = kk f.Kerns i := rfl
 conv => lhs; rw [cf]
 rw [if_pos (by omega), if_pos ⟨by omega, by omega⟩, av (n := (i : Int) + 1) (by omega) (by omega), add1, e0, r9 hf.1 hI, r9 hf.1 hI, aa]
 cases hL : rH f.Glyphs (kk f.Kerns i).Left with
 | none =>
  have : ¬ u1 f i := fun h => by obtain ⟨g, hg', _⟩ := h.1; rw [hL] at hg'; cases hg'
  rw [if_neg this]
  simp
 | some g =>
  have hgo := ra hg hL
  cases hR : rH f.Glyphs (kk f.Kerns i).Right with
  | none =>
   have : ¬ u1 f i := fun h => by have := h.2.1; rw [hR] at this; cases this
   rw [if_neg this]
   simp
  | some g2 =>
   have e3 : ax (0 - g.Advance) = 0 - g.Advance := av (by omega) (by omega)
   simp only [Bool.not_true, Bool.false_eq_true, if_false, aa, e3]
   by_cases h1 : 1000 < (kk f.Kerns i).By
   ·have : ¬ u1 f i := fun h => by have := h.2.2.1; omega
    rw [if_neg this]
    simp [h1]
   ·by_cases h2 : (kk f.Kerns i).By < 0 - g.Advance
    ·have : ¬ u1 f i := fun h => by obtain ⟨g', hg', h'⟩ := h.1; rw [hL] at hg'; cases hg'; omega
     rw [if_neg this, if_neg (by simpa using h1), aa, decide_eq_true h2]
     rfl
    ·simp only [h1, h2, decide_false, Bool.false_eq_true, if_false, aa]
     by_cases h5 : 0 < i
     ·have e2 : f.Kerns.getD (Int.toNat ((i : Int) - 1)) am = kk f.Kerns (i - 1) := by rw [show Int.toNat ((i : Int) - 1) = i - 1 by omega]; rfl
      rw [if_pos (show (0 : Int) < (i : Int) by omega), e1, if_pos ⟨by omega, by omega⟩, e2, tW]
      show (((some (decide (0 ≤ _)))) >>= _) = _
      rw [aa]
      by_cases h6 : (kk f.Kerns (i - 1)).Left < (kk f.Kerns i).Left ∨ (kk f.Kerns (i - 1)).Left = (kk f.Kerns i).Left ∧ (kk f.Kerns (i - 1)).Right < (kk f.Kerns i).Right
      ·have hk : u1 f i := ⟨⟨g, hL, by omega⟩, by rw [hR]; rfl, by omega, fun _ => h6⟩
       rw [if_pos hk]
       rcases h6 with h | ⟨h, h'⟩
       ·simp [h]
       ·simp [h, h']
      ·have hk : ¬ u1 f i := fun h => h6 (h.2.2.2 h5)
       rw [if_neg hk]
       have a1 : ¬ (kk f.Kerns (i - 1)).Left < (kk f.Kerns i).Left := by omega
       by_cases a2 : (kk f.Kerns i).Left < (kk f.Kerns (i - 1)).Left
       ·simp [a1, a2]
       ·have a3 : ¬ (kk f.Kerns (i - 1)).Right < (kk f.Kerns i).Right := by omega
        by_cases a4 : (kk f.Kerns i).Right < (kk f.Kerns (i - 1)).Right
        ·simp [a1, a2, a3, a4]
        ·simp [a1, a2, a3, a4]
     ·have hk : u1 f i := ⟨⟨g, hL, by omega⟩, by rw [hR]; rfl, by omega, fun h => absurd h h5⟩
      rw [if_pos hk, if_neg (by omega)]
      simp
open Classical in
theorem B1 (f : ai) (hf : Sm f) (hg : ∀ k, k < f.Glyphs.length → yg f.Glyphs k) {i : Nat} (hi : i < f.Kerns.length) :
  co f (i : Int) = if u1 f i then co f ((i + 1 : Nat) : Int) else some (.inl ()) := by
 have hk1 := hf.1
 have hk2 := hf.2
 have e1 : ax ((i : Int) - 1) = (i : Int) - 1 := av (by omega) (by omega)
 have e0 : f.Kerns.getD (Int.toNat (i : Int)) am = kk f.Kerns i := rfl
 conv => lhs; rw [co]
 rw [if_pos (by omega), if_pos ⟨by omega, by omega⟩, av (n := (i : Int) + 1) (by omega) (by omega), add1, e0]
 rcases qv f (kk f.Kerns i).Left hf.1 with ⟨hL, hl⟩ | ⟨x, hx, hL, hl⟩
 ·have : ¬ u1 f i := fun h => by obtain ⟨g, hg', _⟩ := h.1; rw [hL] at hg'; cases hg'
  rw [if_neg this, hl]
  obtain ⟨v, hv, _⟩ := ye f (kk f.Kerns i).Right hf.1
  rw [hv]
  simp
 ·rw [hl]
  rcases qv f (kk f.Kerns i).Right hf.1 with ⟨hR, hr⟩ | ⟨y, hy, hR, hr⟩
  ·have : ¬ u1 f i := fun h => by have := h.2.1; rw [hR] at this; cases this
   rw [if_neg this, hr]
   have : ¬ ((x : Int) < 0) := by omega
   simp [this]
  ·rw [hr]
   have hgo := ra hg hL
   have x0 : ¬ ((x : Int) < 0) := by omega
   have y0 : ¬ ((y : Int) < 0) := by omega
   simp only [aa, x0, y0, if_false]
   by_cases h0 : (kk f.Kerns i).By < -1000
   ·have : ¬ u1 f i := fun h => by obtain ⟨g', hg', h'⟩ := h.1; rw [hL] at hg'; cases hg'; omega
    rw [if_neg this]
    simp [h0]
   ·by_cases h1 : 1000 < (kk f.Kerns i).By
    ·have : ¬ u1 f i := fun h => by have := h.2.2.1; omega
     rw [if_neg this]
     simp [h0, h1]
    ·have e5 : f.Glyphs.getD (Int.toNat (x : Int)) ao = f.Glyphs[x] := getD_at _ _ hx
     have e6 : ax ((f.Glyphs[x]).Advance + (kk f.Kerns i).By) = (f.Glyphs[x]).Advance + (kk f.Kerns i).By := av (by omega) (by omega)
     rw [if_neg h0, if_neg h1, if_pos ⟨by omega, by omega⟩, e5, e6, aa]
     by_cases h2 : (f.Glyphs[x]).Advance + (kk f.Kerns i).By < 0
     ·have : ¬ u1 f i := fun h => by obtain ⟨g', hg', h'⟩ := h.1; rw [hL] at hg'; cases hg'; omega
      rw [if_neg this, if_pos (by simpa using h2)]
     ·rw [if_neg (by simpa using h2)]
      by_cases h5 : 0 < i
      ·have e2 : f.Kerns.getD (Int.toNat ((i : Int) - 1)) am = kk f.Kerns (i - 1) := by rw [show Int.toNat ((i : Int) - 1) = i - 1 by omega]; rfl
       have hb : (0 : Int) ≤ (i : Int) - 1 ∧ (i : Int) - 1 < (f.Kerns.length : Int) := ⟨by omega, by omega⟩
       rw [if_pos (show (0 : Int) < (i : Int) by omega), e1, e2]
       simp only [if_pos hb]
       by_cases h6 : (kk f.Kerns (i - 1)).Left < (kk f.Kerns i).Left ∨ (kk f.Kerns (i - 1)).Left = (kk f.Kerns i).Left ∧ (kk f.Kerns (i - 1)).Right < (kk f.Kerns i).Right
       ·have hk : u1 f i := ⟨⟨_, hL, by omega⟩, by rw [hR]; rfl, by omega, fun _ => h6⟩
        rw [if_pos hk]
        rcases h6 with h | ⟨h, h'⟩
        ·have a1 : ¬ (kk f.Kerns i).Left < (kk f.Kerns (i - 1)).Left := by omega
         have a2 : ¬ (kk f.Kerns i).Left = (kk f.Kerns (i - 1)).Left := by omega
         simp [a1, a2]
        ·have a1 : ¬ (kk f.Kerns i).Left < (kk f.Kerns (i - 1)).Left := by omega
         have a3 : ¬ (kk f.Kerns i).Right ≤ (kk f.Kerns (i - 1)).Right := by omega
         simp [a1, h.symm, a3]
       ·have hk : ¬ u1 f i := fun h => h6 (h.2.2.2 h5)
        rw [if_neg hk]
        by_cases a1 : (kk f.Kerns i).Left < (kk f.Kerns (i - 1)).Left
        ·simp [a1]
        ·have a2 : (kk f.Kerns i).Left = (kk f.Kerns (i - 1)).Left := by omega
         have a3 : (kk f.Kerns i).Right ≤ (kk f.Kerns (i - 1)).Right := by omega
         simp [a1, a2, a3]
      ·have hk : u1 f i := ⟨⟨_, hL, by omega⟩, by rw [hR]; rfl, by omega, fun h => absurd h h5⟩
       rw [if_pos hk, if_neg (by omega)]
       simp
theorem v124 (f : ai) (hf : Sm f) (hg : ∀ k, k < f.Glyphs.length → yg f.Glyphs k) : ∀ (n i : Nat), f.Kerns.length - i = n → i ≤ f.Kerns.length →
  ∃ o, cf f (i : Int) = some o ∧ co f (i : Int) = some o ∧ (o = .inr () → ∀ k, i ≤ k → k < f.Kerns.length → u1 f k) := by
 intro n
 induction n with
 | zero =>
  intro i hn hi
  rw [cf, co, if_neg (by omega), if_neg (by omega)]
  exact ⟨_, rfl, rfl, fun _ k hk h => by omega⟩
 | succ n ih =>
  intro i hn hi
  have hi' : i < f.Kerns.length := by omega
  rw [Dt f hf hg hi', B1 f hf hg hi']
  by_cases h : u1 f i
  ·rw [if_pos h, if_pos h]
   obtain ⟨o, h1, h2, h3⟩ := ih (i + 1) (by omega) (by omega)
   refine ⟨o, h1, h2, fun ho k hk hl => ?_⟩
   rcases Nat.lt_or_ge i k with h' | h'
   ·exact h3 ho k (by omega) hl
   ·have : k = i := by omega
    subst this; exact h
  ·rw [if_neg h, if_neg h]
   exact ⟨_, rfl, rfl, fun h => by cases h⟩
structure oG (f : ai) : Prop where
 g : ∀ k, k < f.Glyphs.length → yg f.Glyphs k
 k : ∀ k, k < f.Kerns.length → u1 f k
 n : f.Glyphs.length ≤ 94 ∧ f.Kerns.length ≤ 200
theorem yY (f : ai) (hf : Sm f) : ∃ b, aU f = some b ∧ aL f = some b ∧ (b = true → oG f) := by
 unfold aU aL
 by_cases h1 : 94 < (f.Glyphs.length : Int)
 ·exact ⟨false, by simp [h1], by simp [h1], fun h => by cases h⟩
 ·by_cases h2 : 200 < (f.Kerns.length : Int)
  ·exact ⟨false, by simp [h1, h2], by simp [h1, h2], fun h => by cases h⟩
  ·obtain ⟨o, e1, e2, e3⟩ := qs f hf.1 _ 0 rfl (Nat.zero_le _)
   have e1' : cA f 0 = some o := e1
   have e2' : cD f 0 = some o := e2
   simp only [h1, h2, if_false, decide_false, aa, Bool.false_eq_true, e1', e2']
   rcases o with u | u
   ·exact ⟨false, rfl, rfl, fun h => by cases h⟩
   ·have hg := fun k => e3 rfl k (Nat.zero_le _)
    obtain ⟨o, d1, d2, d3⟩ := v124 f hf hg _ 0 rfl (Nat.zero_le _)
    have d1' : cf f 0 = some o := d1
    have d2' : co f 0 = some o := d2
    simp only [d1', d2', aa]
    rcases o with u | u
    ·exact ⟨false, rfl, rfl, fun h => by cases h⟩
    ·exact ⟨true, rfl, rfl, fun _ => ⟨hg, fun k => d3 rfl k (Nat.zero_le _), by omega, by omega⟩⟩
end Go.Proofs.YtaemgcpcfnbmdaaGreatDoor.LG
namespace Go.Proofs.YtaemgcpcfnbmdaaGreatDoor.LG
open Go Go.LG Go.Lib

def gp (f : ai) (l : List UInt8) : Bool := l.all fun b => decide (b.toNat = 126) || (rH f.Glyphs (b.toNat : Int)).isSome
theorem y4 (f : ai) (hf : Sm f) (F : oG f) (l : List UInt8) (hl : ∀ b ∈ l, 32 ≤ b.toNat ∧ b.toNat ≤ 126) : ∀ (n i : Nat), l.length - i = n → i ≤ l.length →
  ∃ o, eS f ⟨l.toArray⟩ i = some o ∧ (gp f (l.drop i) = true → ∃ k, o = .inr k) ∧ (gp f (l.drop i) = false → ∃ k, o = .inl k) := by
 intro n
 induction n with
 | zero =>
  intro i hn hi
  rw [eS, sz, if_neg (by omega), List.drop_eq_nil_of_le (by omega)]
  exact ⟨_, rfl, fun _ => ⟨_, rfl⟩, fun h => by cases h⟩
 | succ n ih =>
  intro i hn hi
  have hlt : i < l.length := by omega
  have hb := hl _ (List.getElem_mem hlt)
  have e1 : uG ((l[i].toNat : Nat) : Int) = ((l[i].toNat : Nat) : Int) := vL (by omega) (by omega)
  have hd : gp f (l.drop i) = ((decide (l[i].toNat = 126) || (rH f.Glyphs (l[i].toNat : Int)).isSome) && gp f (l.drop (i + 1))) := by
   rw [List.drop_eq_getElem_cons hlt]; rfl
  obtain ⟨o, h1, h2, h3⟩ := ih (i + 1) (by omega) (by omega)
  rw [eS, sz, if_pos hlt, j6 l hlt (by omega)]
  simp only [e1]
  rw [r9 hf.1 (x7 F.g), hd]
  by_cases h126 : l[i].toNat = 126
  ·have hg : rH f.Glyphs (l[i].toNat : Int) = none := by
    cases hg : rH f.Glyphs (l[i].toNat : Int) with
    | none => rfl
    | some g => have := ra F.g hg; omega
   rw [hg]
   have : ((l[i].toNat : Nat) : Int) = 126 := by omega
   simp only [aa, this, not_true_eq_false, decide_false, Bool.not_false, if_true, Bool.false_eq_true, if_false, h126, decide_true, Bool.true_or, Bool.true_and]
   exact ⟨o, h1, h2, h3⟩
  ·have h126' : ¬ ((l[i].toNat : Nat) : Int) = 126 := by omega
   cases hg : rH f.Glyphs (l[i].toNat : Int) with
   | none =>
    simp only [aa, h126', not_false_eq_true, decide_true, Bool.not_false, if_true, h126, decide_false, Bool.false_or, Option.isSome_none, Bool.false_and]
    exact ⟨_, rfl, fun h => (by cases h), fun _ => ⟨_, rfl⟩⟩
   | some g =>
    simp only [aa, Bool.not_true, Bool.false_eq_true, if_false, h126, decide_false, Bool.false_or, Option.isSome_some, Bool.true_and]
    exact ⟨o, h1, h2, h3⟩
theorem tE (f : ai) (hf : Sm f) (F : oG f) (hv : aU f = some true) {l : List UInt8} (ho : jm l = true) : fx f ⟨l.toArray⟩ = some (gp f l, 0) := by
 obtain ⟨o, h1, h2, h3⟩ := y4 f hf F l (dt ho).1 _ 0 rfl (Nat.zero_le _)
 rw [List.drop_zero] at h2 h3
 unfold fx
 rw [hv, iQ, ho]
 simp only [aa, Bool.not_true, Bool.false_eq_true, if_false, h1]
 cases hh : gp f l
 ·obtain ⟨k, rfl⟩ := h3 hh; rfl
 ·obtain ⟨k, rfl⟩ := h2 hh; rfl
theorem EI (f : ai) (hf : Sm f) (F : oG f) (hv : aU f = some true) {l : List UInt8} (ho : jm l = true) : ∃ r, jn f ⟨l.toArray⟩ = some (if gp f l = true then (r, 0) else (0, 20)) := by
 obtain ⟨j, u, hu⟩ := wR f hf l (dt ho).1 _ 0 0 0 rfl
 have hu' : bp (j5 (fun (u : Int) (x : aO) => cV f u x)) ⟨l.toArray⟩ 0 0 (0, none) = some (.inr (j, (u, none))) := hu
 refine ⟨u, ?_⟩
 unfold jn kU ff
 rw [tE f hf F hv ho]
 cases hh : gp f l
 ·rfl
 ·simp only [aa, hu']
  rfl
def Wd (f : ai) (l : List UInt8) (s : Int) : Int := ((df f ⟨l.toArray⟩ s).map (·.1)).getD 0
theorem Cd (f : ai) (hf : Sm f) (F : oG f) (hv : aU f = some true) {l : List UInt8} (ho : jm l = true) {s : Int} (hs : 50 ≤ s ∧ s ≤ 300) :
  df f ⟨l.toArray⟩ s = some (if gp f l = true then (Wd f l s, 0) else (0, 20)) := by
 obtain ⟨r, hr⟩ := EI f hf F hv ho
 have h1 : ¬ s < 50 := by omega
 have h2 : ¬ 300 < s := by omega
 have key : df f ⟨l.toArray⟩ s = some (if gp f l = true then (ax (Int.tdiv (ax ((ax (r * s)) + 99)) 100), 0) else (0, 20)) := by
  unfold df
  rw [hr, aa]
  cases gp f l
  ·simp [h1, h2]
  ·simp [h1, h2]
 unfold Wd
 rw [key]
 cases gp f l <;> rfl
theorem Ap {f : ai} {l p : List UInt8} (h : gp f l = true) (hp : ∀ b ∈ p, b ∈ l) : gp f p = true :=
 List.all_eq_true.2 fun b hb => List.all_eq_true.1 h b (hp b hb)
theorem w6 {f : ai} {p q : List UInt8} (h : gp f p = true) (k : gp f q = true) : gp f (p ++ q) = true := by
 unfold gp at *; rw [List.all_append, h, k]; rfl
theorem Bt {l : List UInt8} {b : UInt8} (h : b ∈ yi l) : b ∈ l := by
 have h1 : ∀ (x : List UInt8), b ∈ tl x → b ∈ x := fun x hx => (List.dropWhile_sublist _).subset hx
 have h2 : ∀ (x : List UInt8), b ∈ tr x → b ∈ x := fun x hx => by
  unfold tr at hx
  first
   | exact (by simpa using (List.dropWhile_sublist _).subset (List.mem_reverse.1 hx))
   | exact (List.mem_reverse.1 ((List.dropWhile_sublist _).subset (by simpa using hx)))
 unfold yi at h
 first
  | exact h1 _ (h2 _ h)
  | exact h2 _ (h1 _ h)
theorem wK {l : List UInt8} {a e : Nat} {b : UInt8} (h : b ∈ part l a e false) : b ∈ l ∧ b.toNat ≠ 126 := by
 unfold part at h
 rw [if_neg (by decide), List.append_nil] at h
 have h1 := qt (Bt h)
 exact ⟨List.mem_of_mem_drop (List.mem_of_mem_take h1.1), h1.2⟩
theorem rX (l : List UInt8) (a e : Nat) (h : Bool) : part l a e h = part l a e false ++ (if h = true then [45] else []) := by
 unfold part; simp
theorem xj {l : List UInt8} (ho : jm l = true) (hl : l.length ≤ 1000) (a e : Nat) (h : Bool) : jm (part l a e h) = true := by
 obtain ⟨h1, h2⟩ := dt ho
 rw [rX]
 refine xP (fun b hb => ?_) ?_
 ·rcases List.mem_append.1 hb with hb | hb
  ·exact h1 b (wK hb).1
  ·cases h
   ·simp at hb
   ·simp at hb; subst hb; decide
 ·have h3 : (part l a e false).length ≤ l.length := by
   unfold part
   rw [if_neg (by decide), List.append_nil]
   exact Nat.le_trans (oL _) (Nat.le_trans (jv _) (m8 l a e))
  rw [List.length_append]
  cases h <;> simp <;> omega
theorem va {f : ai} {l : List UInt8} (h : gp f l = true) (a e : Nat) (y : Bool) (hy : y = true → gp f [45] = true) : gp f (part l a e y) = true := by
 rw [rX]
 refine w6 (Ap h fun b hb => (wK hb).1) ?_
 cases y
 ·rfl
 ·exact hy rfl
theorem zg (E : List (Nat × Bool)) (hE : E.length ≤ 1000000) : ∀ (n i : Nat), E.length - i = n → i ≤ E.length →
  ∃ o, aV (E.map nq) (i : Int) = some o ∧ ((E.drop i).any (·.2) = true → ∃ k : Nat, o = .inl (k : Int)) ∧ ((E.drop i).any (·.2) = false → o = .inr ()) := by
 intro n
 induction n with
 | zero =>
  intro i hn hi
  rw [aV, List.length_map, if_neg (by omega), List.drop_eq_nil_of_le (by omega)]
  exact ⟨_, rfl, fun h => (by cases h), fun _ => rfl⟩
 | succ n ih =>
  intro i hn hi
  have hlt : i < E.length := by omega
  obtain ⟨o, h1, h2, h3⟩ := ih (i + 1) (by omega) (by omega)
  rw [aV, List.length_map, if_pos (by omega), if_pos ⟨by omega, by omega⟩, jb E hlt, av (n := (i : Int) + 1) (by omega) (by omega), add1, List.drop_eq_getElem_cons hlt, List.any_cons]
  unfold iX
  rw [aa]
  show ∃ o, (if (E[i]).2 = true then _ else _) = some o ∧ _
  cases hh : (E[i]).2
  ·rw [if_neg (by decide), Bool.false_or]
   exact ⟨o, h1, h2, h3⟩
  ·rw [if_pos rfl, Bool.true_or]
   exact ⟨_, rfl, fun _ => ⟨i, rfl⟩, fun h => by cases h⟩
theorem BX (E : List (Nat × Bool)) (hE : E.length ≤ 1000000) : bC (E.map nq) = some (E.any (·.2)) := by
 obtain ⟨o, h1, h2, h3⟩ := zg E hE _ 0 rfl (Nat.zero_le _)
 have h1' : aV (E.map nq) 0 = some o := h1
 rw [List.drop_zero] at h2 h3
 unfold bC cq
 rw [h1', aa]
 cases hh : E.any (·.2)
 ·rw [h3 hh]; rfl
 ·obtain ⟨k, rfl⟩ := h2 hh
  have : (0 : Int) ≤ (k : Int) := by omega
  simp [this]
def vn (f : ai) (b : ak) (l : List UInt8) : Bool := gp f l && (!((LP b l).any (·.2)) || gp f [45])
theorem sK (f : ai) (hf : Sm f) (F : oG f) (hfv : aU f = some true) (b : ak) (l : List UInt8) (hk : b.Keep.length ≤ 100000000000000) (hs : l.length ≤ 100000) (hv : vb b = true) (ho : jm l = true) (sc : Int) (hsc : 50 ≤ sc ∧ sc ≤ 300) :
  cO f b ⟨l.toArray⟩ sc = some (if vn f b l = true then .inr (.inr (⟨l.toArray⟩, (ends b l).map nq, f, sc)) else .inr (.inl (⟨#[]⟩, []))) := by
 have hc := BX (LP b l) (by have := sC b l; omega)
 have e1 := tE f hf F hfv ho
 have e2 : fx f (⟨#[45]⟩ : ByteArray) = some (gp f [45], 0) := tE f hf F hfv (l := [45]) (by decide)
 have hl : ((LP b l).map nq).length + 1 ≤ 8796093022208 := by
  have := sC b l
  rw [List.length_map]; omega
 have he : (LP b l).map nq ++ [(⟨(l.length : Int), false⟩ : ah)] = (ends b l).map nq := by
  unfold ends; rw [List.map_append]; rfl
 unfold cO vn
 rw [th b l hk, hv, ho]
 simp only [Bool.and_self, if_true, aa, hfv, hZ, hc, e1, e2, sz, if_pos hl, he]
 cases (LP b l).any (·.2) <;> cases gp f l <;> cases gp f [45] <;> simp [hsc]
end Go.Proofs.YtaemgcpcfnbmdaaGreatDoor.LG
namespace Go.Proofs.YtaemgcpcfnbmdaaGreatDoor.LG
open Go Go.LG Go.Lib

theorem BF (r : List Int) (hr : r.length ≤ 1000000) : ∀ (n i : Nat), r.length - i = n → i ≤ r.length →
  ∃ o, bz r (i : Int) = some o ∧ ((r.drop i).any (fun x => !decide (0 ≤ x ∧ x ≤ 1000000000)) = true → ∃ k : Nat, o = .inl (k : Int)) ∧ ((r.drop i).any (fun x => !decide (0 ≤ x ∧ x ≤ 1000000000)) = false → o = .inr ()) := by
 intro n
 induction n with
 | zero =>
  intro i hn hi
  rw [bz, if_neg (by omega), List.drop_eq_nil_of_le (by omega)]
  exact ⟨_, rfl, fun h => (by cases h), fun _ => rfl⟩
 | succ n ih =>
  intro i hn hi
  have hlt : i < r.length := by omega
  obtain ⟨o, h1, h2, h3⟩ := ih (i + 1) (by omega) (by omega)
  rw [bz, if_pos (by omega), if_pos ⟨by omega, by omega⟩, getD_at r _ hlt, av (n := (i : Int) + 1) (by omega) (by omega), add1, List.drop_eq_getElem_cons hlt, List.any_cons]
  unfold jU
  rw [hZ]
  simp only [aa]
  by_cases hh : 0 ≤ r[i] ∧ r[i] ≤ 1000000000
  ·rw [decide_eq_true hh, if_neg (by decide)]
   exact ⟨o, h1, by simpa using h2, by simpa using h3⟩
  ·rw [decide_eq_false hh, if_pos (show (!false) = true from rfl)]
   exact ⟨_, rfl, fun _ => ⟨i, rfl⟩, fun h => by simp at h⟩
def xG (rooms : List Int) : Bool := decide (rooms = []) || rooms.any fun x => !decide (0 ≤ x ∧ x ≤ 1000000000)
theorem AC (r : List Int) (hr : r.length ≤ 1000000) : ((if (r.length : Int) = 0 then some true else (cm r >>= fun y50 => some y50)) : Option Bool) = some (xG r) := by
 obtain ⟨o, h1, h2, h3⟩ := BF r hr _ 0 rfl (Nat.zero_le _)
 have h1' : bz r 0 = some o := h1
 rw [List.drop_zero] at h2 h3
 unfold xG cm dq
 rw [h1', aa]
 by_cases h0 : r = []
 ·subst h0; rfl
 ·have h0' : ¬ (r.length : Int) = 0 := fun h => h0 (List.eq_nil_of_length_eq_zero (by omega))
  rw [if_neg h0', decide_eq_false h0, Bool.false_or]
  cases hh : r.any (fun x => !decide (0 ≤ x ∧ x ≤ 1000000000))
  ·rw [h3 hh]; rfl
  ·obtain ⟨k, rfl⟩ := h2 hh
   have : (0 : Int) ≤ (k : Int) := by omega
   simp [this]
theorem Cx (f : ai) (hf : Sm f) (F : oG f) (hfv : aU f = some true) (b : ak) (l : List UInt8) (hk : b.Keep.length ≤ 100000000000000) (hs : l.length ≤ 100000) (hv : vb b = true) (ho : jm l = true) (sc : Int) (hsc : 50 ≤ sc ∧ sc ≤ 300) (rooms : List Int) (hr : rooms.length ≤ 1000000) :
  fL f b ⟨l.toArray⟩ sc rooms = some (if xG rooms = true then ([], 1) else if vn f b l = true then (DD f b l sc (oD rooms) (l.length + 1) 0 0, 0) else ([], 20)) := by
 unfold fL
 rw [AC rooms hr, aa, sK f hf F hfv b l hk hs hv ho sc hsc]
 cases hb : xG rooms
 ·have hne : rooms ≠ [] := fun h => by subst h; simp [xG] at hb
  have hpos : 0 < rooms.length := List.length_pos_iff.2 hne
  cases hp : vn f b l
  ·rfl
  ·have hL := xZ f hf b l hs ho sc rooms hpos hr (l.length + 1) 0 0 [] (by omega) (by omega) (Nat.le_refl _) (Nat.le_refl _)
   have hL' : bo (j5 (fun (u : (List az)) (x : az) => aP u x)) ⟨l.toArray⟩ ((ends b l).map nq) f sc rooms 0 0 ([], none) = some (DD f b l sc (oD rooms) (l.length + 1) 0 0, none) := hL
   simp only [Bool.false_eq_true, if_false, if_true, aa]
   unfold eV cP cx db
   simp only [aa]
   rw [hL']
   rfl
 ·rfl
theorem uZ {b : ak} {l : List UInt8} {f : ai} (h : vn f b l = true) : gp f l = true ∧ ∀ q ∈ ends b l, q.2 = true → gp f [45] = true := by
 unfold vn at h
 rw [Bool.and_eq_true] at h
 refine ⟨h.1, fun q hq hy => ?_⟩
 unfold ends at hq
 rcases List.mem_append.1 hq with hq | hq
 ·have : (LP b l).any (·.2) = true := List.any_eq_true.2 ⟨q, hq, hy⟩
  rw [this] at h
  simpa using h.2
 ·rw [List.mem_singleton.1 hq] at hy; cases hy
theorem W_mk (f : ai) (hf : Sm f) (F : oG f) (hfv : aU f = some true) (b : ak) (l : List UInt8) (hl : l.length ≤ 1000) (ho : jm l = true) {sc : Int} (hsc : 50 ≤ sc ∧ sc ≤ 300) (hp : vn f b l = true) (a : Nat) {q : Nat × Bool} (hq : q ∈ ends b l) :
  df f ⟨(part l a q.1 q.2).toArray⟩ sc = some (W f l sc a q, 0) := by
 obtain ⟨h1, h2⟩ := uZ hp
 have h := Cd f hf F hfv (xj ho hl a q.1 q.2) hsc
 rw [if_pos (va h1 a q.1 q.2 (h2 q hq))] at h
 rw [h]; rfl
end Go.Proofs.YtaemgcpcfnbmdaaGreatDoor.LG
namespace Go.Proofs.YtaemgcpcfnbmdaaGreatDoor.LG
open Go Go.LG Go.Lib

def yf (a b c d : Int) : Prop := a < c ∨ a = c ∧ b < d
def EM (ks : List bX) : Prop := ∀ i j, i < ks.length → j < ks.length → i < j → yf (kk ks i).Left (kk ks i).Right (kk ks j).Left (kk ks j).Right
theorem BV {f : ai} (F : oG f) : EM f.Kerns := by
 intro i j hi hj hij
 induction j with
 | zero => omega
 | succ j ih =>
  have h1 := (F.k (j + 1) hj).2.2.2 (by omega)
  have h2 : j + 1 - 1 = j := rfl
  rw [h2] at h1
  rcases Nat.lt_or_ge i j with h' | h'
  ·have := ih (by omega) h'
   unfold yf at *; omega
  ·have : i = j := by omega
   subst this; exact h1
theorem uY (k : bX) (p : aO) : ((if k.Left < p.left then (-1 : Int) else if p.left < k.Left then 1 else if k.Right < p.right then -1 else if p.right < k.Right then 1 else 0) < 0 ↔ yf k.Left k.Right p.left p.right) := by
 unfold yf
 by_cases h1 : k.Left < p.left
 ·simp [h1]
 ·by_cases h2 : p.left < k.Left
  ·simp [h1, h2]; omega
  ·by_cases h3 : k.Right < p.right
   ·simp [h1, h2, h3]; omega
   ·by_cases h4 : p.right < k.Right
    ·simp [h1, h2, h3, h4]
    ·simp [h1, h2, h3, h4]
theorem tC (k : bX) (p : aO) : ((if k.Left < p.left then (-1 : Int) else if p.left < k.Left then 1 else if k.Right < p.right then -1 else if p.right < k.Right then 1 else 0) = 0 ↔ k.Left = p.left ∧ k.Right = p.right) := by
 by_cases h1 : k.Left < p.left
 ·simp [h1]; omega
 ·by_cases h2 : p.left < k.Left
  ·simp [h1, h2]; omega
  ·by_cases h3 : k.Right < p.right
   ·simp [h1, h2, h3]; omega
   ·by_cases h4 : p.right < k.Right
    ·simp [h1, h2, h3, h4]; omega
    ·simp [h1, h2, h3, h4]; omega
theorem BC (l : List bX) (p : aO) (hl : l.length ≤ 1000000) (hI : EM l) : ∀ (n i j : Nat), j - i = n → i ≤ j → j ≤ l.length →
  (∀ k, k < l.length → k < i → yf (kk l k).Left (kk l k).Right p.left p.right) → (∀ k, k < l.length → j ≤ k → ¬ yf (kk l k).Left (kk l k).Right p.left p.right) →
  ∃ r : Nat, aD l p (i : Int) (j : Int) = some (r : Int) ∧ r ≤ l.length ∧ (∀ k, k < l.length → k < r → yf (kk l k).Left (kk l k).Right p.left p.right) ∧ (∀ k, k < l.length → r ≤ k → ¬ yf (kk l k).Left (kk l k).Right p.left p.right) := by
 intro n
 induction n using Nat.strongRecOn with
 | _ n ih =>
  intro i j hn h1 h2 hlo hhi
  rw [aD]
  by_cases h : i < j
  ·have em : ((i : Int) + (j : Int)) / 2 = (((i + j) / 2 : Nat) : Int) := by omega
   have hm : (i + j) / 2 < l.length := by omega
   have e : ax ((((i + j) / 2 : Nat) : Int) + 1) = (((i + j) / 2 + 1 : Nat) : Int) := by rw [av (by omega) (by omega)]; omega
   have e0 : l.getD (Int.toNat (((i + j) / 2 : Nat) : Int)) am = kk l ((i + j) / 2) := rfl
   rw [if_pos (by omega), vE (by omega) (by omega) (by omega), em, if_pos ⟨by omega, by omega⟩, tW, aa, e0, e]
   by_cases hc : yf (kk l ((i + j) / 2)).Left (kk l ((i + j) / 2)).Right p.left p.right
   ·rw [if_pos ((uY _ _).2 hc)]
    refine ih _ (by omega) _ _ rfl (by omega) h2 (fun k hk hki => ?_) hhi
    rcases Nat.lt_or_ge k ((i + j) / 2) with h' | h'
    ·have := hI k _ hk hm h'; unfold yf at *; omega
    ·have : k = (i + j) / 2 := by omega
     subst this; exact hc
   ·rw [if_neg (fun h => hc ((uY _ _).1 h))]
    refine ih _ (by omega) _ _ rfl (by omega) (by omega) hlo (fun k hk hki => ?_)
    rcases Nat.lt_or_ge ((i + j) / 2) k with h' | h'
    ·have := hI _ k hm hk h'; unfold yf at *; omega
    ·have : k = (i + j) / 2 := by omega
     subst this; exact hc
  ·rw [if_neg (by omega)]
   have : i = j := by omega
   subst this
   exact ⟨i, rfl, h2, hlo, hhi⟩
def BJ (ks : List bX) (a c : Int) : Option bX := ks.find? fun k => decide (k.Left = a ∧ k.Right = c)
theorem vq {f : ai} (hf : Sm f) (F : oG f) (p : aO) :
  bU f.Kerns p = some (match BJ f.Kerns p.left p.right with | some k => (k, true) | none => (⟨0, 0, 0⟩, false)) := by
 have hI := BV F
 have hk := hf.2
 obtain ⟨r, hr, hle, hlo, hhi⟩ := BC f.Kerns p hf.2 hI _ 0 f.Kerns.length rfl (Nat.zero_le _) (Nat.le_refl _) (fun k _ h => by omega) (fun k h h' => by omega)
 have hr' : aD f.Kerns p 0 (f.Kerns.length : Int) = some (r : Int) := hr
 unfold bU bh
 rw [hr', aa]
 by_cases h : r < f.Kerns.length
 ·have e0 : f.Kerns.getD (Int.toNat (r : Int)) am = kk f.Kerns r := rfl
  rw [if_pos (by omega), if_pos ⟨by omega, by omega⟩, tW, e0]
  simp only [aa]
  by_cases hb : (kk f.Kerns r).Left = p.left ∧ (kk f.Kerns r).Right = p.right
  ·have e : BJ f.Kerns p.left p.right = some (kk f.Kerns r) := by
    rw [← sW f.Kerns h]
    exact oY r h (by rw [sW f.Kerns h]; simpa using hb) fun k hk hkr => by
     have := hlo k hk hkr
     rw [sW f.Kerns hk]
     unfold yf at this
     simp; omega
   rw [e, decide_eq_true ((tC _ _).2 hb)]
   simp [h, sW f.Kerns h]
  ·have e : BJ f.Kerns p.left p.right = none := qr fun k hk => by
    rw [sW f.Kerns hk]
    rcases Nat.lt_or_ge k r with h' | h'
    ·have := hlo k hk h'; unfold yf at this; simp; omega
    ·have h0 := hhi r h (Nat.le_refl _)
     rcases Nat.lt_or_ge r k with h'' | h''
     ·have := hI r k h hk h''; unfold yf at *; simp; omega
     ·have : k = r := by omega
      subst this
      exact decide_eq_false hb
   rw [e, decide_eq_false (fun h => hb ((tC _ _).1 h))]
   simp
 ·have e : BJ f.Kerns p.left p.right = none := qr fun k hk => by
   rw [sW f.Kerns hk]
   have := hlo k hk (by omega); unfold yf at this; simp; omega
  rw [if_neg (by omega), e]
  simp
def oS (f : ai) (a : Int) : Int := ((rH f.Glyphs a).map (·.Advance)).getD 0
def pG (f : ai) (a c : Int) : Int := ((BJ f.Kerns a c).map (·.By)).getD 0
theorem rY {f : ai} (F : oG f) (a : Int) : 0 ≤ oS f a ∧ oS f a ≤ 1000 := by
 unfold oS
 cases h : rH f.Glyphs a with
 | none => exact ⟨Int.le_refl _, by decide⟩
 | some g => have := ra F.g h; exact ⟨this.2.2.1, this.2.2.2⟩
theorem ti {f : ai} (F : oG f) (a c : Int) : -1000 ≤ pG f a c ∧ pG f a c ≤ 1000 ∧ 0 ≤ oS f a + pG f a c := by
 have ha := rY F a
 unfold pG
 cases h : BJ f.Kerns a c with
 | none => exact ⟨by decide, by decide, by simpa using ha.1⟩
 | some k =>
  have hm := List.mem_of_find?_eq_some h
  have hp : k.Left = a ∧ k.Right = c := by simpa using List.find?_some h
  obtain ⟨i, hi, rfl⟩ := List.getElem_of_mem hm
  rw [sW f.Kerns hi] at *
  obtain ⟨⟨g, hg, h0⟩, _, h1, _⟩ := F.k i hi
  rw [hp.1] at hg
  have hgo := ra F.g hg
  have e : oS f a = g.Advance := by unfold oS; rw [hg]; rfl
  rw [e]
  show -1000 ≤ (kk f.Kerns i).By ∧ (kk f.Kerns i).By ≤ 1000 ∧ 0 ≤ g.Advance + (kk f.Kerns i).By
  omega
theorem zM {f : ai} (F : oG f) (c : Int) : pG f 0 c = 0 := by
 unfold pG
 cases h : BJ f.Kerns 0 c with
 | none => rfl
 | some k =>
  have hm := List.mem_of_find?_eq_some h
  have hp : k.Left = 0 ∧ k.Right = c := by simpa using List.find?_some h
  obtain ⟨i, hi, rfl⟩ := List.getElem_of_mem hm
  rw [sW f.Kerns hi] at *
  obtain ⟨⟨g, hg, _⟩, _⟩ := F.k i hi
  rw [hp.1] at hg
  have := ra F.g hg
  omega
theorem yU {f : ai} (hf : Sm f) (F : oG f) (b : Int) : ∃ g y, fE f b = some (g, y) ∧ g.Advance = oS f b := by
 rw [r9 hf.1 (x7 F.g)]
 unfold oS
 cases rH f.Glyphs b with
 | none => exact ⟨_, _, rfl, rfl⟩
 | some g => exact ⟨_, _, rfl, rfl⟩
theorem Cg {f : ai} (hf : Sm f) (F : oG f) (p : aO) : ∃ k y, bU f.Kerns p = some (k, y) ∧ k.By = pG f p.left p.right := by
 rw [vq hf F]
 unfold pG
 cases BJ f.Kerns p.left p.right with
 | none => exact ⟨_, _, rfl, rfl⟩
 | some g => exact ⟨_, _, rfl, rfl⟩
def kp (f : ai) : Int → List UInt8 → Int
 | _, [] => 0
 | a, c :: l => if c.toNat = 126 then kp f a l else (oS f (c.toNat : Int) + pG f a (c.toNat : Int)) + kp f (c.toNat : Int) l
theorem tj {f : ai} (F : oG f) : ∀ (l : List UInt8) (a : Int), kp f a l ≤ 2000 * (l.length : Int)
 | [], a => by unfold kp; simp
 | c :: l, a => by
  unfold kp
  have h1 := rY F (c.toNat : Int); have h2 := ti F a (c.toNat : Int)
  have h3 := tj F l a; have h4 := tj F l (c.toNat : Int)
  rw [List.length_cons]
  split <;> omega
theorem vS {f : ai} (F : oG f) : ∀ (l : List UInt8) (a : Int), 0 ≤ oS f a + kp f a l
 | [], a => by unfold kp; have := rY F a; omega
 | c :: l, a => by
  unfold kp
  have h2 := ti F a (c.toNat : Int)
  have h3 := vS F l a; have h4 := vS F l (c.toNat : Int)
  split <;> omega
theorem xm {f : ai} (F : oG f) (l : List UInt8) : 0 ≤ kp f 0 l := by
 have h := vS F l 0
 have e : oS f 0 = 0 := by
  unfold oS
  cases h : rH f.Glyphs 0 with
  | none => rfl
  | some g => have := ra F.g h; omega
 omega
theorem zG (f : ai) (hf : Sm f) (F : oG f) (l : List UInt8) (hl : ∀ b ∈ l, 32 ≤ b.toNat ∧ b.toNat ≤ 126) (hs : l.length ≤ 1000000) : ∀ (n i : Nat) (p u : Int), l.length - i = n → i ≤ l.length → -3000 * (i : Int) ≤ u → u ≤ 3000 * (i : Int) →
  ∃ j, bp (j5 (fun (u : Int) (x : aO) => cV f u x)) ⟨l.toArray⟩ p i (u, none) = some (.inr (j, (u + kp f p (l.drop i), none))) := by
 intro n
 induction n with
 | zero =>
  intro i p u hn hi h1 h2
  rw [bp, sz, if_neg (by omega), List.drop_eq_nil_of_le (by omega)]
  unfold kp
  exact ⟨_, by rw [Int.add_zero]⟩
 | succ n ih =>
  intro i p u hn hi h1 h2
  have hlt : i < l.length := by omega
  have hb := hl _ (List.getElem_mem hlt)
  have e1 : uG ((l[i].toNat : Nat) : Int) = ((l[i].toNat : Nat) : Int) := vL (by omega) (by omega)
  rw [bp, sz, if_pos hlt, j6 l hlt (by omega), List.drop_eq_getElem_cons hlt]
  simp only [e1]
  unfold kp
  by_cases h : l[i].toNat = 126
  ·have h' : ((l[i].toNat : Nat) : Int) = 126 := by omega
   rw [if_pos h', if_pos h]
   exact ih (i + 1) p u (by omega) (by omega) (by omega) (by omega)
  ·have h' : ¬ ((l[i].toNat : Nat) : Int) = 126 := by omega
   have ha := rY F (l[i].toNat : Int); have hk := ti F p (l[i].toNat : Int)
   have step : j5 (fun (u : Int) (x : aO) => cV f u x) (u, none) ⟨p, ((l[i].toNat : Nat) : Int)⟩ = some ((u + (oS f (l[i].toNat : Int) + pG f p (l[i].toNat : Int)), none), true) := by
    obtain ⟨g, y, hg, e2⟩ := yU hf F (l[i].toNat : Int)
    obtain ⟨k, z, hk', e3⟩ := Cg hf F ⟨p, (l[i].toNat : Int)⟩
    unfold j5 cV
    simp only [hg, hk', aa]
    show some ((ax (u + ax (_ + _)), none), true) = _
    rw [e2, e3, av (n := oS f (l[i].toNat : Int) + pG f p (l[i].toNat : Int)) (by omega) (by omega), av (by omega) (by omega)]
   rw [if_neg h', if_neg h, step, aa]
   obtain ⟨j, hj⟩ := ih (i + 1) (l[i].toNat : Int) (u + (oS f (l[i].toNat : Int) + pG f p (l[i].toNat : Int))) (by omega) (by omega) (by omega) (by omega)
   rw [Int.add_assoc] at hj
   exact ⟨j, hj⟩
theorem Ax (f : ai) (hf : Sm f) (F : oG f) (hv : aU f = some true) {l : List UInt8} (ho : jm l = true) : jn f ⟨l.toArray⟩ = some (if gp f l = true then (kp f 0 l, 0) else (0, 20)) := by
 obtain ⟨h1, h2⟩ := dt ho
 obtain ⟨j, hu⟩ := zG f hf F l h1 (by omega) _ 0 0 0 rfl (Nat.zero_le _) (Int.le_refl _) (Int.le_refl _)
 have hu' : bp (j5 (fun (u : Int) (x : aO) => cV f u x)) ⟨l.toArray⟩ 0 0 (0, none) = some (.inr (j, (kp f 0 l, none))) := by
  rw [List.drop_zero, Int.zero_add] at hu; exact hu
 unfold jn kU ff
 rw [tE f hf F hv ho]
 cases hh : gp f l
 ·rfl
 ·simp only [aa, hu']
  rfl
theorem DW (f : ai) (hf : Sm f) (F : oG f) (hv : aU f = some true) {l : List UInt8} (ho : jm l = true) {s : Int} (hs : 50 ≤ s ∧ s ≤ 300) (hg : gp f l = true) : Wd f l s = (kp f 0 l * s + 99) / 100 := by
 have h1 : ¬ s < 50 := by omega
 have h2 : ¬ 300 < s := by omega
 have hl := (dt ho).2
 have b1 := xm F l
 have b2 := tj F l 0
 have b3 : 0 ≤ kp f 0 l * s := Int.mul_nonneg b1 (by omega)
 have b4 : kp f 0 l * s ≤ 4000000 * 300 := Int.mul_le_mul (by omega) hs.2 (by omega) (by omega)
 unfold Wd df
 rw [Ax f hf F hv ho, hg]
 simp only [if_true, aa]
 rw [av (n := kp f 0 l * s) (by omega) (by omega), av (n := kp f 0 l * s + 99) (by omega) (by omega), Int.tdiv_eq_ediv_of_nonneg (by omega), av (by omega) (by omega)]
 simp [h1, h2]
theorem EN (f : ai) (hf : Sm f) (F : oG f) (hv : aU f = some true) {l : List UInt8} (ho : jm l = true) (hl : l.length ≤ 1000) {s : Int} (hs : 50 ≤ s ∧ s ≤ 300) (hg : gp f l = true) : 0 ≤ Wd f l s ∧ Wd f l s ≤ 6000001 := by
 have b1 := xm F l
 have b2 := tj F l 0
 have b3 : 0 ≤ kp f 0 l * s := Int.mul_nonneg b1 (by omega)
 have b4 : kp f 0 l * s ≤ 2000000 * 300 := Int.mul_le_mul (by omega) hs.2 (by omega) (by omega)
 rw [DW f hf F hv ho hs hg]
 omega
end Go.Proofs.YtaemgcpcfnbmdaaGreatDoor.LG
