/-
 Plain laws. No program in sight.
-/
import Derived.Test.YtlcfemplcaejgaaPd
import Derived.Test.YtlcfemplcaejgaaLgQ
import Derived.Lib.TrimByte
import Derived.Lib.SplitLaws
import Derived.Test.YtlcfemplcaejgaaPe
set_option linter.unusedVariables false
set_option linter.unusedSimpArgs false
namespace Go.Proofs.Ytlcfemplcaejgaa.LG
open Go Go.LG Go.Lib

def cl (a : Int) : Int :=
 if 97 ≤ a ∧ a ≤ 122 then 1 else if 65 ≤ a ∧ a ≤ 90 then 2 else if 48 ≤ a ∧ a ≤ 57 then 3 else if a = 32 then 4 else if a = 126 then 6 else if 32 < a ∧ a < 126 then 5 else 0
theorem mC (a : Int) : dY a = some (cl a) := by
 unfold dY cl
 simp only [eK, l9, au, decide_eq_true_eq]
 repeat' split
 all_goals first | rfl | omega
theorem n7 (a : Int) : fU a = some (cl a) := by
 unfold fU cl
 simp only [eK, l9, au, decide_eq_true_eq]
 repeat' split
 all_goals first | rfl | omega
theorem po {a : Int} : cl a = 0 ↔ a < 32 ∨ 126 < a := by
 unfold cl
 repeat' split
 all_goals omega
def ok (b : UInt8) : Bool := decide (cl (b.toNat : Int) ≠ 0)
theorem pb {b : UInt8} : ok b = true ↔ 32 ≤ b.toNat ∧ b.toNat ≤ 126 := by
 unfold ok
 rw [decide_eq_true_eq, Ne, po]
 omega
def qQ (l : List UInt8) : Bool := l.all ok && decide (l.length ≤ 2000)

theorem sz (l : List UInt8) : (⟨l.toArray⟩ : ByteArray).size = l.length := by simp [ByteArray.size]
theorem add1 (i : Nat) : ((i : Int) + 1) = ((i + 1 : Nat) : Int) := by omega
theorem lj (l : List UInt8) (hs : l.length ≤ 9223372036854775807) : ∀ (n i : Nat), l.length - i = n → i ≤ l.length →
  cy ⟨l.toArray⟩ (i : Int) = some (if (l.drop i).all ok then Sum.inr () else Sum.inl ()) := by
 intro n
 induction n with
 | zero =>
  intro i hn hi
  have : i = l.length := by omega
  subst this
  rw [cy, sz, if_neg (by omega), List.drop_length]
  simp
 | succ n ih =>
  intro i hn hi
  have hlt : i < l.length := by omega
  rw [cy, sz, if_pos (by omega), if_pos (by omega), qZ l hlt, mC, au, aG (by omega) (by omega), add1, ih (i + 1) (by omega) (by omega), List.drop_eq_getElem_cons hlt, List.all_cons]
  by_cases h : cl ((l[i]).toNat : Int) = 0
  ·rw [if_pos h]; simp [ok, h]
  ·rw [if_neg h]; simp [ok, h]
theorem mx (l : List UInt8) (hs : l.length ≤ 9223372036854775807) : cQ ⟨l.toArray⟩ = some (qQ l) := by
 unfold cQ qQ
 rw [show (0 : Int) = ((0 : Nat) : Int) from rfl, lj l hs _ 0 rfl (Nat.zero_le _), au, List.drop_zero, sz]
 cases l.all ok <;> simp
 omega
theorem ol (l : List UInt8) {i : Nat} (h : i < l.length) : (⟨l.toArray⟩ : ByteArray).get! i = l[i] := by
 simp only [ByteArray.get!]
 rw [getElem!_pos _ i (by simpa using h)]
 simp
theorem nn (l : List UInt8) {i : Nat} (h : i < l.length) (hb : 128 ≤ (l[i]).toNat) : 128 ≤ (Utf8.decode ⟨l.toArray⟩ i).1 := by
 unfold Utf8.decode
 simp only [Nat.add_zero, ol l h, Utf8.runeError]
 rw [if_neg (by omega)]
 repeat' split
 all_goals simp only [Bool.and_eq_true, decide_eq_true_eq] at *
 all_goals omega
theorem lO (l : List UInt8) {i : Nat} (h : i < l.length) (hb : (l[i]).toNat < 128) : Utf8.decode ⟨l.toArray⟩ i = ((l[i]).toNat, 1) := by
 unfold Utf8.decode
 simp only [Nat.add_zero, ol l h]
 rw [if_pos hb]
theorem na (l : List UInt8) : ∀ (n i : Nat), l.length - i = n → i ≤ l.length →
  ∃ o, cT ⟨l.toArray⟩ i = some o ∧ o.isRight = (l.drop i).all ok := by
 intro n
 induction n with
 | zero =>
  intro i hn hi
  have : i = l.length := by omega
  subst this
  refine ⟨.inr l.length, ?_, by simp⟩
  rw [cT, sz, if_neg (by omega)]
 | succ n ih =>
  intro i hn hi
  have hlt : i < l.length := by omega
  rw [cT, sz, if_pos (by omega)]
  rw [List.drop_eq_getElem_cons hlt, List.all_cons]
  by_cases hb : (l[i]).toNat < 128
  ·have hd := lO l hlt hb
   rw [hd]
   simp only [n7, au, ql (show (0 : Int) ≤ ((l[i]).toNat : Int) by omega) (show ((l[i]).toNat : Int) ≤ 255 by omega)]
   by_cases h1 : (126 : Int) < ((l[i]).toNat : Int)
   ·refine ⟨.inl (i + 1), by rw [if_pos h1, au]; rfl, ?_⟩
    have : ok l[i] = false := by
     rw [Bool.eq_false_iff, Ne, pb]; omega
    simp [this]
   ·rw [if_neg h1, au]
    by_cases h2 : cl ((l[i]).toNat : Int) = 0
    ·refine ⟨.inl (i + 1), by simp [h2], by simp [ok, h2]⟩
    ·obtain ⟨o, ho, hr⟩ := ih (i + 1) (by omega) (by omega)
     refine ⟨o, by simp [h2, ho], by rw [hr]; simp [ok, h2]⟩
  ·have hd := nn l hlt (by omega)
   refine ⟨.inl (i + (Utf8.decode ⟨l.toArray⟩ i).2), by rw [if_pos (by omega), au]; rfl, ?_⟩
   have : ok l[i] = false := by
    rw [Bool.eq_false_iff, Ne, pb]; omega
   simp [this]
theorem oQ (l : List UInt8) : ed ⟨l.toArray⟩ = some (qQ l) := by
 obtain ⟨o, ho, hr⟩ := na l _ 0 rfl (Nat.zero_le _)
 unfold ed qQ
 rw [ho, au, sz]
 rw [List.drop_zero] at hr
 rw [← hr]
 cases o
 ·simp
 ·simp; omega
end Go.Proofs.Ytlcfemplcaejgaa.LG
namespace Go.Proofs.Ytlcfemplcaejgaa.LG
open Go Go.LG Go.Lib

theorem gd {α : Type} (l : List α) (d : α) {i : Nat} (h : i < l.length) : l.getD (Int.toNat (i : Int)) d = l[i] := by simp [List.getD_eq_getElem?_getD, h]
theorem oA (a b c : Int) : b9 a b c = some (decide (b ≤ a ∧ a ≤ c)) := by unfold b9; rw [eK, au]
theorem jt (a b c : Int) : ba a b c = some (decide (b ≤ a ∧ a ≤ c)) := by unfold ba; rw [eK, au]
theorem oy (a : Int) : dk a = some (decide (-1000000000 ≤ a ∧ a ≤ 1000000000)) := by unfold dk; rw [oA]; rfl
def kD (p : ax) : Int := max 0 (Int.tdiv (p.Width - p.Gap * (p.Columns - 1)) p.Columns)
structure j7 (p : ax) : Prop where
 c : 1 ≤ p.Columns ∧ p.Columns ≤ 8
 g : 0 ≤ p.Gap ∧ p.Gap ≤ 1000
 w : 1 ≤ p.Width ∧ p.Width ≤ 100000
 h : 1 ≤ p.Height ∧ p.Height ≤ 1000000
 col : 200 ≤ kD p ∧ kD p ≤ 4000
 sc : 50 ≤ p.Scale ∧ p.Scale ≤ 300
 lang : 0 ≤ p.Lang ∧ p.Lang < 4
theorem oX {p : ax} (c : 1 ≤ p.Columns ∧ p.Columns ≤ 8) (g : 0 ≤ p.Gap ∧ p.Gap ≤ 1000) (w : 1 ≤ p.Width ∧ p.Width ≤ 100000) :
  max 0 (aj (Int.tdiv (aj (p.Width - (aj (p.Gap * (aj (p.Columns - 1)))))) p.Columns)) = kD p := by
 have h1 : 0 ≤ p.Gap * (p.Columns - 1) ∧ p.Gap * (p.Columns - 1) ≤ 1000 * 7 := ⟨Int.mul_nonneg (by omega) (by omega), Int.mul_le_mul (by omega) (by omega) (by omega) (by omega)⟩
 rw [aG (n := p.Columns - 1) (by omega) (by omega), aG (n := p.Gap * (p.Columns - 1)) (by omega) (by omega), aG (n := p.Width - p.Gap * (p.Columns - 1)) (by omega) (by omega)]
 have h2 : -100000 ≤ Int.tdiv (p.Width - p.Gap * (p.Columns - 1)) p.Columns ∧ Int.tdiv (p.Width - p.Gap * (p.Columns - 1)) p.Columns ≤ 100000 := by
  have hn : -7000 ≤ p.Width - p.Gap * (p.Columns - 1) ∧ p.Width - p.Gap * (p.Columns - 1) ≤ 100000 := by omega
  generalize p.Width - p.Gap * (p.Columns - 1) = n at hn ⊢
  rcases Int.le_total 0 n with h | h
  ·have e := Int.tdiv_eq_ediv_of_nonneg (b := p.Columns) h
   rw [e]
   have := Int.ediv_nonneg h (show 0 ≤ p.Columns by omega)
   have := Int.ediv_le_self p.Columns h
   omega
  ·have e : Int.tdiv n p.Columns = -(Int.tdiv (-n) p.Columns) := by rw [Int.neg_tdiv]; omega
   have e2 := Int.tdiv_eq_ediv_of_nonneg (b := p.Columns) (show 0 ≤ -n by omega)
   have := Int.ediv_nonneg (show 0 ≤ -n by omega) (show 0 ≤ p.Columns by omega)
   have := Int.ediv_le_self p.Columns (show 0 ≤ -n by omega)
   omega
 rw [aG (n := Int.tdiv (p.Width - p.Gap * (p.Columns - 1)) p.Columns) (by omega) (by omega)]
 rfl
theorem mt {p : ax} (c : 1 ≤ p.Columns ∧ p.Columns ≤ 8) (g : 0 ≤ p.Gap ∧ p.Gap ≤ 1000) (w : 1 ≤ p.Width ∧ p.Width ≤ 100000) : cu ⟨p⟩ = some (kD p) := by
 unfold cu
 rw [if_pos (show p.Columns ≠ 0 by omega), oX c g w]
theorem nH {p : ax} (c : 1 ≤ p.Columns ∧ p.Columns ≤ 8) (g : 0 ≤ p.Gap ∧ p.Gap ≤ 1000) (w : 1 ≤ p.Width ∧ p.Width ≤ 100000) : dI p = some (kD p) := by
 unfold dI
 rw [if_pos (show p.Columns ≠ 0 by omega), oX c g w]
theorem ox (r : bP) : dK r = some (decide (((((0 ≤ r.Lang ∧ r.Lang < 4) ∧ 50 ≤ r.Scale) ∧ r.Scale ≤ 300) ∧ 200 ≤ r.Width) ∧ r.Width ≤ 4000)) := by
 unfold dK
 simp only [eK, au, decide_eq_true_eq]
theorem oc (p : ax) : ∃ b, dX p = some b ∧ (b = true → j7 p) := by
 unfold dX
 simp only [oA, au]
 by_cases c : 1 ≤ p.Columns ∧ p.Columns ≤ 8
 ·by_cases g : 0 ≤ p.Gap ∧ p.Gap ≤ 1000
  ·by_cases w : 1 ≤ p.Width ∧ p.Width ≤ 100000
   ·by_cases h : 1 ≤ p.Height ∧ p.Height ≤ 1000000
    ·refine ⟨_, by
      unfold eC
      simp only [c, g, w, h, and_self, decide_true, Bool.not_true, Bool.false_eq_true, if_false, au, nH c g w, ox]
      rfl, fun hb => ?_⟩
     have := of_decide_eq_true hb
     exact ⟨c, g, w, h, ⟨this.1.2, this.2⟩, ⟨this.1.1.1.2, this.1.1.2⟩, this.1.1.1.1⟩
    ·exact ⟨false, by simp [c, g, w, h], fun hb => by cases hb⟩
   ·exact ⟨false, by simp [c, g, w], fun hb => by cases hb⟩
  ·exact ⟨false, by simp [c, g], fun hb => by cases hb⟩
 ·exact ⟨false, by simp [c], fun hb => by cases hb⟩
theorem o8 {p : ax} (h : j7 p) : cH ⟨p⟩ = some true := by
 have hc := h.c
 have hg := h.g
 have hw := h.w
 have hh := h.h
 have hcol := h.col
 have hsc := h.sc
 have hl := h.lang
 have hz : fh [] = some true := by
  unfold fh aY bA
  have : aN [] 0 = some (.inr ()) := by rw [aN, if_neg (by decide)]
  rw [this]; rfl
 have hz2 : aQ [] ⟨kD p, p.Scale, p.Lang⟩ = some false := by
  unfold aQ bz
  have : aO [] ⟨kD p, p.Scale, p.Lang⟩ 0 = some (.inr ()) := by rw [aO, if_neg (by decide)]
  rw [this]; rfl
 unfold cH du dT ip i5 fT ga
 simp only [jt, mt hc hg hw, hz, hz2, au]
 simp [hc, hg, hw, hh, hcol, hsc, hl]
structure Sl (s : ac) : Prop where
 n : 1 ≤ s.Node ∧ s.Node ≤ 1000000
 t : 0 ≤ s.Table ∧ s.Table ≤ 1000000
 x : -1000000000 ≤ s.X ∧ s.X ≤ 1000000000
 y : -1000000000 ≤ s.Y ∧ s.Y ≤ 1000000000
 h : 0 ≤ s.H ∧ s.H ≤ 1000000
 tx : ed s.Text = some true
structure mP (l : List ac) : Prop where
 len : l.length ≤ 60
 all : ∀ s ∈ l, Sl s
 up : ∀ (i : Nat) (h : i + 1 < l.length), (l[i]).Y ≤ (l[i + 1]).Y
theorem om (l : List ac) (hl : l.length ≤ 4611686018427387904) : ∀ (n i : Nat), l.length - i = n → i ≤ l.length → ∃ o, cn l (i : Int) = some o := by
 intro n
 induction n with
 | zero => intro i hn hi; rw [cn, if_neg (by omega)]; exact ⟨_, rfl⟩
 | succ n ih =>
  intro i hn hi
  rw [cn, if_pos (by omega), if_pos ⟨by omega, by omega⟩, aG (n := (i : Int) + 1) (by omega) (by omega), add1]
  split
  ·exact ⟨_, rfl⟩
  ·exact ih (i + 1) (by omega) (by omega)
theorem pU (l : List ac) (hl : l.length ≤ 4611686018427387904) : ∃ b, eJ l = some b ∧ (b = true → l.length ≤ 60) := by
 obtain ⟨o, ho⟩ := om l hl _ 0 rfl (Nat.zero_le _)
 have ho' : cn l 0 = some o := ho
 unfold eJ
 rw [ho', au]
 cases o with
 | inl _ => exact ⟨false, rfl, fun h => by cases h⟩
 | inr _ => exact ⟨_, rfl, fun h => by have := of_decide_eq_true h; omega⟩
theorem nL (s : ByteArray) (hs : s.size ≤ 9223372036854775807) : ∃ b, cQ s = some b ∧ ed s = some b := by
 obtain ⟨l, rfl⟩ : ∃ l : List UInt8, s = ⟨l.toArray⟩ := ⟨s.data.toList, (Lib.mk_data s).symm⟩
 rw [sz] at hs
 exact ⟨qQ l, mx l hs, oQ l⟩
def sok (l : List ac) (i : Nat) (b : Bool) : Bool :=
 let s := l.getD i aa
 b && decide (1 ≤ s.Node ∧ s.Node ≤ 1000000) && decide (0 ≤ s.Table ∧ s.Table ≤ 1000000) && decide (-1000000000 ≤ s.X ∧ s.X ≤ 1000000000) && decide (-1000000000 ≤ s.Y ∧ s.Y ≤ 1000000000) && decide (0 ≤ s.H ∧ s.H ≤ 1000000) && decide (i = 0 ∨ (l.getD (i - 1) aa).Y ≤ s.Y)
theorem right_step (l : List ac) (hl : l.length ≤ 60) {i : Nat} (hlt : i < l.length) {b : Bool} (hb : cQ (l[i]).Text = some b) :
  bC l (i : Int) = if sok l i b = true then bC l ((i + 1 : Nat) : Int) else some (.inl ()) := by
 have e : l.getD i aa = l[i] := by simp [List.getD_eq_getElem?_getD, hlt]
 rw [bC, if_pos (by omega), if_pos ⟨by omega, by omega⟩, gd _ _ hlt, hb, au, aG (n := (i : Int) + 1) (by omega) (by omega), add1]
 unfold sok
 rw [e]
 simp only [oA, oy, au]
 cases b
 ·simp
 ·by_cases c1 : 1 ≤ l[i].Node ∧ l[i].Node ≤ 1000000
  ·by_cases c2 : 0 ≤ l[i].Table ∧ l[i].Table ≤ 1000000
   ·by_cases c3 : -1000000000 ≤ l[i].X ∧ l[i].X ≤ 1000000000
    ·by_cases c4 : -1000000000 ≤ l[i].Y ∧ l[i].Y ≤ 1000000000
     ·by_cases c5 : 0 ≤ l[i].H ∧ l[i].H ≤ 1000000
      ·by_cases c6 : i = 0
       ·subst c6
        simp [c1, c2, c3, c4, c5]
       ·have e1 : aj ((i : Int) - 1) = ((i - 1 : Nat) : Int) := by rw [aG (by omega) (by omega)]; omega
        have e2 : (0 : Int) < (i : Int) := by omega
        have e3 : l.getD (i - 1) aa = l[i - 1]'(by omega) := by simp [List.getD_eq_getElem?_getD, show i - 1 < l.length by omega]
        have q : (0 : Int) ≤ ((i - 1 : Nat) : Int) ∧ ((i - 1 : Nat) : Int) < (l.length : Int) := ⟨by omega, by omega⟩
        rw [e1, gd _ _ (show i - 1 < l.length by omega), if_pos e2, if_pos q, e3]
        by_cases c7 : l[i].Y < (l[i - 1]'(by omega)).Y
        ·have c8 : ¬ (l[i - 1]'(by omega)).Y ≤ l[i].Y := by omega
         simp [c1, c2, c3, c4, c5, c6, c7, c8]
        ·have c8 : (l[i - 1]'(by omega)).Y ≤ l[i].Y := by omega
         simp [c1, c2, c3, c4, c5, c6, c7, c8]
      ·simp [c1, c2, c3, c4, c5]
     ·simp [c1, c2, c3, c4]
    ·simp [c1, c2, c3]
   ·simp [c1, c2]
  ·simp [c1]
theorem areC (a b : Int) : db [a, b] = some (decide (-1000000000 ≤ a ∧ a ≤ 1000000000) && decide (-1000000000 ≤ b ∧ b ≤ 1000000000)) := by
 have w1 : aj (0 + 1) = 1 := aG (by decide) (by decide)
 have w2 : aj (1 + 1) = 2 := aG (by decide) (by decide)
 have l2 : aI [a, b] 2 = some (.inr ()) := by rw [aI, if_neg (by simp)]
 have l1 : aI [a, b] 1 = some (if -1000000000 ≤ b ∧ b ≤ 1000000000 then .inr () else .inl 1) := by
  rw [aI, if_pos (by simp), if_pos (by simp), w2, l2]
  have e : ([a, b] : List Int).getD (Int.toNat 1) 0 = b := rfl
  unfold cX
  rw [e, jt]
  by_cases c : -1000000000 ≤ b ∧ b ≤ 1000000000 <;> simp [c]
 have l0 : aI [a, b] 0 = some (if -1000000000 ≤ a ∧ a ≤ 1000000000 then (if -1000000000 ≤ b ∧ b ≤ 1000000000 then .inr () else .inl 1) else .inl 0) := by
  rw [aI, if_pos (by simp), if_pos (by simp), w1, l1]
  have e : ([a, b] : List Int).getD (Int.toNat 0) 0 = a := rfl
  unfold cX
  rw [e, jt]
  by_cases c : -1000000000 ≤ a ∧ a ≤ 1000000000 <;> simp [c]
 unfold db bI bX
 rw [l0]
 by_cases c : -1000000000 ≤ a ∧ a ≤ 1000000000
 ·by_cases d : -1000000000 ≤ b ∧ b ≤ 1000000000 <;> simp [c, d]
 ·simp [c]
theorem mY (l : List ac) (hl : l.length ≤ 60) (ht : ∀ s ∈ l, s.Text.size ≤ 9223372036854775807) : ∀ (n i : Nat), l.length - i = n → i ≤ l.length →
  ∃ o, bC l (i : Int) = some o ∧ (o = .inr () → ∀ (j : Nat) (h : j < l.length), i ≤ j → Sl l[j] ∧ (j = 0 ∨ (l.getD (j - 1) aa).Y ≤ l[j].Y)) := by
 intro n
 induction n with
 | zero => intro i hn hi; rw [bC, if_neg (by omega)]; exact ⟨_, rfl, fun _ j h hj => by omega⟩
 | succ n ih =>
  intro i hn hi
  have hlt : i < l.length := by omega
  obtain ⟨b, hb, hb2⟩ := nL _ (ht _ (List.getElem_mem hlt))
  rw [right_step l hl hlt hb]
  by_cases h : sok l i b = true
  ·rw [if_pos h]
   obtain ⟨o, ho, hall⟩ := ih (i + 1) (by omega) (by omega)
   refine ⟨o, ho, fun e j hj hij => ?_⟩
   by_cases hji : j = i
   ·subst hji
    have e0 : l.getD j aa = l[j] := by simp [List.getD_eq_getElem?_getD, hj]
    unfold sok at h
    rw [e0] at h
    simp only [Bool.and_eq_true, decide_eq_true_eq] at h
    obtain ⟨⟨⟨⟨⟨⟨h0, h1⟩, h2⟩, h3⟩, h4⟩, h5⟩, h6⟩ := h
    subst h0
    exact ⟨⟨h1, h2, h3, h4, h5, hb2⟩, h6⟩
   ·exact hall e j hj (by omega)
  ·rw [if_neg h]
   exact ⟨_, rfl, fun e => by cases e⟩
theorem ow (l : List ac) (keep : List Bool) (hl : l.length ≤ 60) (ht : ∀ s ∈ l, s.Text.size ≤ 9223372036854775807) :
  ∃ b, d5 l keep = some b ∧ (b = true → mP l ∧ keep.length = l.length) := by
 obtain ⟨o, ho, hall⟩ := mY l hl ht _ 0 rfl (Nat.zero_le _)
 have ho' : bC l 0 = some o := ho
 unfold d5
 rw [ho', au]
 cases o with
 | inl _ => exact ⟨false, rfl, fun h => by cases h⟩
 | inr _ =>
  refine ⟨decide ((l.length : Int) ≤ 10000 ∧ (keep.length : Int) = (l.length : Int)), by simp only [eK, au], fun h => ?_⟩
  have := of_decide_eq_true h
  refine ⟨⟨hl, fun s hs => ?_, fun i hi => ?_⟩, by omega⟩
  ·obtain ⟨j, hj, rfl⟩ := List.getElem_of_mem hs
   exact (hall rfl j hj (Nat.zero_le _)).1
  ·rcases (hall rfl (i + 1) hi (Nat.zero_le _)).2 with h | h
   ·omega
   ·simpa [List.getD_eq_getElem?_getD, show i < l.length by omega] using h
theorem oB (p : ax) (l : List ac) (keep : List Bool) (hl : l.length ≤ 4611686018427387904) (ht : ∀ s ∈ l, s.Text.size ≤ 9223372036854775807) :
  ∃ b, dH p l keep = some b ∧ (b = true → j7 p ∧ mP l ∧ keep.length = l.length) := by
 obtain ⟨b1, h1, g1⟩ := pU l hl
 obtain ⟨b2, h2, g2⟩ := oc p
 unfold dH
 rw [h1, au]
 cases b1
 ·exact ⟨false, rfl, fun h => by cases h⟩
 ·obtain ⟨b3, h3, g3⟩ := ow l keep (g1 rfl) ht
  rw [if_pos rfl, h2]
  cases b2
  ·exact ⟨false, rfl, fun h => by cases h⟩
  ·refine ⟨b3, by simp only [au, if_true, h3], fun h => ⟨g2 rfl, g3 h⟩⟩
theorem n5 (l : List ac) (h : mP l) : ∀ (n i : Nat), l.length - i = n → i ≤ l.length → bR l (i : Int) = some (.inr ()) := by
 have hl := h.len
 intro n
 induction n with
 | zero => intro i hn hi; rw [bR, if_neg (by omega)]
 | succ n ih =>
  intro i hn hi
  have hlt : i < l.length := by omega
  have S := h.all _ (List.getElem_mem hlt)
  have s1 := S.n
  have s2 := S.t
  have s3 := S.x
  have s4 := S.y
  have s5 := S.h
  rw [bR, if_pos (by omega), if_pos ⟨by omega, by omega⟩, gd _ _ hlt, aG (n := (i : Int) + 1) (by omega) (by omega), add1, ih (i + 1) (by omega) (by omega)]
  simp only [jt, areC, S.tx, au, s1, s2, s3, s4, s5, and_self, decide_true, Bool.and_self, Bool.not_true, Bool.false_eq_true, if_false]
  by_cases c6 : i = 0
  ·subst c6
   simp
  ·have e1 : aj ((i : Int) - 1) = ((i - 1 : Nat) : Int) := by rw [aG (by omega) (by omega)]; omega
   have e2 : (0 : Int) < (i : Int) := by omega
   have hu := h.up (i - 1) (by omega)
   have e4 : (l[i - 1 + 1]'(by omega)) = l[i] := by congr 1; omega
   rw [e4] at hu
   have c7 : ¬ l[i].Y < (l[i - 1]'(by omega)).Y := by omega
   rw [e1, gd _ _ (show i - 1 < l.length by omega), if_pos e2, if_pos ⟨by omega, by omega⟩, decide_eq_false c7]
   simp
theorem p7 {l : List ac} {keep : List Bool} (h : mP l) (hk : keep.length = l.length) : dp l keep = some true := by
 have hl := h.len
 have hc : bR l 0 = some (.inr ()) := n5 l h _ 0 rfl (Nat.zero_le _)
 unfold dp
 rw [if_neg (by omega), hc]
 have : ¬ ¬ (keep.length : Int) = (l.length : Int) := by omega
 rw [decide_eq_false this]
 rfl
end Go.Proofs.Ytlcfemplcaejgaa.LG
namespace Go.Proofs.Ytlcfemplcaejgaa.LG
open Go Go.LG Go.Lib

def cg (l : List ac) : Int := (l.map (·.H)).sum
theorem gt {l : List ac} (h : ∀ s ∈ l, 0 ≤ s.H ∧ s.H ≤ 1000000) : 0 ≤ cg l ∧ cg l ≤ 1000000 * (l.length : Int) := by
 induction l with
 | nil => exact ⟨Int.le_refl _, Int.le_refl _⟩
 | cons s l ih =>
  have h1 := h s (List.mem_cons_self ..)
  have h2 := ih fun x hx => h x (List.mem_cons_of_mem _ hx)
  unfold cg at *
  rw [List.map_cons, List.sum_cons, List.length_cons]
  push_cast
  omega
theorem oL (l : List ac) (hl : l.length ≤ 1000000) (h : ∀ s ∈ l, 0 ≤ s.H ∧ s.H ≤ 1000000) : ∀ (n i : Nat) (acc : Int), l.length - i = n → i ≤ l.length → 0 ≤ acc → acc ≤ 1000000 * (i : Int) →
  cS l acc (i : Int) = some (acc + cg (l.drop i)) := by
 intro n
 induction n with
 | zero =>
  intro i acc hn hi h0 h1
  rw [cS, if_neg (by omega), List.drop_eq_nil_of_le (by omega)]
  show some acc = some (acc + 0)
  rw [Int.add_zero]
 | succ n ih =>
  intro i acc hn hi h0 h1
  have hlt : i < l.length := by omega
  have hs := h _ (List.getElem_mem hlt)
  rw [cS, if_pos (by omega), if_pos ⟨by omega, by omega⟩, gd _ _ hlt, aG (n := (i : Int) + 1) (by omega) (by omega), add1, aG (n := acc + l[i].H) (by omega) (by omega), ih (i + 1) _ (by omega) (by omega) (by omega) (by push_cast; omega), List.drop_eq_getElem_cons hlt]
  unfold cg
  rw [List.map_cons, List.sum_cons]
  congr 1
  omega
theorem kQ {l : List ac} (hl : l.length ≤ 1000000) (h : ∀ s ∈ l, 0 ≤ s.H ∧ s.H ≤ 1000000) : dB l = some (cg l) := by
 have := oL l hl h _ 0 0 rfl (Nat.zero_le _) (Int.le_refl _) (by simp)
 have h' : cS l 0 0 = some (0 + cg (l.drop 0)) := this
 unfold dB
 rw [h', List.drop_zero, Int.zero_add]; rfl
def pg (x dy : Int) (s : ac) : ac := ⟨s.Node, s.Table, s.X + x, s.Y + dy, s.H, s.Text, s.Head, s.Note⟩
def iZ (p : ax) (fills : List Int) : Int := ((fills.length : Int) - 1) * (kD p + p.Gap)
theorem lW {p : ax} (h : j7 p) {fills : List Int} (h1 : 1 ≤ fills.length) (h2 : fills.length ≤ 8) : 0 ≤ iZ p fills ∧ iZ p fills ≤ 7 * 5000 := by
 have hg := h.g
 have hc := h.col
 unfold iZ
 exact ⟨Int.mul_nonneg (by omega) (by omega), Int.mul_le_mul (by omega) (by omega) (by omega) (by omega)⟩
theorem pW {p : ax} (h : j7 p) {fills : List Int} (h1 : 1 ≤ fills.length) (h2 : fills.length ≤ 8) : aj ((aj ((fills.length : Int) - 1)) * (aj (kD p + p.Gap))) = iZ p fills := by
 have hg := h.g
 have hc := h.col
 have := lW h h1 h2
 rw [aG (n := (fills.length : Int) - 1) (by omega) (by omega), aG (n := kD p + p.Gap) (by omega) (by omega)]
 exact aG (n := iZ p fills) (by omega) (by omega)
theorem n6 {p : ax} (h : j7 p) (o : ai) (hs : o.sheet = ⟨p⟩) (h1 : 1 ≤ o.fills.length) (h2 : o.fills.length ≤ 8) (l : List ac) (hl : l.length ≤ 1000000) (hS : ∀ s ∈ l, Sl s) {top y : Int} (ht : -1000000000 ≤ top ∧ top ≤ 1000000000) (hy : 0 ≤ y ∧ y ≤ 100000000000) :
  ∀ (n i : Nat) (acc : List ac), l.length - i = n → i ≤ l.length → acc.length ≤ 1000000 + i →
  a5 o l top y (kD p) (i : Int) acc = some (acc ++ (l.drop i).map (pg (iZ p o.fills) (y - top))) := by
 intro n
 induction n with
 | zero => intro i acc hn hi ha; rw [a5, if_neg (by omega), List.drop_eq_nil_of_le (by omega)]; simp
 | succ n ih =>
  intro i acc hn hi ha
  have hlt : i < l.length := by omega
  have S := hS _ (List.getElem_mem hlt)
  have s3 := S.x
  have s4 := S.y
  have hx := lW h h1 h2
  have hg : o.sheet.Paper.Gap = p.Gap := by rw [hs]
  rw [a5, if_pos (by omega), if_pos ⟨by omega, by omega⟩, if_pos (by omega), gd _ _ hlt, hg, pW h h1 h2, aG (n := (i : Int) + 1) (by omega) (by omega), add1,
   aG (n := l[i].X + iZ p o.fills) (by omega) (by omega), aG (n := l[i].Y - top) (by omega) (by omega), aG (n := l[i].Y - top + y) (by omega) (by omega), ih (i + 1) _ (by omega) (by omega) (by simp; omega), List.drop_eq_getElem_cons hlt, List.map_cons]
  have e : pg (iZ p o.fills) (y - top) l[i] = ⟨l[i].Node, l[i].Table, l[i].X + iZ p o.fills, l[i].Y - top + y, l[i].H, l[i].Text, l[i].Head, l[i].Note⟩ := by
   unfold pg
   congr 1
   omega
  rw [e]
  simp
theorem m9 {p : ax} (h : j7 p) (o : ai) (hs : o.sheet = ⟨p⟩) (h1 : 1 ≤ o.fills.length) (h2 : o.fills.length ≤ 8) (hp : o.placed.length ≤ 1000000) (l : List ac) (hl : l.length ≤ 1000000) (hS : ∀ s ∈ l, Sl s) {top y : Int} (ht : -1000000000 ≤ top ∧ top ≤ 1000000000) (hy : 0 ≤ y ∧ y ≤ 100000000000) :
  ce o l top y = some ⟨o.sheet, o.placed ++ l.map (pg (iZ p o.fills) (y - top)), o.notes, o.fills⟩ := by
 have hL := n6 h o hs h1 h2 l hl hS ht hy _ 0 o.placed rfl (Nat.zero_le _) (by omega)
 have hL' : a5 o l top y (kD p) 0 o.placed = some (o.placed ++ (l.drop 0).map (pg (iZ p o.fills) (y - top))) := hL
 unfold ce
 rw [hs, mt h.c h.g h.w, au, hL', List.drop_zero, au]
structure gV (b : ak) : Prop where
 ne : b.slices ≠ []
 sl : ∀ s ∈ b.slices, Sl s ∧ s.Note = false
 nt : ∀ s ∈ b.notes, Sl s ∧ s.Note = true
 len : b.slices.length ≤ 60
 len2 : b.notes.length ≤ 60
 en : b.end_ ≤ 1001000000
 top : ∀ s ∈ b.slices, (b.slices.getD 0 aa).Y ≤ s.Y ∧ s.Y + s.H ≤ b.end_
def gv (b : ak) : Int := (b.slices.getD 0 aa).Y
def bh (b : ak) : Int := b.end_ - gv b
theorem gV.first {b : ak} (h : gV b) : b.slices.getD 0 aa ∈ b.slices := by
 have hp : 0 < b.slices.length := List.length_pos_iff.2 h.ne
 rw [List.getD_eq_getElem?_getD, List.getElem?_eq_getElem hp]
 exact List.getElem_mem hp
theorem gV.ok {b : ak} (h : gV b) : -1000000000 ≤ gv b ∧ gv b ≤ 1000000000 ∧ 0 ≤ bh b ∧ bh b ≤ 2001000000 := by
 have h1 := h.first
 have h2 := (h.sl _ h1).1
 have h3 := h.top _ h1
 have h4 := h2.y
 have h5 := h2.h
 have h6 := h.en
 unfold bh gv
 omega
theorem nj {b : ak} (h : gV b) : cG b = some (gv b) := by
 have hp : 0 < b.slices.length := List.length_pos_iff.2 h.ne
 unfold cG
 rw [if_pos ⟨Int.le_refl _, by omega⟩]; rfl
theorem jr {b : ak} (h : gV b) : bj b = some (bh b) := by
 have := h.ok
 unfold bj
 rw [nj h, au]
 exact congrArg some (aG (n := bh b) (by omega) (by omega))
structure mm (p : ax) (o : ai) : Prop where
 sh : o.sheet = ⟨p⟩
 f1 : 1 ≤ o.fills.length
 f2 : (o.fills.length : Int) ≤ p.Columns
 fl : ∀ f ∈ o.fills, 0 ≤ f ∧ f ≤ 10000000000
 pl : o.placed.length ≤ 100000
 nl : o.notes.length ≤ 10000
 nt : ∀ s ∈ o.notes, Sl s ∧ s.Note = true
def gP (l : List Int) : Int := l.getD (l.length - 1) 0
theorem ke {l : List Int} (h : 1 ≤ l.length) : gP l ∈ l := by
 unfold gP
 rw [List.getD_eq_getElem?_getD, List.getElem?_eq_getElem (show l.length - 1 < l.length by omega)]
 exact List.getElem_mem _
def fC (p : ax) (o : ai) (b : ak) (y : Int) : ai := ⟨o.sheet, o.placed ++ b.slices.map (pg (iZ p o.fills) (y - gv b)), o.notes ++ b.notes, o.fills.set (o.fills.length - 1) (y + bh b)⟩
theorem ki {p : ax} (h : j7 p) {o : ai} (O : mm p o) {b : ak} (hb : gV b) {y : Int} (hy : 0 ≤ y ∧ y ≤ 50000000000) : bk o b y = some (fC p o b y) := by
 have hc := h.c
 have f1 := O.f1
 have f2 := O.f2
 have h1 := hb.ok
 have h2 := hb.len
 have h3 := hb.len2
 have h4 := O.pl
 have h5 := O.nl
 unfold bk
 rw [nj hb, au, m9 h o O.sh f1 (by omega) (by omega) b.slices (by omega) (fun s hs => (hb.sl s hs).1) ⟨h1.1, h1.2.1⟩ ⟨hy.1, by omega⟩, au, jr hb, au]
 have e : aj ((o.fills.length : Int) - 1) = ((o.fills.length - 1 : Nat) : Int) := by rw [aG (by omega) (by omega)]; omega
 have q1 : (0 : Int) ≤ ((o.fills.length - 1 : Nat) : Int) ∧ ((o.fills.length - 1 : Nat) : Int) < (o.fills.length : Int) := ⟨by omega, by omega⟩
 have q2 : o.notes.length + b.notes.length ≤ 2199023255552 := by omega
 simp only [e, q1, q2, and_self, if_true, aG (n := y + bh b) (by omega) (by omega)]
 rfl
def hi (l : List Int) : Int := l.foldl max 0
theorem io (l : List Int) : ∀ a : Int, a ≤ l.foldl max a ∧ (∀ x ∈ l, x ≤ l.foldl max a) ∧ (l.foldl max a = a ∨ l.foldl max a ∈ l) := by
 induction l with
 | nil => intro a; exact ⟨Int.le_refl _, fun x h => (by cases h), .inl rfl⟩
 | cons b l ih =>
  intro a
  obtain ⟨h1, h2, h3⟩ := ih (max a b)
  rw [List.foldl_cons]
  refine ⟨by omega, fun x hx => ?_, ?_⟩
  ·rcases List.mem_cons.1 hx with rfl | hx
   ·omega
   ·exact h2 x hx
  ·rcases h3 with h3 | h3
   ·rw [h3]
    rcases Int.le_total a b with h | h
    ·exact .inr (by rw [Int.max_eq_right h]; exact List.mem_cons_self ..)
    ·exact .inl (Int.max_eq_left h)
   ·exact .inr (List.mem_cons_of_mem _ h3)
theorem nq {l : List Int} (h : ∀ f ∈ l, 0 ≤ f ∧ f ≤ 10000000000) : 0 ≤ hi l ∧ hi l ≤ 10000000000 := by
 obtain ⟨h1, h2, h3⟩ := io l 0
 refine ⟨h1, ?_⟩
 rcases h3 with h3 | h3
 ·show l.foldl max 0 ≤ _; rw [h3]; decide
 ·exact (h _ h3).2
theorem kN {l : List Int} {f : Int} (h : f ∈ l) : f ≤ hi l := (io l 0).2.1 f h
theorem mU (o : ai) (hl : o.fills.length ≤ 1000000) : ∀ (n i : Nat) (m : Int), o.fills.length - i = n → i ≤ o.fills.length → aZ o m (i : Int) = some ((o.fills.drop i).foldl max m) := by
 intro n
 induction n with
 | zero => intro i m hn hi; rw [aZ, if_neg (by omega), List.drop_eq_nil_of_le (by omega)]; rfl
 | succ n ih =>
  intro i m hn hi
  have hlt : i < o.fills.length := by omega
  rw [aZ, if_pos (by omega), if_pos ⟨by omega, by omega⟩, gd _ _ hlt, aG (n := (i : Int) + 1) (by omega) (by omega), add1, ih (i + 1) _ (by omega) (by omega), List.drop_eq_getElem_cons hlt]
  rfl
theorem mZ (o : ai) (hl : o.fills.length ≤ 1000000) : ∀ (n i : Nat) (m : Int), o.fills.length - i = n → i ≤ o.fills.length → a9 o m (i : Int) = some ((o.fills.drop i).foldl max m) := by
 intro n
 induction n with
 | zero => intro i m hn hi; rw [a9, if_neg (by omega), List.drop_eq_nil_of_le (by omega)]; rfl
 | succ n ih =>
  intro i m hn hi
  have hlt : i < o.fills.length := by omega
  rw [a9, if_pos (by omega), if_pos ⟨by omega, by omega⟩, gd _ _ hlt, aG (n := (i : Int) + 1) (by omega) (by omega), add1, ih (i + 1) _ (by omega) (by omega), List.drop_eq_getElem_cons hlt]
  rfl
theorem pN (o : ai) (hl : o.fills.length ≤ 1000000) : b7 o = some (hi o.fills) := by
 have h : aZ o 0 0 = some ((o.fills.drop 0).foldl max 0) := mU o hl _ 0 0 rfl (Nat.zero_le _)
 unfold b7
 rw [h]; rfl
theorem qF (o : ai) (hl : o.fills.length ≤ 1000000) : ct o = some (hi o.fills) := by
 have h : a9 o 0 0 = some ((o.fills.drop 0).foldl max 0) := mZ o hl _ 0 0 rfl (Nat.zero_le _)
 unfold ct
 rw [h]; rfl
def jJ (p : ax) (o : ai) (b : ak) (gap : Int) : Option ai :=
 let rest := p.Height - cg o.notes - cg b.notes
 if rest < hi o.fills then none
 else if gP o.fills + gap + bh b ≤ rest then some (fC p o b (gP o.fills + gap))
 else if (o.fills.length : Int) < p.Columns ∧ bh b ≤ rest then some (fC p ⟨o.sheet, o.placed, o.notes, o.fills ++ [0]⟩ b 0)
 else none
theorem pF {p : ax} (h : j7 p) {o : ai} (O : mm p o) {b : ak} (hb : gV b) {gap : Int} (hg : 0 ≤ gap ∧ gap ≤ 10000000000) :
  cq o b gap = some (match jJ p o b gap with | some o' => (true, o') | none => (false, o)) := by
 have hc := h.c
 have hh := h.h
 have f1 := O.f1
 have f2 := O.f2
 have f3 := O.fl _ (ke f1)
 have h1 := hb.ok
 have h2 := hb.len2
 have h5 := O.nl
 have s1 := gt fun s hs => ((O.nt s hs).1).h
 have s2 := gt fun s hs => ((hb.nt s hs).1).h
 have hH := nq O.fl
 have hsh : o.sheet.Paper = p := by rw [O.sh]
 have e : aj ((o.fills.length : Int) - 1) = ((o.fills.length - 1 : Nat) : Int) := by rw [aG (by omega) (by omega)]; omega
 have e2 : o.fills.getD (Int.toNat ((o.fills.length - 1 : Nat) : Int)) 0 = gP o.fills := rfl
 unfold cq
 rw [kQ (by omega) (fun s hs => ((O.nt s hs).1).h), au, kQ (by omega) (fun s hs => ((hb.nt s hs).1).h), au, e, if_pos ⟨by omega, by omega⟩, pN o (by omega), au, jr hb, hsh, e2,
  aG (n := p.Height - cg o.notes) (by omega) (by omega), aG (n := p.Height - cg o.notes - cg b.notes) (by omega) (by omega), aG (n := gP o.fills + gap) (by omega) (by omega)]
 unfold jJ
 simp only [au, aG (n := gP o.fills + gap + bh b) (by omega) (by omega)]
 by_cases c1 : p.Height - cg o.notes - cg b.notes < hi o.fills
 ·simp only [c1, if_true, au]
 ·simp only [c1, if_false, au]
  by_cases c2 : gP o.fills + gap + bh b ≤ p.Height - cg o.notes - cg b.notes
  ·simp only [c2, if_true, au]
   rw [ki h O hb (by omega), au]
   rfl
  ·simp only [c2, if_false, au, eK]
   by_cases c3 : (o.fills.length : Int) < p.Columns ∧ bh b ≤ p.Height - cg o.notes - cg b.notes
   ·have O2 : mm p ⟨o.sheet, o.placed, o.notes, o.fills ++ [0]⟩ := ⟨O.sh, by simp, by simp; omega, fun f hf => by
     rcases List.mem_append.1 hf with hf | hf
     ·exact O.fl f hf
     ·rw [List.mem_singleton.1 hf]; decide, O.pl, O.nl, O.nt⟩
    rw [decide_eq_true c3, if_pos rfl, if_pos (by omega), ki h O2 hb ⟨Int.le_refl _, by decide⟩, if_pos c3, au]
    rfl
   ·rw [decide_eq_false c3, if_neg (by decide), if_neg c3]
    rfl
def eD : Int → List ac → List ac
 | _, [] => []
 | y, s :: l => ⟨s.Node, s.Table, s.X, y, s.H, s.Text, s.Head, s.Note⟩ :: eD (y + s.H) l
def i8 (o : ai) (p : ax) : List ac := o.placed ++ eD (max (p.Height - cg o.notes) (hi o.fills)) o.notes
theorem md (o : ai) (hl : o.notes.length ≤ 10000) (hS : ∀ s ∈ o.notes, Sl s ∧ s.Note = true) : ∀ (n i : Nat) (y : Int) (acc : List ac), o.notes.length - i = n → i ≤ o.notes.length → -100000000000 ≤ y ∧ y ≤ 100000000000 + 1000000 * (i : Int) → acc.length ≤ 1000000 + i →
  aS o y (i : Int) acc = some (acc ++ eD y (o.notes.drop i)) := by
 intro n
 induction n with
 | zero => intro i y acc hn hi hy ha; rw [aS, if_neg (by omega), List.drop_eq_nil_of_le (by omega)]; simp [eD]
 | succ n ih =>
  intro i y acc hn hi hy ha
  have hlt : i < o.notes.length := by omega
  have S := (hS _ (List.getElem_mem hlt)).1.h
  rw [aS, if_pos (by omega), if_pos ⟨by omega, by omega⟩, if_pos (by omega), gd _ _ hlt, aG (n := (i : Int) + 1) (by omega) (by omega), add1, aG (n := y + o.notes[i].H) (by omega) (by omega), ih (i + 1) _ _ (by omega) (by omega) (by push_cast; omega) (by simp; omega), List.drop_eq_getElem_cons hlt]
  simp [eD]
theorem mL (o : ai) (hl : o.notes.length ≤ 10000) (hS : ∀ s ∈ o.notes, Sl s ∧ s.Note = true) : ∀ (n i : Nat) (y : Int) (acc : List ac), o.notes.length - i = n → i ≤ o.notes.length → -100000000000 ≤ y ∧ y ≤ 100000000000 + 1000000 * (i : Int) → acc.length ≤ 1000000 + i →
  aT o y (i : Int) acc = some (acc ++ eD y (o.notes.drop i)) := by
 intro n
 induction n with
 | zero => intro i y acc hn hi hy ha; rw [aT, if_neg (by omega), List.drop_eq_nil_of_le (by omega)]; simp [eD]
 | succ n ih =>
  intro i y acc hn hi hy ha
  have hlt : i < o.notes.length := by omega
  have S := (hS _ (List.getElem_mem hlt)).1.h
  rw [aT, if_pos (by omega), if_pos ⟨by omega, by omega⟩, if_pos (by omega), gd _ _ hlt, aG (n := (i : Int) + 1) (by omega) (by omega), add1, aG (n := y + o.notes[i].H) (by omega) (by omega), ih (i + 1) _ _ (by omega) (by omega) (by push_cast; omega) (by simp; omega), List.drop_eq_getElem_cons hlt]
  simp [eD]
theorem nw {p : ax} (h : j7 p) {o : ai} (O : mm p o) : dB o.notes = some (cg o.notes) ∧ max (aj (o.sheet.Paper.Height - cg o.notes)) (hi o.fills) = max (p.Height - cg o.notes) (hi o.fills) ∧ -100000000000 ≤ max (p.Height - cg o.notes) (hi o.fills) ∧ max (p.Height - cg o.notes) (hi o.fills) ≤ 100000000000 := by
 have hh := h.h
 have h5 := O.nl
 have s1 := gt fun s hs => ((O.nt s hs).1).h
 have hH := nq O.fl
 have hsh : o.sheet.Paper = p := by rw [O.sh]
 refine ⟨kQ (by omega) (fun s hs => ((O.nt s hs).1).h), ?_, by omega, by omega⟩
 rw [hsh, aG (by omega) (by omega)]
theorem qa {p : ax} (h : j7 p) {o : ai} (O : mm p o) (n : Int) : cc o n = some ⟨n, i8 o p⟩ := by
 obtain ⟨h1, h2, h3⟩ := nw h O
 have hc := h.c
 have f2 := O.f2
 have hL := md o O.nl O.nt _ 0 (max (p.Height - cg o.notes) (hi o.fills)) o.placed rfl (Nat.zero_le _) ⟨h3.1, by simp; exact h3.2⟩ (by have := O.pl; omega)
 have hL' : aS o (max (p.Height - cg o.notes) (hi o.fills)) 0 o.placed = some (o.placed ++ eD (max (p.Height - cg o.notes) (hi o.fills)) (o.notes.drop 0)) := hL
 unfold cc
 rw [h1, au, pN o (by omega), au, h2, hL', List.drop_zero]
 rfl
theorem p6 {p : ax} (h : j7 p) {o : ai} (O : mm p o) (n : Int) : cd o n = some ⟨n, i8 o p⟩ := by
 obtain ⟨h1, h2, h3⟩ := nw h O
 have hc := h.c
 have f2 := O.f2
 have hL := mL o O.nl O.nt _ 0 (max (p.Height - cg o.notes) (hi o.fills)) o.placed rfl (Nat.zero_le _) ⟨h3.1, by simp; exact h3.2⟩ (by have := O.pl; omega)
 have hL' : aT o (max (p.Height - cg o.notes) (hi o.fills)) 0 o.placed = some (o.placed ++ eD (max (p.Height - cg o.notes) (hi o.fills)) (o.notes.drop 0)) := hL
 unfold cd
 rw [h1, au, qF o (by omega), au, h2, hL', List.drop_zero]
 rfl
end Go.Proofs.Ytlcfemplcaejgaa.LG
namespace Go.Proofs.Ytlcfemplcaejgaa.LG
open Go Go.LG Go.Lib

structure pf where
 last : Bool
 ss : List ac
 ns : List ac
 en : Int
def bT : pf → List (ac × Bool) → List ak
 | st, [] => if st.ss = [] ∧ st.ns = [] then [] else [⟨st.ss, st.ns, st.en⟩]
 | st, (s, k) :: r =>
  if s.Note = true then bT ⟨st.last, st.ss, st.ns ++ [s], st.en⟩ r
  else if st.ss ≠ [] ∧ st.en ≤ s.Y ∧ st.last = false then ⟨st.ss, st.ns, st.en⟩ :: bT ⟨k, [s], [], s.Y + s.H⟩ r
  else if st.ss = [] then bT ⟨k, [s], st.ns, s.Y + s.H⟩ r
  else bT ⟨k, st.ss ++ [s], st.ns, max st.en (s.Y + s.H)⟩ r
def jI {σ : Type} (φ : σ → ak → Option (σ × Bool)) : σ → List ak → Option σ
 | s, [] => some s
 | s, b :: r => φ s b >>= fun x => if x.2 = true then jI φ x.1 r else some x.1
def qR {σ : Type} (φ : σ → ak → Option (σ × Bool)) (o : Sum (List ac × List ac × Int × σ) (List ac × List ac × Int × σ)) : Option σ :=
 match o with
 | (Sum.inl (v76, v83, v90, v92)) => some v92
 | (Sum.inr (v94, v101, v108, v110)) => (if 0 < (aj ((v94.length : Int) + (v101.length : Int))) then (φ v110 (⟨v94, v101, v108⟩ : ak) >>= fun (s478, b479) => some s478) else some v110)
theorem ni {σ : Type} (φ : σ → ak → Option (σ × Bool)) {l : List ac} (h : mP l) {keep : List Bool} (hk : keep.length = l.length) : ∀ (n i : Nat) (st : pf) (s : σ), l.length - i = n → i ≤ l.length → st.ss.length ≤ i → st.ns.length ≤ i →
  (bB φ l keep st.last (i : Int) st.ss st.ns st.en s >>= qR φ) = jI φ s (bT st ((l.zip keep).drop i)) := by
 have hl := h.len
 intro n
 induction n with
 | zero =>
  intro i st s hn hi h1 h2
  rw [bB, if_neg (by omega), List.drop_eq_nil_of_le (by simp; omega), au]
  unfold qR bT
  simp only
  by_cases c : st.ss = [] ∧ st.ns = []
  ·rw [if_pos c, c.1, c.2]
   rfl
  ·have hp : 0 < (st.ss.length : Int) + (st.ns.length : Int) := by
    rcases Nat.eq_zero_or_pos st.ss.length with e | e
    ·rcases Nat.eq_zero_or_pos st.ns.length with e' | e'
     ·exact absurd ⟨List.eq_nil_of_length_eq_zero e, List.eq_nil_of_length_eq_zero e'⟩ c
     ·omega
    ·omega
   rw [if_neg c, aG (by omega) (by omega), if_pos hp]
   unfold jI
   cases φ s ⟨st.ss, st.ns, st.en⟩ with
   | none => rfl
   | some x => cases hx : x.2 <;> simp [jI, hx]
 | succ n ih =>
  intro i st s hn hi h1 h2
  have hlt : i < l.length := by omega
  have hlk : i < keep.length := by omega
  have S := h.all _ (List.getElem_mem hlt)
  have s4 := S.y
  have s5 := S.h
  have hz : (l.zip keep).drop i = (l[i], keep[i]) :: (l.zip keep).drop (i + 1) := by
   rw [List.drop_eq_getElem_cons (by simp; omega)]
   simp
  have q : (0 : Int) ≤ (i : Int) ∧ (i : Int) < (l.length : Int) := ⟨by omega, by omega⟩
  have q2 : (0 : Int) ≤ (i : Int) ∧ (i : Int) < (keep.length : Int) := ⟨by omega, by omega⟩
  have q3 : st.ns.length + 1 ≤ 2199023255552 := by omega
  have q4 : st.ss.length + 1 ≤ 2199023255552 := by omega
  have q5 : ([] : List ac).length + 1 ≤ 2199023255552 := by simp
  have ek : keep.getD (Int.toNat (i : Int)) false = keep[i] := gd _ _ hlk
  have em : max l[i].Y (l[i].Y + l[i].H) = l[i].Y + l[i].H := by omega
  rw [hz, bB, if_pos q.2, aG (n := (i : Int) + 1) (by omega) (by omega), add1 i]
  unfold bT
  simp only [if_pos q, if_pos q2, if_pos q3, if_pos q4, gd _ _ hlt, ek, aG (n := l[i].Y + l[i].H) (by omega) (by omega), em, List.length_nil]
  by_cases c1 : l[i].Note = true
  ·rw [if_pos c1, if_pos c1, au]
   exact ih (i + 1) ⟨st.last, st.ss, st.ns ++ [l[i]], st.en⟩ s (by omega) (by omega) (by simp; omega) (by simp; omega)
  ·rw [if_neg c1, if_neg c1]
   have e1 : (0 : Int) < (st.ss.length : Int) ↔ st.ss ≠ [] := by
    constructor
    ·intro h e; rw [e] at h; simp at h
    ·intro h; have := List.length_pos_iff.2 h; omega
   by_cases c2 : st.ss = []
   ·have c3 : ¬ (0 : Int) < (st.ss.length : Int) := by rw [e1]; simpa using c2
    have c4 : (st.ss.length : Int) = 0 := by omega
    have c5 : ¬ (st.ss ≠ [] ∧ st.en ≤ l[i].Y ∧ st.last = false) := fun h => h.1 c2
    have := ih (i + 1) ⟨keep[i], [l[i]], st.ns, l[i].Y + l[i].H⟩ s (by omega) (by omega) (by simp) (by simp; omega)
    rw [if_neg c3, if_neg c5, if_pos c2, ← this, c2]
    simp
   ·have c3 : (0 : Int) < (st.ss.length : Int) := e1.2 c2
    have c4 : ¬ (st.ss.length : Int) = 0 := by omega
    by_cases c5 : st.en ≤ l[i].Y ∧ st.last = false
    ·have c6 : st.ss ≠ [] ∧ st.en ≤ l[i].Y ∧ st.last = false := ⟨c2, c5⟩
     rw [if_pos c3, if_pos c6]
     simp only [c5.1, c5.2, decide_true, au, if_true, Bool.not_false]
     unfold jI
     cases hφ : φ s ⟨st.ss, st.ns, st.en⟩ with
     | none => rfl
     | some x =>
      obtain ⟨s', b⟩ := x
      cases b
      ·rfl
      ·have := ih (i + 1) ⟨keep[i], [l[i]], [], l[i].Y + l[i].H⟩ s' (by omega) (by omega) (by simp) (by simp)
       simp only [au, if_true]
       rw [← this]
       simp
    ·have c6 : ¬ (st.ss ≠ [] ∧ st.en ≤ l[i].Y ∧ st.last = false) := fun h => c5 h.2
     have := ih (i + 1) ⟨keep[i], st.ss ++ [l[i]], st.ns, max st.en (l[i].Y + l[i].H)⟩ s (by omega) (by omega) (by simp; omega) (by simp; omega)
     rw [if_pos c3, if_neg c6, if_neg c2, ← this, au]
     by_cases c7 : st.en ≤ l[i].Y
     ·have c8 : st.last = true := by
       cases e : st.last
       ·exact absurd ⟨c7, e⟩ c5
       ·rfl
      simp [c7, c8, c2]
     ·simp [c7, c2]
theorem m7 {σ : Type} (φ : σ → ak → Option (σ × Bool)) (s : σ) {l : List ac} (h : mP l) {keep : List Bool} (hk : keep.length = l.length) :
  dl φ s l keep = jI φ s (bT ⟨false, [], [], 0⟩ (l.zip keep)) := by
 have := ni φ h hk _ 0 ⟨false, [], [], 0⟩ s rfl (Nat.zero_le _) (Nat.le_refl _) (Nat.le_refl _)
 rw [List.drop_zero] at this
 exact this
structure BI (st : pf) (r : List (ac × Bool)) : Prop where
 sl : ∀ s ∈ st.ss, Sl s ∧ s.Note = false
 nt : ∀ s ∈ st.ns, Sl s ∧ s.Note = true
 len : st.ss.length + st.ns.length + r.length ≤ 60
 en : st.en ≤ 1001000000
 top : ∀ s ∈ st.ss, (st.ss.getD 0 aa).Y ≤ s.Y ∧ s.Y + s.H ≤ st.en
 rest : ∀ x ∈ r, Sl x.1
 up : ∀ x ∈ r, ∀ s ∈ st.ss, s.Y ≤ x.1.Y
 sorted : r.Pairwise fun x y => x.1.Y ≤ y.1.Y
theorem ka {α : Type} (l : List α) (x d : α) (h : l ≠ []) : (l ++ [x]).getD 0 d = l.getD 0 d := by
 cases l with
 | nil => exact absurd rfl h
 | cons a l => rfl
theorem BI.step {st : pf} {s : ac} {k : Bool} {r : List (ac × Bool)} (h : BI st ((s, k) :: r)) :
  (s.Note = true → BI ⟨st.last, st.ss, st.ns ++ [s], st.en⟩ r) ∧
  (s.Note = false → BI ⟨k, [s], [], s.Y + s.H⟩ r ∧ (st.ss = [] → BI ⟨k, [s], st.ns, s.Y + s.H⟩ r) ∧ (st.ss ≠ [] → BI ⟨k, st.ss ++ [s], st.ns, max st.en (s.Y + s.H)⟩ r)) := by
 have hs : Sl s := h.rest (s, k) (List.mem_cons_self ..)
 have hl := h.len
 have hp := List.pairwise_cons.1 h.sorted
 have hen := h.en
 simp only [List.length_cons] at hl
 refine ⟨fun hn => ⟨h.sl, fun x hx => ?_, by simp; omega, h.en, h.top, fun x hx => h.rest x (List.mem_cons_of_mem _ hx), fun x hx => h.up x (List.mem_cons_of_mem _ hx), hp.2⟩, fun hn => ?_⟩
 ·rcases List.mem_append.1 hx with hx | hx
  ·exact h.nt x hx
  ·rw [List.mem_singleton.1 hx]; exact ⟨hs, hn⟩
 ·have h1 : ∀ x ∈ [s], Sl x ∧ x.Note = false := fun x hx => by rw [List.mem_singleton.1 hx]; exact ⟨hs, hn⟩
  have hy := hs.y
  have hh := hs.h
  have h2 : ∀ x ∈ [s], (([s] : List ac).getD 0 aa).Y ≤ x.Y ∧ x.Y + x.H ≤ s.Y + s.H := fun x hx => by rw [List.mem_singleton.1 hx]; exact ⟨Int.le_refl _, Int.le_refl _⟩
  have h3 : ∀ x ∈ r, ∀ y ∈ [s], y.Y ≤ x.1.Y := fun x hx y hy => by rw [List.mem_singleton.1 hy]; exact hp.1 x hx
  have hr : ∀ x ∈ r, Sl x.1 := fun x hx => h.rest x (List.mem_cons_of_mem _ hx)
  refine ⟨⟨h1, fun x hx => (by cases hx), by simp; omega, by show s.Y + s.H ≤ _; omega, h2, hr, h3, hp.2⟩, fun he => ⟨h1, h.nt, by simp; omega, by show s.Y + s.H ≤ _; omega, h2, hr, h3, hp.2⟩, fun he => ?_⟩
  refine ⟨fun x hx => ?_, h.nt, by simp; omega, by show max _ _ ≤ _; omega, fun x hx => ?_, hr, fun x hx y hy' => ?_, hp.2⟩
  ·rcases List.mem_append.1 hx with hx | hx
   ·exact h.sl x hx
   ·exact h1 x hx
  ·show ((st.ss ++ [s]).getD 0 aa).Y ≤ x.Y ∧ x.Y + x.H ≤ max st.en (s.Y + s.H)
   rw [ka _ _ _ he]
   rcases List.mem_append.1 hx with hx | hx
   ·have := h.top x hx
    omega
   ·rw [List.mem_singleton.1 hx]
    have hf : st.ss.getD 0 aa ∈ st.ss := by
     have hp : 0 < st.ss.length := List.length_pos_iff.2 he
     rw [List.getD_eq_getElem?_getD, List.getElem?_eq_getElem hp]
     exact List.getElem_mem hp
    have := h.up (s, k) (List.mem_cons_self ..) _ hf
    simp only at this
    omega
  ·rcases List.mem_append.1 hy' with hy' | hy'
   ·exact h.up x (List.mem_cons_of_mem _ hx) y hy'
   ·exact h3 x hx y hy'
theorem BI.bok {st : pf} {r : List (ac × Bool)} (h : BI st r) (hne : st.ss ≠ []) : gV ⟨st.ss, st.ns, st.en⟩ :=
 ⟨hne, h.sl, h.nt, by have := h.len; show st.ss.length ≤ 60; omega, by have := h.len; show st.ns.length ≤ 60; omega, h.en, h.top⟩
theorem mq : ∀ (r : List (ac × Bool)) (st : pf), BI st r → (st.ss ≠ [] → ∀ b ∈ bT st r, gV b) ∧ ((∀ b ∈ bT st r, gV b) ∨ ∃ ns, bT st r = [⟨[], ns, st.en⟩] ∧ ns ≠ [] ∧ ns.length ≤ 60 ∧ ∀ s ∈ ns, Sl s ∧ s.Note = true) := by
 intro r
 induction r with
 | nil =>
  intro st h
  have hl := h.len
  have key : st.ss ≠ [] → ∀ b ∈ bT st [], gV b := fun hne b hb => by
   unfold bT at hb
   rw [if_neg (fun e => hne e.1)] at hb
   rw [List.mem_singleton.1 hb]
   exact h.bok hne
  refine ⟨key, ?_⟩
  by_cases c : st.ss = []
  ·by_cases d : st.ns = []
   ·left
    unfold bT
    rw [if_pos ⟨c, d⟩]
    exact fun b hb => (by cases hb)
   ·right
    unfold bT
    rw [if_neg (fun e => d e.2), c]
    exact ⟨st.ns, rfl, d, by simp at hl; omega, h.nt⟩
  ·exact .inl (key c)
 | cons x r ih =>
  intro st h
  obtain ⟨s, k⟩ := x
  obtain ⟨g1, g2⟩ := h.step
  unfold bT
  by_cases c1 : s.Note = true
  ·rw [if_pos c1]
   exact ih _ (g1 c1)
  ·rw [if_neg c1]
   obtain ⟨i1, i2, i3⟩ := g2 (by simpa using c1)
   by_cases c2 : st.ss ≠ [] ∧ st.en ≤ s.Y ∧ st.last = false
   ·rw [if_pos c2]
    have h1 := (ih _ i1).1 (by simp)
    have key : ∀ b ∈ (⟨st.ss, st.ns, st.en⟩ : ak) :: bT ⟨k, [s], [], s.Y + s.H⟩ r, gV b := fun b hb => by
     rcases List.mem_cons.1 hb with rfl | hb
     ·exact h.bok c2.1
     ·exact h1 b hb
    exact ⟨fun _ => key, .inl key⟩
   ·rw [if_neg c2]
    by_cases c3 : st.ss = []
    ·rw [if_pos c3]
     have h1 := (ih _ (i2 c3)).1 (by simp)
     exact ⟨fun hne => absurd c3 hne, .inl h1⟩
    ·rw [if_neg c3]
     have h1 := (ih _ (i3 c3)).1 (by simp)
     exact ⟨fun _ => h1, .inl h1⟩
theorem kn : ∀ (r : List (ac × Bool)) (st : pf), (bT st r).length ≤ r.length + 1 := by
 intro r
 induction r with
 | nil => intro st; unfold bT; split <;> simp
 | cons x r ih =>
  intro st
  obtain ⟨s, k⟩ := x
  unfold bT
  simp only [List.length_cons]
  split
  ·have := ih ⟨st.last, st.ss, st.ns ++ [s], st.en⟩; omega
  ·split
   ·have := ih ⟨k, [s], [], s.Y + s.H⟩; simp; omega
   ·split
    ·have := ih ⟨k, [s], st.ns, s.Y + s.H⟩; omega
    ·have := ih ⟨k, st.ss ++ [s], st.ns, max st.en (s.Y + s.H)⟩; omega
theorem mP.bi {l : List ac} (h : mP l) (keep : List Bool) (hk : keep.length = l.length) : BI ⟨false, [], [], 0⟩ (l.zip keep) := by
 have hl := h.len
 refine ⟨fun s hs => (by cases hs), fun s hs => (by cases hs), by simp; omega, by show (0 : Int) ≤ _; decide, fun s hs => (by cases hs), fun x hx => h.all _ (List.of_mem_zip hx).1, fun x hx s hs => (by cases hs), ?_⟩
 rw [List.pairwise_iff_getElem]
 intro i j hi hj hij
 simp only [List.length_zip] at hi hj
 have key : ∀ (d i : Nat) (h' : i + d < l.length), (l[i]'(by omega)).Y ≤ l[i + d].Y := by
  intro d
  induction d with
  | zero => intro i h'; exact Int.le_refl _
  | succ d ihd =>
   intro i h'
   have h1 := ihd i (by omega)
   have h2 := h.up (i + d) (by omega)
   exact Int.le_trans h1 h2
 have := key (j - i) i (by omega)
 have e : i + (j - i) = j := by omega
 simp only [List.getElem_zip]
 simpa [e] using this
end Go.Proofs.Ytlcfemplcaejgaa.LG
namespace Go.Proofs.Ytlcfemplcaejgaa.LG
open Go Go.LG Go.Lib

structure HI (before : List ak) (hs : List ac) (t : Int) (m : Nat) : Prop where
 hd : ∀ s ∈ hs, s.Head = true ∧ s.Note = false ∧ Sl s
 mem : ∀ s ∈ hs, ∃ b ∈ before, s ∈ b.slices
 tb : 0 ≤ t ∧ t ≤ 2001000000
 le : ∀ s ∈ hs, s.Y + s.H - (hs.getD 0 aa).Y ≤ t
 len : hs.length ≤ m
theorem mX (b : ak) {before : List ak} (hB : ∀ x ∈ before, gV x) (hl : before.length ≤ 100) {i : Nat} (hi : i < before.length) {m : Nat} (hm : m ≤ 100000) : ∀ (n j : Nat) (hs : List ac) (t : Int), (before[i]).slices.length - j = n → j ≤ (before[i]).slices.length → HI before hs t (m + j) →
  ∃ hs' t', bf b before ((i : Int) + 1) hs t (j : Int) = some (.inr (hs', t')) ∧ HI before hs' t' (m + (before[i]).slices.length) := by
 have hmem := List.getElem_mem hi
 have C := hB _ hmem
 have cl := C.len
 have c0 : ¬ ((i : Int) + 1 = 0) := by omega
 have e0 : Int.toNat (aj ((i : Int) + 1 - 1)) = i := by rw [aG (by omega) (by omega)]; omega
 have eb : before.getD i am = before[i] := by simp [List.getD_eq_getElem?_getD, hi]
 intro n
 induction n with
 | zero =>
  intro j hs t hn hj h
  rw [bf, e0, eb, if_neg (by omega)]
  exact ⟨hs, t, rfl, ⟨h.hd, h.mem, h.tb, h.le, by have := h.len; omega⟩⟩
 | succ n ih =>
  intro j hs t hn hj h
  have hlt : j < (before[i]).slices.length := by omega
  have hlen := h.len
  have ht := h.tb
  rw [bf, e0, eb, if_pos (by omega), if_pos ⟨by omega, by omega⟩, gd _ _ hlt, aG (n := (j : Int) + 1) (by omega) (by omega), add1 j]
  generalize hs0 : (before[i]).slices[j] = s
  have hsm : s ∈ (before[i]).slices := by rw [← hs0]; exact List.getElem_mem hlt
  have hS := C.sl s hsm
  have s4 := hS.1.y
  have s5 := hS.1.h
  have A : (if s.Head = true then some (decide ((i : Int) + 1 = 0)) else some false) = some false := by
   rw [decide_eq_false c0]
   split <;> rfl
  rw [A, au, if_neg (show ¬ false = true by decide), eK, au]
  by_cases c : s.Head = true ∧ s.Table = (b.slices.getD (Int.toNat 0) aa).Table
  ·rw [decide_eq_true c, if_pos rfl, if_pos (by omega)]
   have q : (0 : Int) ≤ 0 ∧ (0 : Int) < ((hs ++ [s]).length : Int) := ⟨Int.le_refl _, by rw [List.length_append, List.length_singleton]; omega⟩
   rw [if_pos q, au]
   generalize hy0 : ((hs ++ [s]).getD (Int.toNat 0) aa).Y = y0
   have hy : ∃ x ∈ hs ++ [s], x.Y = y0 ∧ Sl x := by
    have hp : 0 < (hs ++ [s]).length := by simp
    refine ⟨(hs ++ [s])[0], List.getElem_mem hp, by rw [← hy0]; simp [List.getD_eq_getElem?_getD, List.getElem?_eq_getElem hp], ?_⟩
    have hx := List.getElem_mem hp
    rcases List.mem_append.1 hx with hx | hx
    ·exact (h.hd _ hx).2.2
    ·rw [List.mem_singleton.1 hx]; exact hS.1
   obtain ⟨x0, _, hx1, hx2⟩ := hy
   have hx3 := hx2.y
   rw [hx1] at hx3
   rw [aG (n := s.Y + s.H) (by omega) (by omega), aG (n := s.Y + s.H - y0) (by omega) (by omega)]
   have H2 : HI before (hs ++ [s]) (max t (s.Y + s.H - y0)) (m + (j + 1)) := by
    refine ⟨fun x hx => ?_, fun x hx => ?_, by omega, fun x hx => ?_, by simp; omega⟩
    ·rcases List.mem_append.1 hx with hx | hx
     ·exact h.hd x hx
     ·rw [List.mem_singleton.1 hx]; exact ⟨c.1, hS.2, hS.1⟩
    ·rcases List.mem_append.1 hx with hx | hx
     ·exact h.mem x hx
     ·rw [List.mem_singleton.1 hx]; exact ⟨_, hmem, hsm⟩
    ·have hy1 : ((hs ++ [s]).getD 0 aa).Y = y0 := hy0
     rw [hy1]
     rcases List.mem_append.1 hx with hx | hx
     ·have hne : hs ≠ [] := fun e => by rw [e] at hx; cases hx
      have := h.le x hx
      rw [ka _ _ _ hne] at hy1
      omega
     ·rw [List.mem_singleton.1 hx]; omega
   exact ih (j + 1) _ _ (by omega) (by omega) H2
  ·rw [decide_eq_false c, if_neg (by decide), au]
   exact ih (j + 1) _ _ (by omega) (by omega) ⟨h.hd, h.mem, h.tb, h.le, by omega⟩
theorem mI (b : ak) (hb : b.slices.length ≤ 60) (hs : List ac) (t : Int) : ∀ (n j : Nat), b.slices.length - j = n → j ≤ b.slices.length →
  bg b 0 hs t (j : Int) = some (.inl (hs, t)) ∨ bg b 0 hs t (j : Int) = some (.inr (hs, t)) := by
 intro n
 induction n with
 | zero => intro j hn hj; right; rw [bg, if_neg (by omega)]
 | succ n ih =>
  intro j hn hj
  have hlt : j < b.slices.length := by omega
  rw [bg, if_pos (by omega), if_pos ⟨by omega, by omega⟩, gd _ _ hlt, aG (n := (j : Int) + 1) (by omega) (by omega), add1 j]
  by_cases c : (b.slices[j]).Head = true
  ·left
   simp [c]
  ·have := ih (j + 1) (by omega) (by omega)
   simpa [c] using this
theorem mE (b : ak) (hb : b.slices.length ≤ 60) {before : List ak} (hB : ∀ x ∈ before, gV x) (hl : before.length ≤ 100) : ∀ (n i : Nat) (hs : List ac) (t : Int), before.length - i = n → i ≤ before.length → HI before hs t (60 * i) →
  ∃ hs' t', aW b before hs t ((i : Int) + 1) = some (hs', t') ∧ HI before hs' t' (60 * before.length) := by
 intro n
 induction n with
 | zero =>
  intro i hs t hn hi h
  have c : ¬ ((i : Int) + 1 ≤ (before.length : Int)) := by omega
  rw [aW, if_neg c, au, if_neg (by decide)]
  exact ⟨hs, t, rfl, ⟨h.hd, h.mem, h.tb, h.le, by have := h.len; omega⟩⟩
 | succ n ih =>
  intro i hs t hn hi h
  have hlt : i < before.length := by omega
  rw [aW, if_pos (by omega), au]
  by_cases c : ¬ (b.slices.getD (Int.toNat 0) aa).Table = 0
  ·have e1 : aj ((i : Int) + 1 - 1) = (i : Int) := by rw [aG (by omega) (by omega)]; omega
   have q : (0 : Int) ≤ (i : Int) ∧ (i : Int) < (before.length : Int) := ⟨by omega, by omega⟩
   obtain ⟨hs', t', g1, g2⟩ := mX b hB hl hlt (m := 60 * i) (by omega) _ 0 hs t rfl (Nat.zero_le _) h
   have g1' : bf b before ((i : Int) + 1) hs t 0 = some (.inr (hs', t')) := g1
   have e2 : aj ((i : Int) + 1 + 1) = ((i + 1 : Nat) : Int) + 1 := by rw [aG (by omega) (by omega)]; omega
   rw [decide_eq_true c, if_pos rfl, if_pos (show (0 : Int) < (i : Int) + 1 by omega), e1, if_pos q, g1', e2]
   simp only [au]
   have cl := (hB _ (List.getElem_mem hlt)).len
   exact ih (i + 1) hs' t' (by omega) (by omega) ⟨g2.hd, g2.mem, g2.tb, g2.le, by have := g2.len; omega⟩
  ·rw [decide_eq_false c, if_neg (by decide)]
   exact ⟨hs, t, rfl, ⟨h.hd, h.mem, h.tb, h.le, by have := h.len; omega⟩⟩
structure qS (before : List ak) (hp : List ac) (t : Int) : Prop where
 hd : ∀ s ∈ hp, s.Head = true ∧ s.Note = false ∧ s.Y + s.H ≤ t
 tb : 0 ≤ t ∧ t ≤ 2001000000
 len : hp.length ≤ 100000
 none : (∀ x ∈ before, ∀ s ∈ x.slices, s.Head = false) → hp = [] ∧ t = 0
 bd : ∀ s ∈ hp, -3000000000 ≤ s.Y ∧ 0 ≤ s.H ∧ s.H ≤ 1000000
theorem l8 {p : ax} {o : ai} (O : mm p o) {b : ak} (hb : gV b) {y : Int} (hy : 0 ≤ y ∧ y ≤ 5000000000) (hp : o.placed.length ≤ 99000) (hn : o.notes.length ≤ 9900) : mm p (fC p o b y) := by
 have h1 := hb.ok
 have h2 := hb.len
 have h3 := hb.len2
 refine ⟨O.sh, by unfold fC; simp; exact O.f1, by unfold fC; simp; exact O.f2, fun f hf => ?_, by unfold fC; simp; omega, by unfold fC; simp; omega, fun s hs => ?_⟩
 ·rcases List.mem_or_eq_of_mem_set hf with hf | hf
  ·exact O.fl f hf
  ·rw [hf]; omega
 ·rcases List.mem_append.1 hs with hs | hs
  ·exact O.nt s hs
  ·exact hb.nt s hs
theorem kX {p : ax} (h : j7 p) (hp : List ac) (hl : hp.length ≤ 100000) : mm p ⟨⟨p⟩, hp, [], [0]⟩ :=
 ⟨rfl, Nat.le_refl _, h.c.1, fun f hf => by rw [List.mem_singleton.1 hf]; decide, hl, Nat.zero_le _, fun s hs => (by cases hs)⟩
theorem oP {p : ax} (h : j7 p) {b : ak} (hb : gV b) {before : List ak} (hB : ∀ x ∈ before, gV x) (hl : before.length ≤ 100) :
  ∃ hp t, cV ⟨p⟩ b before = some (fC p ⟨⟨p⟩, hp, [], [0]⟩ b t) ∧ qS before hp t ∧ hp.length ≤ 6100 := by
 have hh := h.h
 have hbl := hb.len
 have hb2 := hb.len2
 have hpos : 0 < b.slices.length := List.length_pos_iff.2 hb.ne
 have h1 := hb.ok
 have s2 := gt fun s hs => ((hb.nt s hs).1).h
 have hx0 : iZ p [0] = 0 := by unfold iZ; simp
 have h0 : HI before [] 0 0 := ⟨fun s hs => (by cases hs), fun s hs => (by cases hs), by decide, fun s hs => (by cases hs), Nat.le_refl _⟩
 -- the heads
 have hS : ∃ hs t, aW b before [] 0 0 = some (hs, t) ∧ HI before hs t 6000 := by
  have done : HI before [] 0 6000 := ⟨h0.hd, h0.mem, h0.tb, h0.le, Nat.zero_le _⟩
  rw [aW, if_pos (by omega), au]
  by_cases c : ¬ (b.slices.getD (Int.toNat 0) aa).Table = 0
  ·have e1 : aj ((0 : Int) + 1) = ((0 : Nat) : Int) + 1 := aG (by decide) (by decide)
   rw [decide_eq_true c, if_pos rfl, if_neg (show ¬ (0 : Int) < 0 by decide), e1]
   have ho := mI b hbl [] 0 _ 0 rfl (Nat.zero_le _)
   have ho' : bg b 0 [] 0 0 = some (.inl ([], 0)) ∨ bg b 0 [] 0 0 = some (.inr ([], 0)) := ho
   rcases ho' with e | e
   ·rw [e]
    exact ⟨[], 0, rfl, done⟩
   ·rw [e]
    obtain ⟨hs', t', g1, g2⟩ := mE b hbl hB hl _ 0 [] 0 rfl (Nat.zero_le _) h0
    exact ⟨hs', t', g1, g2.hd, g2.mem, g2.tb, g2.le, by have := g2.len; omega⟩
  ·rw [decide_eq_false c, if_neg (by decide)]
   exact ⟨[], 0, rfl, done⟩
 obtain ⟨hs, t, g1, g2⟩ := hS
 have ht := g2.tb
 have hlen := g2.len
 have plain : ∃ hp t, (bk (⟨⟨p⟩, ([] : List ac), ([] : List ac), ([0] : List Int)⟩ : ai) b 0 >>= fun y675 => some y675) = some (fC p ⟨⟨p⟩, hp, [], [0]⟩ b t) ∧ qS before hp t ∧ hp.length ≤ 6100 :=
  ⟨[], 0, by rw [ki h (kX h [] (Nat.zero_le _)) hb ⟨Int.le_refl _, by decide⟩]; rfl, ⟨fun s hs => (by cases hs), by decide, Nat.zero_le _, fun _ => ⟨rfl, rfl⟩, fun s hs => (by cases hs)⟩, Nat.zero_le _⟩
 unfold cV
 rw [if_pos ⟨Int.le_refl _, by omega⟩, g1, au]
 simp only [jr hb, kQ (show b.notes.length ≤ 1000000 by omega) (fun s hs => ((hb.nt s hs).1).h), au, aG (n := t + bh b) (by omega) (by omega), aG (n := p.Height - cg b.notes) (by omega) (by omega), eK]
 by_cases c : (0 : Int) < (hs.length : Int) ∧ t + bh b ≤ p.Height - cg b.notes
 ·rw [decide_eq_true c, if_pos rfl, if_pos ⟨Int.le_refl _, c.1⟩]
  have hne : hs ≠ [] := fun e => by rw [e] at c; simp at c
  have hf : hs.getD 0 aa ∈ hs := by
   have hp : 0 < hs.length := List.length_pos_iff.2 hne
   rw [List.getD_eq_getElem?_getD, List.getElem?_eq_getElem hp]
   exact List.getElem_mem hp
  have hfy := (g2.hd _ hf).2.2.y
  have e0 : hs.getD (Int.toNat 0) aa = hs.getD 0 aa := rfl
  have hput := m9 h ⟨⟨p⟩, [], [], [0]⟩ rfl (Nat.le_refl 1) (show 1 ≤ 8 by decide) (Nat.zero_le _) hs (by omega) (fun s hs => (g2.hd s hs).2.2) (top := (hs.getD 0 aa).Y) (y := 0) ⟨hfy.1, hfy.2⟩ ⟨Int.le_refl _, by decide⟩
  rw [e0, hput, au]
  simp only [List.nil_append, hx0]
  have hO := kX h (hs.map (pg 0 (0 - (hs.getD 0 aa).Y))) (by simp; omega)
  rw [ki h hO hb (by omega), au]
  refine ⟨_, t, rfl, ⟨fun s hs' => ?_, ht, by simp; omega, fun hno => ?_, fun s hs' => ?_⟩, by simp; omega⟩
  ·obtain ⟨s0, hs0, rfl⟩ := List.mem_map.1 hs'
   have := g2.hd s0 hs0
   have hle := g2.le s0 hs0
   refine ⟨this.1, this.2.1, ?_⟩
   show s0.Y + (0 - (hs.getD 0 aa).Y) + s0.H ≤ t
   omega
  ·exfalso
   obtain ⟨x, hx, hx2⟩ := g2.mem _ hf
   have := hno x hx _ hx2
   rw [(g2.hd _ hf).1] at this
   cases this
  ·obtain ⟨s0, hs0, rfl⟩ := List.mem_map.1 hs'
   have := (g2.hd s0 hs0).2.2
   have hy := this.y
   have hh := this.h
   show -3000000000 ≤ s0.Y + (0 - (hs.getD 0 aa).Y) ∧ 0 ≤ s0.H ∧ s0.H ≤ 1000000
   omega
 ·rw [decide_eq_false c, if_neg (by decide)]
  exact plain
end Go.Proofs.Ytlcfemplcaejgaa.LG
namespace Go.Proofs.Ytlcfemplcaejgaa.LG
open Go Go.LG Go.Lib

def kM (p : ax) (b : ak) (before : List ak) : ai := (cV ⟨p⟩ b before).getD ⟨⟨p⟩, [], [], []⟩
def iP (before : List ak) : Int := (before.getD (before.length - 1) am).end_
def gf (p : ax) (o : Option ai) (before : List ak) (done : List ai) (b : ak) : Option ai × List ai :=
 match o with
 | none => (some (kM p b before), done)
 | some x => match jJ p x b (max 0 (gv b - iP before)) with
  | some x' => (some x', done)
  | none => (some (kM p b before), done ++ [x])
def ik (p : ax) : Option ai → List ak → List ai → List ak → Option ai × List ai × List ak
 | o, before, done, [] => (o, done, before)
 | o, before, done, b :: r => ik p (gf p o before done b).1 (before ++ [b]) (gf p o before done b).2 r
def fA (p : ax) : Nat → List ai → List ap
 | _, [] => []
 | n, o :: l => ⟨(n : Int) + 1, i8 o p⟩ :: fA p (n + 1) l
theorem lM (p : ax) : ∀ (l : List ai) (n : Nat) (o : ai), fA p n (l ++ [o]) = fA p n l ++ [⟨((n + l.length : Nat) : Int) + 1, i8 o p⟩]
 | [], n, o => rfl
 | x :: l, n, o => by
  rw [List.cons_append, fA, lM p l (n + 1) o, fA, List.cons_append, List.length_cons]
  congr 4
  omega
theorem gQ (p : ax) : ∀ (l : List ai) (n : Nat), (fA p n l).length = l.length
 | [], _ => rfl
 | x :: l, n => by rw [fA, List.length_cons, gQ p l, List.length_cons]
structure OI (p : ax) (o : ai) (k : Nat) : Prop where
 ok : mm p o
 pl : o.placed.length ≤ 6100 + 60 * k
 nl : o.notes.length ≤ 60 * k
theorem oO {p : ax} (h : j7 p) {b : ak} (hb : gV b) {before : List ak} (hB : ∀ x ∈ before, gV x) (hl : before.length ≤ 100) :
  ∃ hp t, kM p b before = fC p ⟨⟨p⟩, hp, [], [0]⟩ b t ∧ cV ⟨p⟩ b before = some (kM p b before) ∧ qS before hp t ∧ OI p (kM p b before) 1 := by
 obtain ⟨hp, t, g1, g2, g3⟩ := oP h hb hB hl
 have e : kM p b before = fC p ⟨⟨p⟩, hp, [], [0]⟩ b t := by unfold kM; rw [g1]; rfl
 have ht := g2.tb
 have h2 := hb.len
 have h3 := hb.len2
 refine ⟨hp, t, e, by rw [e]; exact g1, g2, ?_⟩
 rw [e]
 exact ⟨l8 (kX h hp g2.len) hb (by omega) (by show hp.length ≤ 99000; omega) (Nat.zero_le _), by unfold fC; simp; omega, by unfold fC; simp; omega⟩
theorem pC {p : ax} (h : j7 p) {o : ai} {k : Nat} (O : OI p o k) (hk : k ≤ 100) {b : ak} (hb : gV b) {gap : Int} (hg : 0 ≤ gap ∧ gap ≤ 10000000000) {o' : ai} (ht : jJ p o b gap = some o') : OI p o' (k + 1) := by
 have h1 := hb.ok
 have h2 := hb.len
 have h3 := hb.len2
 have hh := h.h
 have f3 := O.ok.fl _ (ke O.ok.f1)
 have hp := O.pl
 have hn := O.nl
 have s1 := gt fun s hs => ((O.ok.nt s hs).1).h
 have s2 := gt fun s hs => ((hb.nt s hs).1).h
 unfold jJ at ht
 simp only at ht
 split at ht
 ·cases ht
 ·split at ht
  ·cases ht
   exact ⟨l8 O.ok hb (by omega) (by omega) (by omega), by unfold fC; simp; omega, by unfold fC; simp; omega⟩
  ·split at ht
   ·rename_i c
    cases ht
    have O2 : mm p ⟨o.sheet, o.placed, o.notes, o.fills ++ [0]⟩ := ⟨O.ok.sh, by simp, by simp; omega, fun f hf => by
     rcases List.mem_append.1 hf with hf | hf
     ·exact O.ok.fl f hf
     ·rw [List.mem_singleton.1 hf]; decide, O.ok.pl, O.ok.nl, O.ok.nt⟩
    exact ⟨l8 O2 hb ⟨Int.le_refl _, by decide⟩ (by show o.placed.length ≤ 99000; omega) (by show o.notes.length ≤ 9900; omega), by unfold fC; simp; omega, by unfold fC; simp; omega⟩
   ·cases ht
theorem OI.mono {p : ax} {o : ai} {k m : Nat} (h : OI p o k) (hm : k ≤ m) : OI p o m := ⟨h.ok, by have := h.pl; omega, by have := h.nl; omega⟩
def qf (p : ax) (o : Option ai) (k : Nat) : Prop := ∀ x, o = some x → OI p x k ∧ 0 < k
theorem step_ok {p : ax} (h : j7 p) {o : Option ai} {before : List ak} (hB : ∀ x ∈ before, gV x) (hl : before.length ≤ 61) (O : qf p o before.length) {b : ak} (hb : gV b) (done : List ai) :
  qf p (gf p o before done b).1 (before.length + 1) ∧ aU p o true before (fA p 0 done) b = (if done.length ≤ 1000 then some (((gf p o before done b).1, true, before ++ [b], fA p 0 (gf p o before done b).2), none) else aU p o true before (fA p 0 done) b) := by
 obtain ⟨hp, t, g1, g2, g3, g4⟩ := oO h hb hB (by omega)
 have hne : ¬ (b.slices.length : Int) = 0 := by
  have := List.length_pos_iff.2 hb.ne
  omega
 have h1 := hb.ok
 refine ⟨?_, ?_⟩
 ·intro x hx
  refine ⟨?_, by omega⟩
  cases o with
  | none =>
   simp only [gf] at hx
   cases hx
   exact g4.mono (by omega)
  | some y =>
   obtain ⟨Oy, hk⟩ := O y rfl
   simp only [gf] at hx
   have hg : 0 ≤ max 0 (gv b - iP before) ∧ max 0 (gv b - iP before) ≤ 10000000000 := by
    have hlt : before.length - 1 < before.length := by omega
    have hm : before.getD (before.length - 1) am ∈ before := by
     rw [List.getD_eq_getElem?_getD, List.getElem?_eq_getElem hlt]
     exact List.getElem_mem hlt
    have B := hB _ hm
    have := B.ok
    unfold bh at this
    unfold iP
    omega
   cases ht : jJ p y b (max 0 (gv b - iP before)) with
   | some x' =>
    rw [ht] at hx
    cases hx
    exact pC h Oy (by omega) hb hg ht
   | none =>
    rw [ht] at hx
    cases hx
    exact g4.mono (by omega)
 ·by_cases hd : done.length ≤ 1000
  ·rw [if_pos hd]
   have hpl : (fA p 0 done).length ≤ 1000 := by rw [gQ]; exact hd
   unfold aU
   rw [if_neg hne]
   cases o with
   | none =>
    simp only [au, if_true, cM, g2, gf]
    rw [if_pos (by omega)]
   | some y =>
    obtain ⟨Oy, hk⟩ := O y rfl
    have e : aj ((before.length : Int) - 1) = ((before.length - 1 : Nat) : Int) := by rw [aG (by omega) (by omega)]; omega
    have q : (0 : Int) ≤ ((before.length - 1 : Nat) : Int) ∧ ((before.length - 1 : Nat) : Int) < (before.length : Int) := ⟨by omega, by omega⟩
    have e2 : (before.getD (Int.toNat ((before.length - 1 : Nat) : Int)) am).end_ = iP before := rfl
    have hlt : before.length - 1 < before.length := by omega
    have hm : before.getD (before.length - 1) am ∈ before := by
     rw [List.getD_eq_getElem?_getD, List.getElem?_eq_getElem hlt]
     exact List.getElem_mem hlt
    have B := hB _ hm
    have Bo := B.ok
    have hE : iP before = (before.getD (before.length - 1) am).end_ := rfl
    unfold bh at Bo
    have hg : 0 ≤ max 0 (gv b - iP before) ∧ max 0 (gv b - iP before) ≤ 10000000000 := by omega
    simp only [if_true, nj hb, au, e, if_pos q, e2, aG (n := gv b - iP before) (by omega) (by omega), pF h Oy.ok hb hg, gf]
    cases ht : jJ p y b (max 0 (gv b - iP before)) with
    | some x' =>
     simp only [Bool.not_true, au, Bool.false_eq_true, if_false]
     rw [if_pos (by omega)]
    | none =>
     have e3 : aj (((fA p 0 done).length : Int) + 1) = ((0 + done.length : Nat) : Int) + 1 := by rw [gQ, aG (by omega) (by omega)]; omega
     simp only [Bool.not_false, au, if_true, cM, e3, qa h Oy.ok, g2]
     rw [if_pos (by omega), lM]
     simp only [au]
     rw [if_pos (by omega)]
  ·rw [if_neg hd]
theorem od {p : ax} (h : j7 p) : ∀ (bs : List ak) (o : Option ai) (before : List ak) (done : List ai), (∀ b ∈ bs, gV b) → (∀ x ∈ before, gV x) → before.length + bs.length ≤ 61 → done.length ≤ before.length → qf p o before.length →
  jI (n3 (fun (u : (Option ai) × Bool × (List ak) × (List ap)) (x : ak) => aU p u.1 u.2.1 u.2.2.1 u.2.2.2 x)) ((o, true, before, fA p 0 done), none) bs =
   some (((ik p o before done bs).1, true, (ik p o before done bs).2.2, fA p 0 (ik p o before done bs).2.1), none) ∧ qf p (ik p o before done bs).1 (before.length + bs.length) ∧ (ik p o before done bs).2.1.length ≤ before.length + bs.length := by
 intro bs
 induction bs with
 | nil => intro o before done h1 h2 h3 h4 h5; exact ⟨rfl, h5, h4⟩
 | cons b bs ih =>
  intro o before done h1 h2 h3 h4 h5
  simp only [List.length_cons] at h3
  have hb := h1 b (List.mem_cons_self ..)
  obtain ⟨g1, g2⟩ := step_ok h h2 (by omega) h5 hb done
  rw [if_pos (by omega)] at g2
  have hd : (gf p o before done b).2.length ≤ (before ++ [b]).length := by
   rw [List.length_append, List.length_singleton]
   unfold gf
   split
   ·simp only; omega
   ·split
    ·simp only; omega
    ·simp only [List.length_append, List.length_singleton]; omega
  obtain ⟨i1, i2, i3⟩ := ih (gf p o before done b).1 (before ++ [b]) (gf p o before done b).2 (fun x hx => h1 x (List.mem_cons_of_mem _ hx)) (fun x hx => by
   rcases List.mem_append.1 hx with hx | hx
   ·exact h2 x hx
   ·rw [List.mem_singleton.1 hx]; exact hb) (by rw [List.length_append, List.length_singleton]; omega) hd (by rw [List.length_append, List.length_singleton]; exact g1)
  have el : (before ++ [b]).length + bs.length = before.length + (b :: bs).length := by simp; omega
  rw [el] at i2 i3
  refine ⟨?_, i2, i3⟩
  unfold jI n3
  simp only [g2, au, Option.isNone_none, if_true]
  exact i1
def oe (p : ax) (bs : List ak) : List ai := (ik p none [] [] bs).2.1 ++ (ik p none [] [] bs).1.toList
theorem oG {p : ax} (h : j7 p) {o : Option ai} {k : Nat} (O : qf p o k) {done : List ai} (hd : done.length ≤ 400) : ca o (fA p 0 done) = some (fA p 0 (done ++ o.toList)) := by
 unfold ca
 cases o with
 | none => simp
 | some x =>
  have e3 : aj (((fA p 0 done).length : Int) + 1) = ((0 + done.length : Nat) : Int) + 1 := by rw [gQ, aG (by omega) (by omega)]; omega
  have hpl : (fA p 0 done).length ≤ 400 := by rw [gQ]; exact hd
  simp only [e3, p6 h (O x rfl).1.ok, au, Option.toList_some]
  rw [if_pos (by omega), lM]
theorem n9 {p : ax} (h : j7 p) {l : List ac} (hl : mP l) {keep : List Bool} (hk : keep.length = l.length) :
  (∃ bs, bT ⟨false, [], [], 0⟩ (l.zip keep) = bs ∧ (∀ b ∈ bs, gV b) ∧ cz p l keep = some (fA p 0 (oe p bs), 0) ∧ (oe p bs).length ≤ 100) ∨
  (∃ ns, bT ⟨false, [], [], 0⟩ (l.zip keep) = [⟨[], ns, 0⟩] ∧ ns ≠ [] ∧ (∀ s ∈ ns, Sl s ∧ s.Note = true) ∧ cz p l keep = some (fA p 0 [⟨⟨p⟩, [], ns, [0]⟩], 0) ∧ mm p ⟨⟨p⟩, [], ns, [0]⟩) := by
 have hB := hl.bi keep hk
 have hlen := kn (l.zip keep) ⟨false, [], [], 0⟩
 have hzl : (l.zip keep).length ≤ 60 := by have := hl.len; simp; omega
 unfold cz
 rw [o8 h, au]
 simp only [Bool.not_true, Bool.false_eq_true, if_false, p7 hl hk, au, gb, m7 _ _ hl hk]
 rcases (mq _ _ hB).2 with hall | ⟨ns, e, hne, hns, hnt⟩
 ·left
  refine ⟨_, rfl, hall, ?_⟩
  generalize bT ⟨false, [], [], 0⟩ (l.zip keep) = bs at *
  obtain ⟨g1, g2, g3⟩ := od h bs none [] [] hall (fun x hx => (by cases hx)) (by simp; omega) (Nat.le_refl _) (fun x hx => (by cases hx))
  simp only [List.length_nil, Nat.zero_add] at g2 g3
  have g1' : jI (n3 (fun (u : (Option ai) × Bool × (List ak) × (List ap)) (x : ak) => aU p u.1 u.2.1 u.2.2.1 u.2.2.2 x)) (((none : Option ai), true, ([] : List ak), ([] : List ap)), none) bs = some (((ik p none [] [] bs).1, true, (ik p none [] [] bs).2.2, fA p 0 (ik p none [] [] bs).2.1), none) := g1
  have hbl : (oe p bs).length ≤ 100 := by
   unfold oe
   rw [List.length_append]
   have : (ik p none [] [] bs).1.toList.length ≤ 1 := by cases (ik p none [] [] bs).1 <;> simp
   omega
  rw [g1']
  simp only [au, oG h g2 (show (ik p none [] [] bs).2.1.length ≤ 400 by omega)]
  have c : ¬ (500 : Int) < ((fA p 0 (oe p bs)).length : Int) := by rw [gQ]; omega
  have c' : ¬ (500 : Int) < ((fA p 0 ((ik p none [] [] bs).2.1 ++ (ik p none [] [] bs).1.toList)).length : Int) := c
  rw [if_neg c']
  exact ⟨rfl, hbl⟩
 ·right
  have O : mm p ⟨⟨p⟩, [], ns, [0]⟩ := ⟨rfl, Nat.le_refl _, h.c.1, fun f hf => by rw [List.mem_singleton.1 hf]; decide, Nat.zero_le _, by show ns.length ≤ 10000; omega, hnt⟩
  refine ⟨ns, e, hne, hnt, ?_, O⟩
  have e' : bT ⟨false, [], [], 0⟩ (l.zip keep) = [⟨[], ns, 0⟩] := e
  rw [e']
  have hf := oG h (o := some ⟨⟨p⟩, [], ns, [0]⟩) (k := 1) (fun x hx => by cases hx; exact ⟨⟨O, Nat.zero_le _, by show ns.length ≤ 60 * 1; omega⟩, by omega⟩) (done := []) (Nat.zero_le _)
  have hf' : ca (some ⟨⟨p⟩, [], ns, [0]⟩) [] = some (fA p 0 [⟨⟨p⟩, [], ns, [0]⟩]) := hf
  have hr : aU p none true [] [] ⟨[], ns, 0⟩ = some (((some ⟨⟨p⟩, [], ns, [0]⟩), false, [], []), some 0) := by
   unfold aU
   rw [if_pos (by simp)]
  unfold jI n3
  simp only [hr, au, Option.isNone_some, Bool.false_eq_true, if_false, hf', gQ]
  rw [if_neg (by simp)]
end Go.Proofs.Ytlcfemplcaejgaa.LG
namespace Go.Proofs.Ytlcfemplcaejgaa.LG
open Go Go.LG Go.Lib

def plS (s : ac) : ac := ⟨s.Node, s.Table, 0, 0, s.H, s.Text, s.Head, s.Note⟩
def fl (l : List ac) : List ac := (l.filter fun s => !s.Head).map plS
theorem mV : ∀ (r : List (ac × Bool)) (st : pf), (bT st r).flatMap (·.slices) = st.ss ++ (r.map (·.1)).filter (fun s => !s.Note) ∧ (bT st r).flatMap (·.notes) = st.ns ++ (r.map (·.1)).filter (·.Note) := by
 intro r
 induction r with
 | nil =>
  intro st
  unfold bT
  split
  ·rename_i c; rw [c.1, c.2]; exact ⟨rfl, rfl⟩
  ·simp
 | cons x r ih =>
  intro st
  obtain ⟨s, k⟩ := x
  unfold bT
  split
  ·rename_i c
   obtain ⟨h1, h2⟩ := ih ⟨st.last, st.ss, st.ns ++ [s], st.en⟩
   rw [h1, h2]
   simp [c]
  ·rename_i c
   split
   ·obtain ⟨h1, h2⟩ := ih ⟨k, [s], [], s.Y + s.H⟩
    rw [List.flatMap_cons, List.flatMap_cons, h1, h2]
    simp [c]
   ·split
    ·rename_i c3
     obtain ⟨h1, h2⟩ := ih ⟨k, [s], st.ns, s.Y + s.H⟩
     rw [h1, h2, c3]
     simp [c]
    ·obtain ⟨h1, h2⟩ := ih ⟨k, st.ss ++ [s], st.ns, max st.en (s.Y + s.H)⟩
     rw [h1, h2]
     simp [c]
theorem ny {l m : List Int} (h : ∀ f ∈ l, f ≤ hi m) : hi l ≤ hi m := by
 obtain ⟨h1, h2, h3⟩ := io l 0
 have h0 : 0 ≤ hi m := (io m 0).1
 rcases h3 with h3 | h3
 ·show l.foldl max 0 ≤ _; rw [h3]; exact h0
 ·exact h _ h3
theorem pc {l : List Int} (h : 1 ≤ l.length) {v : Int} (hv : gP l ≤ v) : hi l ≤ hi (l.set (l.length - 1) v) := by
 apply ny
 intro f hf
 obtain ⟨i, hi', rfl⟩ := List.getElem_of_mem hf
 by_cases c : i = l.length - 1
 ·subst c
  have e : gP l = l[l.length - 1] := by
   unfold gP
   rw [List.getD_eq_getElem?_getD, List.getElem?_eq_getElem hi']; rfl
  exact Int.le_trans (by omega) (kN (List.mem_set hi' v))
 ·refine kN (List.mem_iff_getElem.2 ⟨i, by rw [List.length_set]; exact hi', ?_⟩)
  rw [List.getElem_set_ne (by omega)]
def qo (f : List Int) (l : List ac) : Prop := ∀ s ∈ l, s.Note = false ∧ -3000000000 ≤ s.Y ∧ (0 ≤ s.H ∧ s.H ≤ 1000000) ∧ s.Y + s.H ≤ hi f
theorem qo.mono {f g : List Int} {l : List ac} (h : qo f l) (hg : hi f ≤ hi g) : qo g l := fun s hs => ⟨(h s hs).1, (h s hs).2.1, (h s hs).2.2.1, Int.le_trans (h s hs).2.2.2 hg⟩
theorem qo.add {p : ax} {o : ai} (h : qo o.fills o.placed) (f1 : 1 ≤ o.fills.length) {b : ak} (hb : gV b) {y : Int} (hy : 0 ≤ y) (hl : gP o.fills ≤ y + bh b) : qo (fC p o b y).fills (fC p o b y).placed := by
 intro s hs
 have hm := pc f1 hl
 unfold fC at hs ⊢
 simp only at hs ⊢
 rcases List.mem_append.1 hs with hs | hs
 ·exact (h.mono hm) s hs
 ·obtain ⟨q, hq, rfl⟩ := List.mem_map.1 hs
  have h1 := hb.sl q hq
  have h2 : gv b ≤ q.Y ∧ q.Y + q.H ≤ b.end_ := hb.top q hq
  have h3 := h1.1.h
  have h4 := hb.ok
  have h5 : b.end_ = gv b + bh b := by unfold bh; omega
  have hv : y + bh b ≤ hi (o.fills.set (o.fills.length - 1) (y + bh b)) := kN (List.mem_set (by omega) _)
  refine ⟨h1.2, ?_, h3, ?_⟩
  ·show -3000000000 ≤ q.Y + (y - gv b)
   omega
  ·show q.Y + (y - gv b) + q.H ≤ _
   omega
end Go.Proofs.Ytlcfemplcaejgaa.LG
namespace Go.Proofs.Ytlcfemplcaejgaa.LG
open Go Go.LG Go.Lib

theorem nb {l : List ac} {j : Nat} (h : j < l.length) : l.take (j + 1) = l.take j ++ [l[j]] := by
 rw [List.take_add_one, List.getElem?_eq_getElem h]; rfl
theorem nV (b : ak) {before : List ak} (hB : ∀ x ∈ before, gV x) (hl : before.length ≤ 100) {i : Nat} (hi : i < before.length) {m : Nat} (hm : m ≤ 100000) (F : List ac) : ∀ (n j : Nat) (hs : List ac) (t : Int), (before[i]).slices.length - j = n → j ≤ (before[i]).slices.length → HI before hs t (m + j) → hs.Sublist (F ++ (before[i]).slices.take j) →
  ∃ hs' t', bf b before ((i : Int) + 1) hs t (j : Int) = some (.inr (hs', t')) ∧ HI before hs' t' (m + (before[i]).slices.length) ∧ hs'.Sublist (F ++ (before[i]).slices) := by
 have hmem := List.getElem_mem hi
 have C := hB _ hmem
 have cl := C.len
 have c0 : ¬ ((i : Int) + 1 = 0) := by omega
 have e0 : Int.toNat (aj ((i : Int) + 1 - 1)) = i := by rw [aG (by omega) (by omega)]; omega
 have eb : before.getD i am = before[i] := by simp [List.getD_eq_getElem?_getD, hi]
 intro n
 induction n with
 | zero =>
  intro j hs t hn hj h hsub
  have ej : j = (before[i]).slices.length := by omega
  rw [bf, e0, eb, if_neg (by omega)]
  rw [ej, List.take_length] at hsub
  exact ⟨hs, t, rfl, ⟨h.hd, h.mem, h.tb, h.le, by have := h.len; omega⟩, hsub⟩
 | succ n ih =>
  intro j hs t hn hj h hsub
  have hlt : j < (before[i]).slices.length := by omega
  have hlen := h.len
  have ht := h.tb
  have hF : F ++ (before[i]).slices.take (j + 1) = (F ++ (before[i]).slices.take j) ++ [(before[i]).slices[j]] := by rw [nb hlt, List.append_assoc]
  rw [bf, e0, eb, if_pos (by omega), if_pos ⟨by omega, by omega⟩, gd _ _ hlt, aG (n := (j : Int) + 1) (by omega) (by omega), add1 j]
  generalize hs0 : (before[i]).slices[j] = s at hF
  have hsm : s ∈ (before[i]).slices := by rw [← hs0]; exact List.getElem_mem hlt
  have hS := C.sl s hsm
  have s4 := hS.1.y
  have s5 := hS.1.h
  have A : (if s.Head = true then some (decide ((i : Int) + 1 = 0)) else some false) = some false := by
   rw [decide_eq_false c0]
   split <;> rfl
  rw [A, au, if_neg (show ¬ false = true by decide), eK, au]
  by_cases c : s.Head = true ∧ s.Table = (b.slices.getD (Int.toNat 0) aa).Table
  ·rw [decide_eq_true c, if_pos rfl, if_pos (by omega)]
   have q : (0 : Int) ≤ 0 ∧ (0 : Int) < ((hs ++ [s]).length : Int) := ⟨Int.le_refl _, by rw [List.length_append, List.length_singleton]; omega⟩
   rw [if_pos q, au]
   generalize hy0 : ((hs ++ [s]).getD (Int.toNat 0) aa).Y = y0
   have hy : ∃ x ∈ hs ++ [s], x.Y = y0 ∧ Sl x := by
    have hp : 0 < (hs ++ [s]).length := by simp
    refine ⟨(hs ++ [s])[0], List.getElem_mem hp, by rw [← hy0]; simp [List.getD_eq_getElem?_getD, List.getElem?_eq_getElem hp], ?_⟩
    have hx := List.getElem_mem hp
    rcases List.mem_append.1 hx with hx | hx
    ·exact (h.hd _ hx).2.2
    ·rw [List.mem_singleton.1 hx]; exact hS.1
   obtain ⟨x0, _, hx1, hx2⟩ := hy
   have hx3 := hx2.y
   rw [hx1] at hx3
   rw [aG (n := s.Y + s.H) (by omega) (by omega), aG (n := s.Y + s.H - y0) (by omega) (by omega)]
   have H2 : HI before (hs ++ [s]) (max t (s.Y + s.H - y0)) (m + (j + 1)) := by
    refine ⟨fun x hx => ?_, fun x hx => ?_, by omega, fun x hx => ?_, by simp; omega⟩
    ·rcases List.mem_append.1 hx with hx | hx
     ·exact h.hd x hx
     ·rw [List.mem_singleton.1 hx]; exact ⟨c.1, hS.2, hS.1⟩
    ·rcases List.mem_append.1 hx with hx | hx
     ·exact h.mem x hx
     ·rw [List.mem_singleton.1 hx]; exact ⟨_, hmem, hsm⟩
    ·have hy1 : ((hs ++ [s]).getD 0 aa).Y = y0 := hy0
     rw [hy1]
     rcases List.mem_append.1 hx with hx | hx
     ·have hne : hs ≠ [] := fun e => by rw [e] at hx; cases hx
      have := h.le x hx
      rw [ka _ _ _ hne] at hy1
      omega
     ·rw [List.mem_singleton.1 hx]; omega
   exact ih (j + 1) _ _ (by omega) (by omega) H2 (by rw [hF]; exact List.Sublist.append hsub (List.Sublist.refl _))
  ·rw [decide_eq_false c, if_neg (by decide), au]
   exact ih (j + 1) _ _ (by omega) (by omega) ⟨h.hd, h.mem, h.tb, h.le, by omega⟩ (by rw [hF]; exact hsub.trans (List.sublist_append_left _ _))
theorem nS {before : List ak} {i : Nat} (h : i < before.length) : (before.take (i + 1)).flatMap (·.slices) = (before.take i).flatMap (·.slices) ++ (before[i]).slices := by
 rw [List.take_add_one, List.getElem?_eq_getElem h, List.flatMap_append]
 simp
theorem mD (before : List ak) (i : Nat) : ((before.take i).flatMap (·.slices)).Sublist (before.flatMap (·.slices)) := by
 have e : before.flatMap (·.slices) = (before.take i).flatMap (·.slices) ++ (before.drop i).flatMap (·.slices) := by
  rw [← List.flatMap_append, List.take_append_drop]
 rw [e]
 exact List.sublist_append_left _ _
theorem nf (b : ak) (hb : b.slices.length ≤ 60) {before : List ak} (hB : ∀ x ∈ before, gV x) (hl : before.length ≤ 100) : ∀ (n i : Nat) (hs : List ac) (t : Int), before.length - i = n → i ≤ before.length → HI before hs t (60 * i) → hs.Sublist ((before.take i).flatMap (·.slices)) →
  ∃ hs' t', aW b before hs t ((i : Int) + 1) = some (hs', t') ∧ HI before hs' t' (60 * before.length) ∧ hs'.Sublist (before.flatMap (·.slices)) := by
 intro n
 induction n with
 | zero =>
  intro i hs t hn hi h hsub
  have c : ¬ ((i : Int) + 1 ≤ (before.length : Int)) := by omega
  rw [aW, if_neg c, au, if_neg (by decide)]
  exact ⟨hs, t, rfl, ⟨h.hd, h.mem, h.tb, h.le, by have := h.len; omega⟩, hsub.trans (mD _ _)⟩
 | succ n ih =>
  intro i hs t hn hi h hsub
  have hlt : i < before.length := by omega
  rw [aW, if_pos (by omega), au]
  by_cases c : ¬ (b.slices.getD (Int.toNat 0) aa).Table = 0
  ·have e1 : aj ((i : Int) + 1 - 1) = (i : Int) := by rw [aG (by omega) (by omega)]; omega
   have q : (0 : Int) ≤ (i : Int) ∧ (i : Int) < (before.length : Int) := ⟨by omega, by omega⟩
   obtain ⟨hs', t', g1, g2, g3⟩ := nV b hB hl hlt (m := 60 * i) (by omega) ((before.take i).flatMap (·.slices)) _ 0 hs t rfl (Nat.zero_le _) h (by rw [List.take_zero, List.append_nil]; exact hsub)
   have g1' : bf b before ((i : Int) + 1) hs t 0 = some (.inr (hs', t')) := g1
   have e2 : aj ((i : Int) + 1 + 1) = ((i + 1 : Nat) : Int) + 1 := by rw [aG (by omega) (by omega)]; omega
   rw [decide_eq_true c, if_pos rfl, if_pos (show (0 : Int) < (i : Int) + 1 by omega), e1, if_pos q, g1', e2]
   simp only [au]
   have cl := (hB _ (List.getElem_mem hlt)).len
   exact ih (i + 1) hs' t' (by omega) (by omega) ⟨g2.hd, g2.mem, g2.tb, g2.le, by have := g2.len; omega⟩ (by rw [nS hlt]; exact g3)
  ·rw [decide_eq_false c, if_neg (by decide)]
   exact ⟨hs, t, rfl, ⟨h.hd, h.mem, h.tb, h.le, by have := h.len; omega⟩, hsub.trans (mD _ _)⟩
def Hds (p : ax) (b : ak) (before : List ak) (hp : List ac) (t : Int) : Prop :=
 (hp = [] ∧ t = 0) ∨ (t + bh b ≤ p.Height - cg b.notes ∧ ∃ hs : List ac, hs.Sublist (before.flatMap (·.slices)) ∧ hp = hs.map (pg 0 (0 - (hs.getD 0 aa).Y)))
theorem n0 {p : ax} (h : j7 p) {b : ak} (hb : gV b) {before : List ak} (hB : ∀ x ∈ before, gV x) (hl : before.length ≤ 100) :
  ∃ hp t, cV ⟨p⟩ b before = some (fC p ⟨⟨p⟩, hp, [], [0]⟩ b t) ∧ qS before hp t ∧ Hds p b before hp t := by
 have hh := h.h
 have hbl := hb.len
 have hb2 := hb.len2
 have hpos : 0 < b.slices.length := List.length_pos_iff.2 hb.ne
 have h1 := hb.ok
 have s2 := gt fun s hs => ((hb.nt s hs).1).h
 have hx0 : iZ p [0] = 0 := by unfold iZ; simp
 have h0 : HI before [] 0 0 := ⟨fun s hs => (by cases hs), fun s hs => (by cases hs), by decide, fun s hs => (by cases hs), Nat.le_refl _⟩
 have hS : ∃ hs t, aW b before [] 0 0 = some (hs, t) ∧ HI before hs t 6000 ∧ hs.Sublist (before.flatMap (·.slices)) := by
  have done : HI before [] 0 6000 := ⟨h0.hd, h0.mem, h0.tb, h0.le, Nat.zero_le _⟩
  rw [aW, if_pos (by omega), au]
  by_cases c : ¬ (b.slices.getD (Int.toNat 0) aa).Table = 0
  ·have e1 : aj ((0 : Int) + 1) = ((0 : Nat) : Int) + 1 := aG (by decide) (by decide)
   rw [decide_eq_true c, if_pos rfl, if_neg (show ¬ (0 : Int) < 0 by decide), e1]
   have ho := mI b hbl [] 0 _ 0 rfl (Nat.zero_le _)
   have ho' : bg b 0 [] 0 0 = some (.inl ([], 0)) ∨ bg b 0 [] 0 0 = some (.inr ([], 0)) := ho
   rcases ho' with e | e
   ·rw [e]
    exact ⟨[], 0, rfl, done, List.nil_sublist _⟩
   ·rw [e]
    obtain ⟨hs', t', g1, g2, g3⟩ := nf b hbl hB hl _ 0 [] 0 rfl (Nat.zero_le _) h0 (List.nil_sublist _)
    exact ⟨hs', t', g1, ⟨g2.hd, g2.mem, g2.tb, g2.le, by have := g2.len; omega⟩, g3⟩
  ·rw [decide_eq_false c, if_neg (by decide)]
   exact ⟨[], 0, rfl, done, List.nil_sublist _⟩
 obtain ⟨hs, t, g1, g2, g3⟩ := hS
 have ht := g2.tb
 have hlen := g2.len
 have plain : ∃ hp t, (bk (⟨⟨p⟩, ([] : List ac), ([] : List ac), ([0] : List Int)⟩ : ai) b 0 >>= fun y675 => some y675) = some (fC p ⟨⟨p⟩, hp, [], [0]⟩ b t) ∧ qS before hp t ∧ Hds p b before hp t :=
  ⟨[], 0, by rw [ki h (kX h [] (Nat.zero_le _)) hb ⟨Int.le_refl _, by decide⟩]; rfl, ⟨fun s hs => (by cases hs), by decide, Nat.zero_le _, fun _ => ⟨rfl, rfl⟩, fun s hs => (by cases hs)⟩, .inl ⟨rfl, rfl⟩⟩
 unfold cV
 rw [if_pos ⟨Int.le_refl _, by omega⟩, g1, au]
 simp only [jr hb, kQ (show b.notes.length ≤ 1000000 by omega) (fun s hs => ((hb.nt s hs).1).h), au, aG (n := t + bh b) (by omega) (by omega), aG (n := p.Height - cg b.notes) (by omega) (by omega), eK]
 by_cases c : (0 : Int) < (hs.length : Int) ∧ t + bh b ≤ p.Height - cg b.notes
 ·rw [decide_eq_true c, if_pos rfl, if_pos ⟨Int.le_refl _, c.1⟩]
  have hne : hs ≠ [] := fun e => by rw [e] at c; simp at c
  have hf : hs.getD 0 aa ∈ hs := by
   have hp : 0 < hs.length := List.length_pos_iff.2 hne
   rw [List.getD_eq_getElem?_getD, List.getElem?_eq_getElem hp]
   exact List.getElem_mem hp
  have hfy := (g2.hd _ hf).2.2.y
  have e0 : hs.getD (Int.toNat 0) aa = hs.getD 0 aa := rfl
  have hput := m9 h ⟨⟨p⟩, [], [], [0]⟩ rfl (Nat.le_refl 1) (show 1 ≤ 8 by decide) (Nat.zero_le _) hs (by omega) (fun s hs => (g2.hd s hs).2.2) (top := (hs.getD 0 aa).Y) (y := 0) ⟨hfy.1, hfy.2⟩ ⟨Int.le_refl _, by decide⟩
  rw [e0, hput, au]
  simp only [List.nil_append, hx0]
  have hO := kX h (hs.map (pg 0 (0 - (hs.getD 0 aa).Y))) (by simp; omega)
  rw [ki h hO hb (by omega), au]
  refine ⟨_, t, rfl, ⟨fun s hs' => ?_, ht, by simp; omega, fun hno => ?_, fun s hs' => ?_⟩, .inr ⟨c.2, hs, g3, rfl⟩⟩
  ·obtain ⟨s0, hs0, rfl⟩ := List.mem_map.1 hs'
   have := g2.hd s0 hs0
   have hle := g2.le s0 hs0
   refine ⟨this.1, this.2.1, ?_⟩
   show s0.Y + (0 - (hs.getD 0 aa).Y) + s0.H ≤ t
   omega
  ·exfalso
   obtain ⟨x, hx, hx2⟩ := g2.mem _ hf
   have := hno x hx _ hx2
   rw [(g2.hd _ hf).1] at this
   cases this
  ·obtain ⟨s0, hs0, rfl⟩ := List.mem_map.1 hs'
   have := (g2.hd s0 hs0).2.2
   have hy := this.y
   have hh := this.h
   show -3000000000 ≤ s0.Y + (0 - (hs.getD 0 aa).Y) ∧ 0 ≤ s0.H ∧ s0.H ≤ 1000000
   omega
 ·rw [decide_eq_false c, if_neg (by decide)]
  exact plain
structure Bm (left most : Int) (b : ak) : Prop where
 sx : ∀ s ∈ b.slices, left ≤ s.X
 nx : ∀ s ∈ b.notes, left ≤ s.X
 le : bh b + cg b.notes ≤ most
structure Rp (p : ax) (left most : Int) (x : ai) : Prop where
 ok : mm p x
 pl : ∀ s ∈ x.placed, 0 ≤ s.Y ∧ left ≤ s.X ∧ (0 ≤ s.H ∧ s.H ≤ 1000000) ∧ s.Y + s.H ≤ hi x.fills
 nx : ∀ s ∈ x.notes, left ≤ s.X
 room : most ≤ p.Height → hi x.fills + cg x.notes ≤ p.Height
theorem oH (a b : List ac) : cg (a ++ b) = cg a + cg b := by unfold cg; rw [List.map_append, List.sum_append]
theorem pO {l : List Int} {c : Int} (h0 : 0 ≤ c) (h : ∀ f ∈ l, f ≤ c) : hi l ≤ c := by
 obtain ⟨h1, h2, h3⟩ := io l 0
 rcases h3 with h3 | h3
 ·show l.foldl max 0 ≤ _; rw [h3]; exact h0
 ·exact h _ h3
theorem pq {p : ax} (h : j7 p) {left : Int} {f : List Int} (f1 : 1 ≤ f.length) (f2 : f.length ≤ 8) {b : ak} (hb : gV b) (hx : ∀ s ∈ b.slices, left ≤ s.X) {y M : Int} (hy : 0 ≤ y) (hM : y + bh b ≤ M) :
  ∀ s ∈ b.slices.map (pg (iZ p f) (y - gv b)), 0 ≤ s.Y ∧ left ≤ s.X ∧ (0 ≤ s.H ∧ s.H ≤ 1000000) ∧ s.Y + s.H ≤ M := by
 intro s hs
 obtain ⟨q, hq, rfl⟩ := List.mem_map.1 hs
 have h2 : gv b ≤ q.Y ∧ q.Y + q.H ≤ b.end_ := hb.top q hq
 have h3 := (hb.sl q hq).1.h
 have h5 : b.end_ = gv b + bh b := by unfold bh; omega
 have h6 := (lW h f1 f2).1
 have h7 := hx q hq
 refine ⟨?_, ?_, h3, ?_⟩
 ·show 0 ≤ q.Y + (y - gv b)
  omega
 ·show left ≤ q.X + iZ p f
  omega
 ·show q.Y + (y - gv b) + q.H ≤ M
  omega
theorem Rp.add {p : ax} (h : j7 p) {left most : Int} {o : ai} {b : ak} (hb : gV b) (B : Bm left most b) {y : Int} (hy : 0 ≤ y) (f1 : 1 ≤ o.fills.length) (f2 : o.fills.length ≤ 8) (ff : ∀ f ∈ o.fills, 0 ≤ f)
  (hpl : ∀ s ∈ o.placed, 0 ≤ s.Y ∧ left ≤ s.X ∧ (0 ≤ s.H ∧ s.H ≤ 1000000) ∧ s.Y + s.H ≤ hi (o.fills.set (o.fills.length - 1) (y + bh b))) (hnx : ∀ s ∈ o.notes, left ≤ s.X) (hok : mm p (fC p o b y))
  (hroom : most ≤ p.Height → hi (o.fills.set (o.fills.length - 1) (y + bh b)) + (cg o.notes + cg b.notes) ≤ p.Height) : Rp p left most (fC p o b y) := by
 refine ⟨hok, fun s hs => ?_, fun s hs => ?_, fun hm => ?_⟩
 ·unfold fC at hs ⊢
  simp only at hs ⊢
  rcases List.mem_append.1 hs with hs | hs
  ·exact hpl s hs
  ·exact pq h f1 f2 hb B.sx hy (kN (List.mem_set (by omega) _)) s hs
 ·unfold fC at hs
  simp only at hs
  rcases List.mem_append.1 hs with hs | hs
  ·exact hnx s hs
  ·exact B.nx s hs
 ·have := hroom hm
  unfold fC
  simp only
  rw [oH]
  exact this
theorem pE {p : ax} (h : j7 p) {left most : Int} {o o' : ai} (R : Rp p left most o) {b : ak} (hb : gV b) (B : Bm left most b) {gap : Int} (hg : 0 ≤ gap) (ht : jJ p o b gap = some o') (hok : mm p o') : Rp p left most o' := by
 have hc := h.c
 have f1 := R.ok.f1
 have f2 := R.ok.f2
 have lf := (R.ok.fl _ (ke f1)).1
 have hbo := hb.ok
 have h0 := (nq R.ok.fl).1
 unfold jJ at ht
 simp only at ht
 split at ht
 ·cases ht
 ·rename_i c1
  split at ht
  ·rename_i c2
   cases ht
   have hm := pc f1 (v := gP o.fills + gap + bh b) (by omega)
   refine Rp.add h hb B (by omega) f1 (by omega) (fun f hf => (R.ok.fl f hf).1) (fun s hs => ?_) R.nx hok fun _ => ?_
   ·have := R.pl s hs
    exact ⟨this.1, this.2.1, this.2.2.1, by omega⟩
   ·have : hi (o.fills.set (o.fills.length - 1) (gP o.fills + gap + bh b)) ≤ p.Height - cg o.notes - cg b.notes := pO (by omega) fun f hf => by
     rcases List.mem_or_eq_of_mem_set hf with hf | hf
     ·have := kN hf; omega
     ·rw [hf]; exact c2
    omega
  ·split at ht
   ·rename_i c2 c3
    cases ht
    have hm : hi o.fills ≤ hi ((o.fills ++ [0]).set ((o.fills ++ [0]).length - 1) (0 + bh b)) := by
     refine ny fun f hf => kN ?_
     rw [List.length_append, List.length_singleton, Nat.add_sub_cancel, List.set_append_right _ _ (Nat.le_refl _)]
     exact List.mem_append_left _ hf
    refine Rp.add (o := ⟨o.sheet, o.placed, o.notes, o.fills ++ [0]⟩) h hb B (Int.le_refl _) (by simp) (by simp; omega) (fun f hf => ?_) (fun s hs => ?_) R.nx hok fun _ => ?_
    ·rcases List.mem_append.1 hf with hf | hf
     ·exact (R.ok.fl f hf).1
     ·rw [List.mem_singleton.1 hf]; exact Int.le_refl _
    ·have := R.pl s hs
     refine ⟨this.1, this.2.1, this.2.2.1, ?_⟩
     show _ ≤ hi ((o.fills ++ [0]).set ((o.fills ++ [0]).length - 1) (0 + bh b))
     omega
    ·show hi ((o.fills ++ [0]).set ((o.fills ++ [0]).length - 1) (0 + bh b)) + (cg o.notes + cg b.notes) ≤ p.Height
     have : hi ((o.fills ++ [0]).set ((o.fills ++ [0]).length - 1) (0 + bh b)) ≤ p.Height - cg o.notes - cg b.notes := pO (by omega) fun f hf => by
      rcases List.mem_or_eq_of_mem_set hf with hf | hf
      ·rcases List.mem_append.1 hf with hf | hf
       ·have := kN hf; omega
       ·rw [List.mem_singleton.1 hf]; omega
      ·rw [hf]; omega
     omega
   ·cases ht
theorem pj {hs : List ac} (h : hs.Pairwise fun x y => x.Y ≤ y.Y) : ∀ s ∈ hs, (hs.getD 0 aa).Y ≤ s.Y := by
 cases hs with
 | nil => intro s hs; cases hs
 | cons a l =>
  intro s hs
  show a.Y ≤ s.Y
  rcases List.mem_cons.1 hs with rfl | hs
  ·exact Int.le_refl _
  ·exact (List.pairwise_cons.1 h).1 s hs
theorem p8 {p : ax} (h : j7 p) {left most : Int} {b : ak} (hb : gV b) (B : Bm left most b) {before : List ak} (hB : ∀ x ∈ before, gV x) (hl : before.length ≤ 100) (hup : (before.flatMap (·.slices)).Pairwise fun x y => x.Y ≤ y.Y) (hlx : ∀ x ∈ before, ∀ s ∈ x.slices, left ≤ s.X) : Rp p left most (kM p b before) := by
 obtain ⟨hp, t, g1, g2, g3⟩ := n0 h hb hB hl
 have e : kM p b before = fC p ⟨⟨p⟩, hp, [], [0]⟩ b t := by unfold kM; rw [g1]; rfl
 have hok : mm p (kM p b before) := (oO h hb hB hl).choose_spec.choose_spec.2.2.2.ok
 have ht := g2.tb
 have hbo := hb.ok
 have hn := (gt fun s hs => ((hb.nt s hs).1).h).1
 have e1 : hi (([0] : List Int).set (([0] : List Int).length - 1) (t + bh b)) = t + bh b := by
  show max 0 (t + bh b) = _
  omega
 have hle := B.le
 rw [e] at hok ⊢
 refine Rp.add h hb B ht.1 (Nat.le_refl _) (show 1 ≤ 8 by decide) (fun f hf => by rw [List.mem_singleton.1 hf]; exact Int.le_refl _) (fun s hs => ?_) (fun s hs => (by cases hs)) hok fun hm => ?_
 ·show 0 ≤ s.Y ∧ left ≤ s.X ∧ (0 ≤ s.H ∧ s.H ≤ 1000000) ∧ s.Y + s.H ≤ hi (([0] : List Int).set (([0] : List Int).length - 1) (t + bh b))
  rw [e1]
  have c1 := g2.hd s hs
  have c2 := g2.bd s hs
  rcases g3 with ⟨g3, _⟩ | ⟨_, hs', g4, g5⟩
  ·rw [g3] at hs; cases hs
  ·subst g5
   obtain ⟨q, hq, rfl⟩ := List.mem_map.1 hs
   have hq1 := pj (hup.sublist g4) q hq
   obtain ⟨x, hx, hx2⟩ := List.mem_flatMap.1 (g4.subset hq)
   have hq2 := hlx x hx q hx2
   have c1' : q.Y + (0 - (hs'.getD 0 aa).Y) + q.H ≤ t := c1.2.2
   refine ⟨?_, ?_, c2.2, ?_⟩
   ·show 0 ≤ q.Y + (0 - (hs'.getD 0 aa).Y)
    omega
   ·show left ≤ q.X + 0
    omega
   ·show q.Y + (0 - (hs'.getD 0 aa).Y) + q.H ≤ t + bh b
    omega
 ·show hi (([0] : List Int).set (([0] : List Int).length - 1) (t + bh b)) + (cg [] + cg b.notes) ≤ p.Height
  rw [e1]
  have e2 : cg [] = 0 := rfl
  rcases g3 with ⟨_, g3⟩ | ⟨g3, _⟩
  ·subst g3; omega
  ·omega
theorem pi {p : ax} (h : j7 p) {left most : Int} {o : Option ai} {before : List ak} (hB : ∀ x ∈ before, gV x) (hl : before.length ≤ 61) (O : qf p o before.length) {b : ak} (hb : gV b) (B : Bm left most b) (done : List ai)
  (hup : (before.flatMap (·.slices)).Pairwise fun x y => x.Y ≤ y.Y) (hlx : ∀ x ∈ before, ∀ s ∈ x.slices, left ≤ s.X) (R : ∀ x ∈ done ++ o.toList, Rp p left most x) :
  ∀ x ∈ (gf p o before done b).2 ++ (gf p o before done b).1.toList, Rp p left most x := by
 have hn := p8 h hb B hB (by omega) hup hlx
 have O2 := (step_ok h hB hl O hb done).1
 cases o with
 | none =>
  intro x hx
  simp only [gf, Option.toList_some] at hx
  rcases List.mem_append.1 hx with hx | hx
  ·exact R x (List.mem_append_left _ hx)
  ·rw [List.mem_singleton.1 hx]; exact hn
 | some y =>
  unfold gf at O2 ⊢
  simp only at O2 ⊢
  cases ht : jJ p y b (max 0 (gv b - iP before)) with
  | none =>
   intro x hx
   simp only [Option.toList_some] at hx
   rcases List.mem_append.1 hx with hx | hx
   ·exact R x (by simpa using hx)
   ·rw [List.mem_singleton.1 hx]; exact hn
  | some y' =>
   rw [ht] at O2
   intro x hx
   simp only [Option.toList_some] at hx
   rcases List.mem_append.1 hx with hx | hx
   ·exact R x (List.mem_append_left _ hx)
   ·rw [List.mem_singleton.1 hx]
    exact pE h (R y (by simp)) hb B (by omega) ht (O2 y' rfl).1.ok
theorem qd {p : ax} (h : j7 p) {left most : Int} : ∀ (bs : List ak) (o : Option ai) (before : List ak) (done : List ai), (∀ b ∈ before ++ bs, gV b ∧ Bm left most b) → ((before ++ bs).flatMap (·.slices)).Pairwise (fun x y => x.Y ≤ y.Y) → before.length + bs.length ≤ 61 → qf p o before.length → (∀ x ∈ done ++ o.toList, Rp p left most x) →
  ∀ x ∈ (ik p o before done bs).2.1 ++ (ik p o before done bs).1.toList, Rp p left most x := by
 intro bs
 induction bs with
 | nil => intro o before done _ _ _ _ R; simpa [ik] using R
 | cons b bs ih =>
  intro o before done h1 h2 h3 O R
  simp only [List.length_cons] at h3
  have hb := h1 b (by simp)
  have hB : ∀ x ∈ before, gV x := fun x hx => (h1 x (List.mem_append_left _ hx)).1
  have hup : (before.flatMap (·.slices)).Pairwise fun x y => x.Y ≤ y.Y := by
   rw [List.flatMap_append] at h2
   exact h2.sublist (List.sublist_append_left _ _)
  have R2 := pi h hB (by omega) O hb.1 hb.2 done hup (fun x hx => (h1 x (List.mem_append_left _ hx)).2.sx) R
  have O2 := (step_ok h hB (by omega) O hb.1 done).1
  have ea : before ++ [b] ++ bs = before ++ b :: bs := by simp
  have := ih _ (before ++ [b]) _ (by rw [ea]; exact h1) (by rw [ea]; exact h2) (by rw [List.length_append, List.length_singleton]; omega) (by rw [List.length_append, List.length_singleton]; exact O2) R2
  simpa [ik, List.append_assoc] using this
theorem kO : ∀ (l : List ac) (y : Int), (∀ s ∈ l, 0 ≤ s.H) → ∀ s ∈ eD y l, y ≤ s.Y ∧ s.Y + s.H ≤ y + cg l ∧ ∃ q ∈ l, s.X = q.X ∧ s.H = q.H
 | [], y, _, s, hs => by cases hs
 | q :: l, y, h, s, hs => by
  have hq := h q (List.mem_cons_self ..)
  have hl : ∀ s ∈ l, 0 ≤ s.H := fun s hs => h s (List.mem_cons_of_mem _ hs)
  have hp : 0 ≤ cg l := by
   clear hs h
   induction l with
   | nil => exact Int.le_refl _
   | cons a l ih =>
    have h1 := hl a (List.mem_cons_self ..)
    have h2 := ih fun s hs => hl s (List.mem_cons_of_mem _ hs)
    unfold cg at *
    rw [List.map_cons, List.sum_cons]
    omega
  have e : cg (q :: l) = q.H + cg l := by unfold cg; rw [List.map_cons, List.sum_cons]
  rw [e]
  rw [eD] at hs
  rcases List.mem_cons.1 hs with rfl | hs
  ·exact ⟨Int.le_refl _, by show y + q.H ≤ _; omega, q, List.mem_cons_self .., rfl, rfl⟩
  ·obtain ⟨h1, h2, r, h3, h4⟩ := kO l (y + q.H) hl s hs
   exact ⟨by omega, by omega, r, List.mem_cons_of_mem _ h3, h4⟩
structure R3 (p : ax) (left most : Int) (s : ac) : Prop where
 y : 0 ≤ s.Y
 x : left ≤ s.X
 le : most ≤ p.Height → s.Y + s.H ≤ p.Height
 bd : 0 ≤ s.Y + s.H ∧ s.Y + s.H ≤ 1000000000000
theorem Rp.close {p : ax} (h : j7 p) {left most : Int} {x : ai} (R : Rp p left most x) : ∀ s ∈ i8 x p, R3 p left most s := by
 intro s hs
 have hH := nq R.ok.fl
 have hh := h.h
 have hnl := R.ok.nl
 have hsum := gt fun s hs => ((R.ok.nt s hs).1).h
 unfold i8 at hs
 rcases List.mem_append.1 hs with hs | hs
 ·obtain ⟨h1, h2, h3, h4⟩ := R.pl s hs
  exact ⟨h1, h2, fun hm => by have := R.room hm; omega, by omega⟩
 ·obtain ⟨h1, h2, q, hq, h3, h4⟩ := kO _ _ (fun s hs => ((R.ok.nt s hs).1).h.1) s hs
  have h5 := R.nx q hq
  have h6 := ((R.ok.nt q hq).1).h
  exact ⟨by omega, by omega, fun hm => by have := R.room hm; omega, by omega⟩
end Go.Proofs.Ytlcfemplcaejgaa.LG
namespace Go.Proofs.Ytlcfemplcaejgaa.LG
open Go Go.LG Go.Lib

abbrev RB := ao
def mc (b : RB) : ak := ⟨b.Slices, b.Notes, b.End⟩
theorem nC (dn : List RB) (b d : RB) : (dn ++ [b]).getD (Int.toNat (dn.length : Int)) d = b := by
 simp [List.getD_eq_getElem?_getD]
theorem qe (dn : List RB) (b c : RB) : (dn ++ [b]).set (Int.toNat (dn.length : Int)) c = dn ++ [c] := by
 simp
theorem pD {dn : List RB} (h : dn.length ≤ 1000) (b : RB) : aj (((dn ++ [b]).length : Int) - 1) = (dn.length : Int) := by
 rw [List.length_append, List.length_singleton, aG (by omega) (by omega)]
 omega
theorem inR (dn : List RB) (b : RB) : ((dn.length : Int) < ((dn ++ [b]).length : Int)) = True := by
 rw [List.length_append, List.length_singleton]
 exact eq_true (by omega)
theorem neR (dn : List RB) (b : RB) : (((dn ++ [b]).length : Int) = 0) = False := by
 rw [List.length_append, List.length_singleton]
 exact eq_false (by omega)
theorem pJ (dn : List RB) : ((0 : Int) ≤ (dn.length : Int)) = True := eq_true (by omega)
theorem qA {l : List ac} (hl : mP l) (keep : List Bool) {i : Nat} (hlt : i < l.length) (e : List ac) (he : e.length ≤ 60) (hn : (l[i]).Note = true) :
  aE l keep [] e (i : Int) = aE l keep [] (e ++ [l[i]]) ((i + 1 : Nat) : Int) := by
 have hlen := hl.len
 conv => lhs; rw [aE]
 rw [if_pos (by omega), if_pos ⟨by omega, by omega⟩, gd _ _ hlt, hn, aG (n := (i : Int) + 1) (by omega) (by omega), add1 i, if_pos rfl]
 have h0 : ((([] : List RB).length : Nat) : Int) = 0 := rfl
 simp only [h0, decide_true, au, if_true, if_pos (show e.length + 1 ≤ 2199023255552 by omega)]
theorem qv {l : List ac} (hl : mP l) (keep : List Bool) {i : Nat} (hlt : i < l.length) {dn : List RB} (hd : dn.length ≤ 1000) (b : RB) (hb : b.Notes.length ≤ 60) (e : List ac) (hn : (l[i]).Note = true) :
  aE l keep (dn ++ [b]) e (i : Int) = aE l keep (dn ++ [⟨b.Slices, b.Notes ++ [l[i]], b.End, b.Kept⟩]) e ((i + 1 : Nat) : Int) := by
 have hlen := hl.len
 conv => lhs; rw [aE]
 rw [if_pos (by omega), if_pos ⟨by omega, by omega⟩, gd _ _ hlt, hn, aG (n := (i : Int) + 1) (by omega) (by omega), add1 i, if_pos rfl]
 have hq : (b.Notes.length + 1 ≤ 2199023255552) = True := eq_true (by omega)
 simp only [pD hd, neR, pJ, inR, nC, qe, hq, and_self, decide_false, au, if_true, Bool.false_eq_true, if_false]
theorem pS {l : List ac} (hl : mP l) {keep : List Bool} (hk : keep.length = l.length) {i : Nat} (hlt : i < l.length) {out : List RB} (hd : out.length ≤ 1000) (e : List ac) (hn : (l[i]).Note = false)
  (hc : out = [] ∨ ∃ dn b, out = dn ++ [b] ∧ b.End ≤ (l[i]).Y ∧ b.Kept = false) :
  aE l keep out e (i : Int) = aE l keep (out ++ [⟨[l[i]], e, (l[i]).Y + (l[i]).H, keep[i]'(by omega)⟩]) [] ((i + 1 : Nat) : Int) := by
 have hlen := hl.len
 have S := hl.all _ (List.getElem_mem hlt)
 have s4 := S.y
 have s5 := S.h
 have hlk : i < keep.length := by omega
 have ek : keep.getD (Int.toNat (i : Int)) false = keep[i] := gd _ _ hlk
 have qk : (0 : Int) ≤ (i : Int) ∧ (i : Int) < (keep.length : Int) := ⟨by omega, by omega⟩
 conv => lhs; rw [aE]
 rw [if_pos (by omega), if_pos ⟨by omega, by omega⟩, gd _ _ hlt, hn, aG (n := (i : Int) + 1) (by omega) (by omega), add1 i, aG (n := (l[i]).Y + (l[i]).H) (by omega) (by omega)]
 have hq : (out.length + 1 ≤ 2199023255552) = True := eq_true (by omega)
 have hq1 : ((([] : List ac).length) + 1 ≤ 2199023255552) = True := eq_true (by decide)
 have hnew : (if (out.length : Int) = 0 then some true else (if (0 : Int) ≤ aj ((out.length : Int) - 1) ∧ aj ((out.length : Int) - 1) < (out.length : Int) then (if ((out.getD (Int.toNat (aj ((out.length : Int) - 1))) ab).End) ≤ ((l[i]).Y) then (if (0 : Int) ≤ aj ((out.length : Int) - 1) ∧ aj ((out.length : Int) - 1) < (out.length : Int) then some (!((out.getD (Int.toNat (aj ((out.length : Int) - 1))) ab).Kept)) else none) else some false) else none) : Option Bool) = some true := by
  rcases hc with rfl | ⟨dn, b, rfl, h1, h2⟩
  ·rfl
  ·have hd' : dn.length ≤ 1000 := by rw [List.length_append] at hd; omega
   simp only [pD hd', neR, pJ, inR, nC, and_self, if_true, if_false, h1, h2, Bool.not_false]
 simp only [Bool.false_eq_true, if_false, au]
 rw [hnew]
 have em : max (l[i].Y + l[i].H) (l[i].Y + l[i].H) = l[i].Y + l[i].H := by omega
 simp only [au, if_true, hq, hq1, pD hd, pJ, inR, nC, qe, and_self, if_pos qk, ek, em, List.nil_append]
theorem qq {l : List ac} (hl : mP l) {keep : List Bool} (hk : keep.length = l.length) {i : Nat} (hlt : i < l.length) {dn : List RB} (hd : dn.length ≤ 1000) (b : RB) (hb : b.Slices.length ≤ 60) (e : List ac) (hn : (l[i]).Note = false)
  (hc : ¬ (b.End ≤ (l[i]).Y ∧ b.Kept = false)) :
  aE l keep (dn ++ [b]) e (i : Int) = aE l keep (dn ++ [⟨b.Slices ++ [l[i]], b.Notes, max b.End ((l[i]).Y + (l[i]).H), keep[i]'(by omega)⟩]) e ((i + 1 : Nat) : Int) := by
 have hlen := hl.len
 have S := hl.all _ (List.getElem_mem hlt)
 have s4 := S.y
 have s5 := S.h
 have hlk : i < keep.length := by omega
 have ek : keep.getD (Int.toNat (i : Int)) false = keep[i] := gd _ _ hlk
 have qk : (0 : Int) ≤ (i : Int) ∧ (i : Int) < (keep.length : Int) := ⟨by omega, by omega⟩
 conv => lhs; rw [aE]
 rw [if_pos (by omega), if_pos ⟨by omega, by omega⟩, gd _ _ hlt, hn, aG (n := (i : Int) + 1) (by omega) (by omega), add1 i, aG (n := (l[i]).Y + (l[i]).H) (by omega) (by omega)]
 have hq : (b.Slices.length + 1 ≤ 2199023255552) = True := eq_true (by omega)
 have hnew : (if b.End ≤ (l[i]).Y then some (!b.Kept) else some false : Option Bool) = some false := by
  by_cases c : b.End ≤ (l[i]).Y
  ·have : b.Kept = true := by
    cases hb' : b.Kept
    ·exact absurd ⟨c, hb'⟩ hc
    ·rfl
   simp [this]
  ·rw [if_neg c]
 simp only [Bool.false_eq_true, if_false, au, pD hd, neR, pJ, inR, nC, qe, and_self, if_true, hnew, hq, if_pos qk, ek]
def Rel (st : pf) (dn out : List RB) (e : List ac) : Prop :=
 (st.ss = [] ∧ dn = [] ∧ out = [] ∧ e = st.ns ∧ st.last = false) ∨ (st.ss ≠ [] ∧ out = dn ++ [⟨st.ss, st.ns, st.en, st.last⟩] ∧ e = [])
def full (b : ak) : Bool := !b.slices.isEmpty
theorem oU {l : List ac} (hl : mP l) {keep : List Bool} (hk : keep.length = l.length) : ∀ (n i : Nat) (st : pf) (dn out : List RB) (e : List ac), l.length - i = n → i ≤ l.length → st.ss.length ≤ i → st.ns.length ≤ i → dn.length ≤ i → Rel st dn out e →
  ∃ out' e', aE l keep out e (i : Int) = some (out', e') ∧ out'.map mc = dn.map mc ++ (bT st ((l.zip keep).drop i)).filter full := by
 have hlen := hl.len
 intro n
 induction n with
 | zero =>
  intro i st dn out e hn hi h1 h2 h3 R
  rw [aE, if_neg (by omega), List.drop_eq_nil_of_le (by simp; omega)]
  refine ⟨_, _, rfl, ?_⟩
  unfold bT
  rcases R with ⟨r1, r2, r3, _, _⟩ | ⟨r1, r2, _⟩
  ·subst r2 r3
   rw [r1]
   split
   ·rfl
   ·rfl
  ·rw [r2, if_neg (fun c => r1 c.1)]
   have : full ⟨st.ss, st.ns, st.en⟩ = true := by unfold full; simpa using r1
   rw [List.map_append, List.filter_cons, this]; rfl
 | succ n ih =>
  intro i st dn out e hn hi h1 h2 h3 R
  have hlt : i < l.length := by omega
  have hlk : i < keep.length := by omega
  have hz : (l.zip keep).drop i = (l[i], keep[i]) :: (l.zip keep).drop (i + 1) := by
   rw [List.drop_eq_getElem_cons (by simp; omega)]
   simp
  rw [hz]
  unfold bT
  by_cases c1 : (l[i]).Note = true
  ·rw [if_pos c1]
   have hl1 : (st.ns ++ [l[i]]).length ≤ i + 1 := by rw [List.length_append, List.length_singleton]; omega
   rcases R with ⟨r1, r2, r3, r4, r5⟩ | ⟨r1, r2, r3⟩
   ·subst r2 r3 r4
    rw [qA hl keep hlt st.ns (by omega) c1]
    exact ih (i + 1) ⟨st.last, st.ss, st.ns ++ [l[i]], st.en⟩ [] [] _ (by omega) (by omega) (by show st.ss.length ≤ _; omega) hl1 (Nat.zero_le _) (.inl ⟨r1, rfl, rfl, rfl, r5⟩)
   ·subst r2 r3
    rw [qv hl keep hlt (by omega) _ (by show st.ns.length ≤ 60; omega) [] c1]
    exact ih (i + 1) ⟨st.last, st.ss, st.ns ++ [l[i]], st.en⟩ dn _ [] (by omega) (by omega) (by show st.ss.length ≤ _; omega) hl1 (by omega) (.inr ⟨r1, rfl, rfl⟩)
  ·rw [if_neg c1]
   have c1' : (l[i]).Note = false := by simpa using c1
   rcases R with ⟨r1, r2, r3, r4, r5⟩ | ⟨r1, r2, r3⟩
   ·subst r2 r3 r4
    rw [if_neg (fun c => c.1 r1), if_pos r1, pS hl hk hlt (Nat.zero_le _) st.ns c1' (.inl rfl)]
    exact ih (i + 1) ⟨keep[i], [l[i]], st.ns, (l[i]).Y + (l[i]).H⟩ [] _ [] (by omega) (by omega) (by simp) (by show st.ns.length ≤ _; omega) (Nat.zero_le _) (.inr ⟨by simp, rfl, rfl⟩)
   ·subst r2 r3
    by_cases c2 : st.en ≤ (l[i]).Y ∧ st.last = false
    ·rw [if_pos ⟨r1, c2⟩, pS hl hk hlt (by rw [List.length_append, List.length_singleton]; omega) [] c1' (.inr ⟨dn, _, rfl, c2⟩)]
     have := ih (i + 1) ⟨keep[i], [l[i]], [], (l[i]).Y + (l[i]).H⟩ (dn ++ [⟨st.ss, st.ns, st.en, st.last⟩]) _ [] (by omega) (by omega) (by simp) (Nat.zero_le _) (by rw [List.length_append, List.length_singleton]; omega) (.inr ⟨by simp, rfl, rfl⟩)
     obtain ⟨o', e', g1, g2⟩ := this
     refine ⟨o', e', g1, ?_⟩
     have hf : full ⟨st.ss, st.ns, st.en⟩ = true := by unfold full; simpa using r1
     rw [g2, List.filter_cons, hf]
     simp [mc]
    ·rw [if_neg (fun c => c2 c.2), if_neg r1, qq hl hk hlt (by omega) _ (by show st.ss.length ≤ 60; omega) [] c1' c2]
     exact ih (i + 1) ⟨keep[i], st.ss ++ [l[i]], st.ns, max st.en ((l[i]).Y + (l[i]).H)⟩ dn _ [] (by omega) (by omega) (by rw [List.length_append, List.length_singleton]; omega) (by show st.ns.length ≤ _; omega) (by omega) (.inr ⟨by simp, rfl, rfl⟩)
theorem nD {l : List ac} (hl : mP l) {keep : List Bool} (hk : keep.length = l.length) :
  ∃ out e, dV l keep = some (out, e) ∧ out.map mc = (bT ⟨false, [], [], 0⟩ (l.zip keep)).filter full := by
 obtain ⟨o, e, h1, h2⟩ := oU hl hk _ 0 ⟨false, [], [], 0⟩ [] [] [] rfl (Nat.zero_le _) (Nat.le_refl _) (Nat.le_refl _) (Nat.le_refl _) (.inl ⟨rfl, rfl, rfl, rfl, rfl⟩)
 rw [List.drop_zero] at h2
 have h1' : aE l keep [] [] 0 = some (o, e) := h1
 refine ⟨o, e, ?_, h2⟩
 unfold dV
 rw [h1']; rfl
end Go.Proofs.Ytlcfemplcaejgaa.LG
namespace Go.Proofs.Ytlcfemplcaejgaa.LG
open Go Go.LG Go.Lib

theorem k5 : dD = some true := jQ (fu := 300) _ (by kernel_rfl)
theorem nN (s : ac) (l : List ac) : cg (s :: l) = s.H + cg l := by unfold cg; rw [List.map_cons, List.sum_cons]
theorem m0 {out : List RB} {i : Nat} (hi : i < out.length) (hb : gV (mc out[i])) : ∀ (n k : Nat) (acc : Int), (out[i]).Notes.length - k = n → k ≤ (out[i]).Notes.length → -10000000000 ≤ acc ∧ acc ≤ 10000000000 + 1000000 * (k : Int) →
  bq out (i : Int) acc (k : Int) = some (acc + cg ((out[i]).Notes.drop k)) := by
 have hl : (out[i]).Notes.length ≤ 60 := hb.len2
 intro n
 induction n with
 | zero =>
  intro k acc hn hk ha
  rw [bq, gd _ _ hi, if_neg (by omega), List.drop_eq_nil_of_le (by omega)]
  show some acc = some (acc + 0)
  rw [Int.add_zero]
 | succ n ih =>
  intro k acc hn hk ha
  have hlt : k < (out[i]).Notes.length := by omega
  have S := (hb.nt _ (List.getElem_mem hlt)).1.h
  have S' : 0 ≤ ((out[i]).Notes[k]).H ∧ ((out[i]).Notes[k]).H ≤ 1000000 := S
  rw [bq, gd _ _ hi, if_pos (by omega), if_pos ⟨by omega, by omega⟩, gd _ _ hlt, aG (n := (k : Int) + 1) (by omega) (by omega), add1 k, aG (n := acc + ((out[i]).Notes[k]).H) (by omega) (by omega),
   ih (k + 1) _ (by omega) (by omega) (by push_cast; omega), List.drop_eq_getElem_cons hlt, nN]
  congr 1
  omega
theorem nO {out : List RB} (hl : out.length ≤ 1000) (hB : ∀ b ∈ out, gV (mc b)) : ∀ (n i : Nat) (m : Int), out.length - i = n → i ≤ out.length →
  ∃ m', bp out m (i : Int) = some m' ∧ m ≤ m' ∧ ∀ (j : Nat) (h : j < out.length), i ≤ j → bh (mc out[j]) + cg (out[j]).Notes ≤ m' := by
 intro n
 induction n with
 | zero =>
  intro i m hn hi
  rw [bp, if_neg (by omega)]
  exact ⟨m, rfl, Int.le_refl _, fun j h hj => by omega⟩
 | succ n ih =>
  intro i m hn hi
  have hlt : i < out.length := by omega
  have hb := hB _ (List.getElem_mem hlt)
  have hbo := hb.ok
  have hpos : 0 < (out[i]).Slices.length := List.length_pos_iff.2 hb.ne
  have e0 : (out[i]).End - ((out[i]).Slices.getD (Int.toNat 0) aa).Y = bh (mc out[i]) := rfl
  have hN := m0 hlt hb _ 0 (bh (mc out[i])) rfl (Nat.zero_le _) ⟨by omega, by simp; omega⟩
  rw [List.drop_zero] at hN
  have hN' : bq out (i : Int) (bh (mc out[i])) 0 = some (bh (mc out[i]) + cg (out[i]).Notes) := hN
  obtain ⟨m', g1, g2, g3⟩ := ih (i + 1) (max m (bh (mc out[i]) + cg (out[i]).Notes)) (by omega) (by omega)
  rw [bp, if_pos (by omega), if_pos ⟨by omega, by omega⟩, gd _ _ hlt, if_pos ⟨Int.le_refl _, by omega⟩, e0, aG (n := bh (mc out[i])) (by omega) (by omega), hN', au, aG (n := (i : Int) + 1) (by omega) (by omega), add1 i]
  refine ⟨m', g1, by omega, fun j h hj => ?_⟩
  by_cases c : j = i
  ·subst c; omega
  ·exact g3 j h (by omega)
theorem nR {l : List ac} (hl : l.length ≤ 60) : ∀ (n i : Nat) (m : Int), l.length - i = n → i ≤ l.length →
  ∃ m', bv l m (i : Int) = some m' ∧ m' ≤ m ∧ ∀ (j : Nat) (h : j < l.length), i ≤ j → m' ≤ (l[j]).X := by
 intro n
 induction n with
 | zero =>
  intro i m hn hi
  rw [bv, if_neg (by omega)]
  exact ⟨m, rfl, Int.le_refl _, fun j h hj => by omega⟩
 | succ n ih =>
  intro i m hn hi
  have hlt : i < l.length := by omega
  obtain ⟨m', g1, g2, g3⟩ := ih (i + 1) (min m (l[i]).X) (by omega) (by omega)
  rw [bv, if_pos (by omega), if_pos ⟨by omega, by omega⟩, gd _ _ hlt, aG (n := (i : Int) + 1) (by omega) (by omega), add1 i]
  refine ⟨m', g1, by omega, fun j h hj => ?_⟩
  by_cases c : j = i
  ·subst c; omega
  ·exact g3 j h (by omega)
theorem pL {p : ax} {left most m2 : Int} {y47 : List ap} {out : List RB} {q : Nat} (hq : q < y47.length) (hl : (y47[q]).Slices.length ≤ 1000000) (hS : ∀ s ∈ (y47[q]).Slices, R3 p left m2 s) (hm : m2 = most ∨ out = []) : ∀ (n k : Nat), (y47[q]).Slices.length - k = n → k ≤ (y47[q]).Slices.length →
  bu p y47 out most left (q : Int) true (k : Int) = some true := by
 intro n
 induction n with
 | zero => intro k hn hk; rw [bu, gd _ _ hq, if_neg (by omega)]
 | succ n ih =>
  intro k hn hk
  have hlt : k < (y47[q]).Slices.length := by omega
  have S := hS _ (List.getElem_mem hlt)
  have s1 := S.y
  have s2 := S.x
  have s3 := S.bd
  have s4 := S.le
  have hor : (((y47[q]).Slices[k]).Y + ((y47[q]).Slices[k]).H ≤ p.Height ∨ p.Height < most) ∨ (out.length : Int) = 0 := by
   rcases hm with rfl | rfl
   ·left
    by_cases c : m2 ≤ p.Height
    ·exact .inl (s4 c)
    ·exact .inr (by omega)
   ·right; rfl
  rw [bu, gd _ _ hq, if_pos (by omega), if_pos ⟨by omega, by omega⟩, gd _ _ hlt, aG (n := (k : Int) + 1) (by omega) (by omega), add1 k, aG (n := ((y47[q]).Slices[k]).Y + ((y47[q]).Slices[k]).H) (by omega) (by omega)]
  simp only [s1, s2, decide_true, if_true, au, l9, decide_eq_true_eq, hor]
  exact ih (k + 1) (by omega) (by omega)
theorem oJ {p : ax} {left most m2 : Int} {y47 : List ap} (hpl : y47.length ≤ 1000) {out : List RB} (hS : ∀ P ∈ y47, P.Slices.length ≤ 1000000 ∧ ∀ s ∈ P.Slices, R3 p left m2 s) (hm : m2 = most ∨ out = []) : ∀ (n q : Nat), y47.length - q = n → q ≤ y47.length →
  bw p y47 out most left true (q : Int) = some true := by
 intro n
 induction n with
 | zero => intro q hn hq; rw [bw, if_neg (by omega)]
 | succ n ih =>
  intro q hn hq
  have hlt : q < y47.length := by omega
  have P := hS _ (List.getElem_mem hlt)
  have hi := pL hlt P.1 P.2 hm _ 0 rfl (Nat.zero_le _)
  have hi' : bu p y47 out most left (q : Int) true 0 = some true := hi
  rw [bw, if_pos (by omega), if_pos ⟨by omega, by omega⟩, hi', au, aG (n := (q : Int) + 1) (by omega) (by omega), add1 q]
  exact ih (q + 1) (by omega) (by omega)
theorem kt : ∀ (l : List ac) (y : Int), (eD y l).length = l.length
 | [], y => rfl
 | s :: l, y => by rw [eD, List.length_cons, List.length_cons, kt l]
theorem nv (p : ax) : ∀ (os : List ai) (n : Nat) (P : ap), P ∈ fA p n os → ∃ x ∈ os, P.Slices = i8 x p
 | [], n, P, h => by cases h
 | o :: os, n, P, h => by
  rw [fA] at h
  rcases List.mem_cons.1 h with rfl | h
  ·exact ⟨o, List.mem_cons_self .., rfl⟩
  ·obtain ⟨x, hx, e⟩ := nv p os (n + 1) P h
   exact ⟨x, List.mem_cons_of_mem _ hx, e⟩
theorem oh {p : ax} (h : j7 p) {l : List ac} (hl : mP l) {keep : List Bool} (hk : keep.length = l.length) {left most : Int} {out : List RB} (hout : out.map mc = (bT ⟨false, [], [], 0⟩ (l.zip keep)).filter full) (hleft : ∀ s ∈ l, left ≤ s.X)
  (hmost : ∀ b ∈ out, bh (mc b) + cg b.Notes ≤ most) :
  ∃ os m2, cz p l keep = some (fA p 0 os, 0) ∧ os.length ≤ 100 ∧ (∀ x ∈ os, Rp p left m2 x) ∧ (m2 = most ∨ out = []) := by
 have hz : (l.zip keep).map (·.1) = l := by rw [List.map_fst_zip]; omega
 obtain ⟨f1, f2⟩ := mV (l.zip keep) ⟨false, [], [], 0⟩
 rw [hz] at f1 f2
 simp only [List.nil_append] at f1 f2
 have hbl := kn (l.zip keep) ⟨false, [], [], 0⟩
 have hlen := hl.len
 have hzl : (l.zip keep).length ≤ 60 := by simp; omega
 have hsort : l.Pairwise fun x y => x.Y ≤ y.Y := by
  have := (hl.bi keep hk).sorted
  rw [← hz, List.pairwise_map]
  exact this
 rcases n9 h hl hk with ⟨bs, b1, b2, b3, b4⟩ | ⟨ns, b1, b2, b3, b4, b5⟩
 ·subst b1
  refine ⟨_, most, b3, b4, ?_, .inl rfl⟩
  have hff : (bT ⟨false, [], [], 0⟩ (l.zip keep)).filter full = bT ⟨false, [], [], 0⟩ (l.zip keep) := List.filter_eq_self.2 fun b hb => by
   have := (b2 b hb).ne
   unfold full
   simpa using this
  rw [hff] at hout
  have hall : ∀ b ∈ bT ⟨false, [], [], 0⟩ (l.zip keep), gV b ∧ Bm left most b := fun b hb => by
   refine ⟨b2 b hb, fun s hs => ?_, fun s hs => ?_, ?_⟩
   ·have : s ∈ l.filter fun s => !s.Note := by rw [← f1]; exact List.mem_flatMap.2 ⟨b, hb, hs⟩
    exact hleft s (List.mem_filter.1 this).1
   ·have : s ∈ l.filter (·.Note) := by rw [← f2]; exact List.mem_flatMap.2 ⟨b, hb, hs⟩
    exact hleft s (List.mem_filter.1 this).1
   ·rw [← hout] at hb
    obtain ⟨r, hr, rfl⟩ := List.mem_map.1 hb
    exact hmost r hr
  have := qd h (bT ⟨false, [], [], 0⟩ (l.zip keep)) none [] [] (by rw [List.nil_append]; exact hall) (by rw [List.nil_append, f1]; exact hsort.sublist List.filter_sublist) (by simp; omega) (fun x hx => (by cases hx)) (fun x hx => (by cases hx))
  exact this
 ·refine ⟨_, p.Height + 1, b4, Nat.le_of_ble_eq_true rfl, fun x hx => ?_, .inr ?_⟩
  ·rw [List.mem_singleton.1 hx]
   rw [b1] at f2
   refine ⟨b5, fun s hs => (by cases hs), fun s hs => ?_, fun hm => by omega⟩
   have : s ∈ l.filter (·.Note) := by rw [← f2]; simpa using hs
   exact hleft s (List.mem_filter.1 this).1
  ·rw [b1] at hout
   have : (([⟨[], ns, 0⟩] : List ak).filter full) = [] := rfl
   rw [this] at hout
   exact List.map_eq_nil_iff.1 hout
theorem kG (p : ax) (l : List ac) (keep : List Bool) (hl0 : l.length ≤ 4611686018427387904) (ht : ∀ s ∈ l, s.Text.size ≤ 9223372036854775807) : dF p l keep = some true := by
 obtain ⟨u, hu, hU⟩ := oB p l keep hl0 ht
 unfold dF
 rw [k5, au, hu, au]
 cases u
 ·rfl
 ·obtain ⟨h, hl, hk⟩ := hU rfl
  have hlen := hl.len
  obtain ⟨out, e, r1, r2⟩ := nD hl hk
  have hbl := kn (l.zip keep) ⟨false, [], [], 0⟩
  have hzl : (l.zip keep).length ≤ 60 := by simp; omega
  have hol : out.length ≤ 1000 := by
   have : (out.map mc).length ≤ (bT ⟨false, [], [], 0⟩ (l.zip keep)).length := by rw [r2]; exact List.length_filter_le ..
   rw [List.length_map] at this
   omega
  have hoB : ∀ b ∈ out, gV (mc b) := fun b hb => by
   have hm : mc b ∈ (bT ⟨false, [], [], 0⟩ (l.zip keep)).filter full := by rw [← r2]; exact List.mem_map_of_mem hb
   obtain ⟨m1, m2⟩ := List.mem_filter.1 hm
   rcases (mq _ _ (hl.bi keep hk)).2 with hall | ⟨ns, e, _⟩
   ·exact hall _ m1
   ·rw [e] at m1
    rw [List.mem_singleton.1 m1] at m2
    cases m2
  obtain ⟨most, q1, _, q3⟩ := nO hol hoB _ 0 0 rfl (Nat.zero_le _)
  obtain ⟨left, w1, _, w3⟩ := nR hlen _ 0 0 rfl (Nat.zero_le _)
  have q1' : bp out 0 0 = some most := q1
  have w1' : bv l 0 0 = some left := w1
  obtain ⟨os, m2, b1, b2, b3, b4⟩ := oh h hl hk (left := left) (most := most) r2 (fun s hs => by
   obtain ⟨j, hj, rfl⟩ := List.getElem_of_mem hs
   exact w3 j hj (Nat.zero_le _)) (fun b hb => by
   obtain ⟨j, hj, rfl⟩ := List.getElem_of_mem hb
   exact q3 j hj (Nat.zero_le _))
  have hA := oJ (p := p) (left := left) (most := most) (m2 := m2) (y47 := fA p 0 os) (by rw [gQ]; omega) (out := out) (fun P hP => by
   obtain ⟨x, hx, e⟩ := nv p os 0 P hP
   have R := b3 x hx
   refine ⟨?_, fun s hs => R.close h s (by rw [← e]; exact hs)⟩
   have c1 := R.ok.pl
   have c2 := R.ok.nl
   rw [e]
   unfold i8
   rw [List.length_append, kt]
   omega) b4 _ 0 rfl (Nat.zero_le _)
  have hA' : bw p (fA p 0 os) out most left true 0 = some true := hA
  simp only [Bool.not_true, Bool.false_eq_true, if_false, b1, au, not_true_eq_false, r1, q1', w1', hA']
end Go.Proofs.Ytlcfemplcaejgaa.LG
