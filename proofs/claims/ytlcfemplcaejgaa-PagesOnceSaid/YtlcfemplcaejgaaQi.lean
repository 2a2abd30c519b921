/-
 Plain laws. No program in sight.
-/
import Derived.Test.YtlcfemplcaejgaaPd
import Derived.Test.YtlcfemplcaejgaaLgQ
import Derived.Lib.TrimByte
import Derived.Lib.SplitLaws
import Derived.Test.YtlcfemplcaejgaaPe
set_option linter.unusedVariables false
set_option linter.unusedSimpArgs false
namespace Go.Proofs.Ytlcfemplcaejgaa.LG
open Go Go.LG Go.Lib

def cl (a : Int) : Int :=
 if 97 ≤ a ∧ a ≤ 122 then 1 else if 65 ≤ a ∧ a ≤ 90 then 2 else if 48 ≤ a ∧ a ≤ 57 then 3 else if a = 32 then 4 else if a = 126 then 6 else if 32 < a ∧ a < 126 then 5 else 0
theorem refClass_eq (a : Int) : formeref06_Class a = some (cl a) := by
 unfold formeref06_Class cl
 simp only [and_some, or_some, some_bind, decide_eq_true_eq]
 repeat' split
 all_goals first | rfl | omega
theorem class_eq (a : Int) : text_Class a = some (cl a) := by
 unfold text_Class cl
 simp only [and_some, or_some, some_bind, decide_eq_true_eq]
 repeat' split
 all_goals first | rfl | omega
theorem cl_zero {a : Int} : cl a = 0 ↔ a < 32 ∨ 126 < a := by
 unfold cl
 repeat' split
 all_goals omega
def ok (b : UInt8) : Bool := decide (cl (b.toNat : Int) ≠ 0)
theorem ok_iff {b : UInt8} : ok b = true ↔ 32 ≤ b.toNat ∧ b.toNat ≤ 126 := by
 unfold ok
 rw [decide_eq_true_eq, Ne, cl_zero]
 omega
def okS (l : List UInt8) : Bool := l.all ok && decide (l.length ≤ 2000)

theorem sz (l : List UInt8) : (⟨l.toArray⟩ : ByteArray).size = l.length := by simp [ByteArray.size]
theorem add1 (i : Nat) : ((i : Int) + 1) = ((i + 1 : Nat) : Int) := by omega
theorem refValid_loop (l : List UInt8) (hs : l.length ≤ 9223372036854775807) : ∀ (n i : Nat), l.length - i = n → i ≤ l.length →
  formeref06_Valid_l18 ⟨l.toArray⟩ (i : Int) = some (if (l.drop i).all ok then Sum.inr () else Sum.inl ()) := by
 intro n
 induction n with
 | zero =>
  intro i hn hi
  have : i = l.length := by omega
  subst this
  rw [formeref06_Valid_l18, sz, if_neg (by omega), List.drop_length]
  simp
 | succ n ih =>
  intro i hn hi
  have hlt : i < l.length := by omega
  rw [formeref06_Valid_l18, sz, if_pos (by omega), if_pos (by omega), bt_mk l hlt, refClass_eq, some_bind, w64_id (by omega) (by omega), add1, ih (i + 1) (by omega) (by omega), List.drop_eq_getElem_cons hlt, List.all_cons]
  by_cases h : cl ((l[i]).toNat : Int) = 0
  ·rw [if_pos h]; simp [ok, h]
  ·rw [if_neg h]; simp [ok, h]
theorem refValid_mk (l : List UInt8) (hs : l.length ≤ 9223372036854775807) : formeref06_Valid ⟨l.toArray⟩ = some (okS l) := by
 unfold formeref06_Valid okS
 rw [show (0 : Int) = ((0 : Nat) : Int) from rfl, refValid_loop l hs _ 0 rfl (Nat.zero_le _), some_bind, List.drop_zero, sz]
 cases l.all ok <;> simp
 omega
theorem get_mk (l : List UInt8) {i : Nat} (h : i < l.length) : (⟨l.toArray⟩ : ByteArray).get! i = l[i] := by
 simp only [ByteArray.get!]
 rw [getElem!_pos _ i (by simpa using h)]
 simp
theorem decode_big (l : List UInt8) {i : Nat} (h : i < l.length) (hb : 128 ≤ (l[i]).toNat) : 128 ≤ (Utf8.decode ⟨l.toArray⟩ i).1 := by
 unfold Utf8.decode
 simp only [Nat.add_zero, get_mk l h, Utf8.runeError]
 rw [if_neg (by omega)]
 repeat' split
 all_goals simp only [Bool.and_eq_true, decide_eq_true_eq] at *
 all_goals omega
theorem decode_small (l : List UInt8) {i : Nat} (h : i < l.length) (hb : (l[i]).toNat < 128) : Utf8.decode ⟨l.toArray⟩ i = ((l[i]).toNat, 1) := by
 unfold Utf8.decode
 simp only [Nat.add_zero, get_mk l h]
 rw [if_pos hb]
theorem valid_loop (l : List UInt8) : ∀ (n i : Nat), l.length - i = n → i ≤ l.length →
  ∃ o, text_Valid_l22 ⟨l.toArray⟩ i = some o ∧ o.isRight = (l.drop i).all ok := by
 intro n
 induction n with
 | zero =>
  intro i hn hi
  have : i = l.length := by omega
  subst this
  refine ⟨.inr l.length, ?_, by simp⟩
  rw [text_Valid_l22, sz, if_neg (by omega)]
 | succ n ih =>
  intro i hn hi
  have hlt : i < l.length := by omega
  rw [text_Valid_l22, sz, if_pos (by omega)]
  rw [List.drop_eq_getElem_cons hlt, List.all_cons]
  by_cases hb : (l[i]).toNat < 128
  ·have hd := decode_small l hlt hb
   rw [hd]
   simp only [class_eq, some_bind, wu8_id (show (0 : Int) ≤ ((l[i]).toNat : Int) by omega) (show ((l[i]).toNat : Int) ≤ 255 by omega)]
   by_cases h1 : (126 : Int) < ((l[i]).toNat : Int)
   ·refine ⟨.inl (i + 1), by rw [if_pos h1, some_bind]; rfl, ?_⟩
    have : ok l[i] = false := by
     rw [Bool.eq_false_iff, Ne, ok_iff]; omega
    simp [this]
   ·rw [if_neg h1, some_bind]
    by_cases h2 : cl ((l[i]).toNat : Int) = 0
    ·refine ⟨.inl (i + 1), by simp [h2], by simp [ok, h2]⟩
    ·obtain ⟨o, ho, hr⟩ := ih (i + 1) (by omega) (by omega)
     refine ⟨o, by simp [h2, ho], by rw [hr]; simp [ok, h2]⟩
  ·have hd := decode_big l hlt (by omega)
   refine ⟨.inl (i + (Utf8.decode ⟨l.toArray⟩ i).2), by rw [if_pos (by omega), some_bind]; rfl, ?_⟩
   have : ok l[i] = false := by
    rw [Bool.eq_false_iff, Ne, ok_iff]; omega
   simp [this]
theorem valid_mk (l : List UInt8) : text_Valid ⟨l.toArray⟩ = some (okS l) := by
 obtain ⟨o, ho, hr⟩ := valid_loop l _ 0 rfl (Nat.zero_le _)
 unfold text_Valid okS
 rw [ho, some_bind, sz]
 rw [List.drop_zero] at hr
 rw [← hr]
 cases o
 ·simp
 ·simp; omega
end Go.Proofs.Ytlcfemplcaejgaa.LG
namespace Go.Proofs.Ytlcfemplcaejgaa.LG
open Go Go.LG Go.Lib

theorem gd {α : Type} (l : List α) (d : α) {i : Nat} (h : i < l.length) : l.getD (Int.toNat (i : Int)) d = l[i] := by simp [List.getD_eq_getElem?_getD, h]
theorem in_mk (a b c : Int) : formeref40_in a b c = some (decide (b ≤ a ∧ a ≤ c)) := by unfold formeref40_in; rw [and_some, some_bind]
theorem within_mk (a b c : Int) : pages_within a b c = some (decide (b ≤ a ∧ a ≤ c)) := by unfold pages_within; rw [and_some, some_bind]
theorem coord_mk (a : Int) : formeref40_coord a = some (decide (-1000000000 ≤ a ∧ a ≤ 1000000000)) := by unfold formeref40_coord; rw [in_mk]; rfl
def colW (p : api_Paper) : Int := max 0 (Int.tdiv (p.Width - p.Gap * (p.Columns - 1)) p.Columns)
structure Pok (p : api_Paper) : Prop where
 c : 1 ≤ p.Columns ∧ p.Columns ≤ 8
 g : 0 ≤ p.Gap ∧ p.Gap ≤ 1000
 w : 1 ≤ p.Width ∧ p.Width ≤ 100000
 h : 1 ≤ p.Height ∧ p.Height ≤ 1000000
 col : 200 ≤ colW p ∧ colW p ≤ 4000
 sc : 50 ≤ p.Scale ∧ p.Scale ≤ 300
 lang : 0 ≤ p.Lang ∧ p.Lang < 4
theorem col_eq {p : api_Paper} (c : 1 ≤ p.Columns ∧ p.Columns ≤ 8) (g : 0 ≤ p.Gap ∧ p.Gap ≤ 1000) (w : 1 ≤ p.Width ∧ p.Width ≤ 100000) :
  max 0 (w64 (Int.tdiv (w64 (p.Width - (w64 (p.Gap * (w64 (p.Columns - 1)))))) p.Columns)) = colW p := by
 have h1 : 0 ≤ p.Gap * (p.Columns - 1) ∧ p.Gap * (p.Columns - 1) ≤ 1000 * 7 := ⟨Int.mul_nonneg (by omega) (by omega), Int.mul_le_mul (by omega) (by omega) (by omega) (by omega)⟩
 rw [w64_id (n := p.Columns - 1) (by omega) (by omega), w64_id (n := p.Gap * (p.Columns - 1)) (by omega) (by omega), w64_id (n := p.Width - p.Gap * (p.Columns - 1)) (by omega) (by omega)]
 have h2 : -100000 ≤ Int.tdiv (p.Width - p.Gap * (p.Columns - 1)) p.Columns ∧ Int.tdiv (p.Width - p.Gap * (p.Columns - 1)) p.Columns ≤ 100000 := by
  have hn : -7000 ≤ p.Width - p.Gap * (p.Columns - 1) ∧ p.Width - p.Gap * (p.Columns - 1) ≤ 100000 := by omega
  generalize p.Width - p.Gap * (p.Columns - 1) = n at hn ⊢
  rcases Int.le_total 0 n with h | h
  ·have e := Int.tdiv_eq_ediv_of_nonneg (b := p.Columns) h
   rw [e]
   have := Int.ediv_nonneg h (show 0 ≤ p.Columns by omega)
   have := Int.ediv_le_self p.Columns h
   omega
  ·have e : Int.tdiv n p.Columns = -(Int.tdiv (-n) p.Columns) := by rw [Int.neg_tdiv]; omega
   have e2 := Int.tdiv_eq_ediv_of_nonneg (b := p.Columns) (show 0 ≤ -n by omega)
   have := Int.ediv_nonneg (show 0 ≤ -n by omega) (show 0 ≤ p.Columns by omega)
   have := Int.ediv_le_self p.Columns (show 0 ≤ -n by omega)
   omega
 rw [w64_id (n := Int.tdiv (p.Width - p.Gap * (p.Columns - 1)) p.Columns) (by omega) (by omega)]
 rfl
theorem column40 {p : api_Paper} (c : 1 ≤ p.Columns ∧ p.Columns ≤ 8) (g : 0 ≤ p.Gap ∧ p.Gap ≤ 1000) (w : 1 ≤ p.Width ∧ p.Width ≤ 100000) : pages_sheet_column ⟨p⟩ = some (colW p) := by
 unfold pages_sheet_column
 rw [if_pos (show p.Columns ≠ 0 by omega), col_eq c g w]
theorem rcolumn40 {p : api_Paper} (c : 1 ≤ p.Columns ∧ p.Columns ≤ 8) (g : 0 ≤ p.Gap ∧ p.Gap ≤ 1000) (w : 1 ≤ p.Width ∧ p.Width ≤ 100000) : formeref40_Column p = some (colW p) := by
 unfold formeref40_Column
 rw [if_pos (show p.Columns ≠ 0 by omega), col_eq c g w]
theorem reader03 (r : api_Reader) : formeref03_Reader r = some (decide (((((0 ≤ r.Lang ∧ r.Lang < 4) ∧ 50 ≤ r.Scale) ∧ r.Scale ≤ 300) ∧ 200 ≤ r.Width) ∧ r.Width ≤ 4000)) := by
 unfold formeref03_Reader
 simp only [and_some, some_bind, decide_eq_true_eq]
theorem paper_mk (p : api_Paper) : ∃ b, formeref40_Paper p = some b ∧ (b = true → Pok p) := by
 unfold formeref40_Paper
 simp only [in_mk, some_bind]
 by_cases c : 1 ≤ p.Columns ∧ p.Columns ≤ 8
 ·by_cases g : 0 ≤ p.Gap ∧ p.Gap ≤ 1000
  ·by_cases w : 1 ≤ p.Width ∧ p.Width ≤ 100000
   ·by_cases h : 1 ≤ p.Height ∧ p.Height ≤ 1000000
    ·refine ⟨_, by
      unfold formeref40_Reader
      simp only [c, g, w, h, and_self, decide_true, Bool.not_true, Bool.false_eq_true, if_false, some_bind, rcolumn40 c g w, reader03]
      rfl, fun hb => ?_⟩
     have := of_decide_eq_true hb
     exact ⟨c, g, w, h, ⟨this.1.2, this.2⟩, ⟨this.1.1.1.2, this.1.1.2⟩, this.1.1.1.1⟩
    ·exact ⟨false, by simp [c, g, w, h], fun hb => by cases hb⟩
   ·exact ⟨false, by simp [c, g, w], fun hb => by cases hb⟩
  ·exact ⟨false, by simp [c, g], fun hb => by cases hb⟩
 ·exact ⟨false, by simp [c], fun hb => by cases hb⟩
theorem sheet_ok {p : api_Paper} (h : Pok p) : pages_sheet_valid ⟨p⟩ = some true := by
 have hc := h.c
 have hg := h.g
 have hw := h.w
 have hh := h.h
 have hcol := h.col
 have hsc := h.sc
 have hl := h.lang
 have hz : zone_Valid [] = some true := by
  unfold zone_Valid slices_ContainsFunc_api_Zone_k1 slices_IndexFunc_api_Zone_k1
  have : slices_IndexFunc_api_Zone_k1_l22 [] 0 = some (.inr ()) := by rw [slices_IndexFunc_api_Zone_k1_l22, if_neg (by decide)]
  rw [this]; rfl
 have hz2 : slices_ContainsFunc_api_Zone_k2 [] ⟨colW p, p.Scale, p.Lang⟩ = some false := by
  unfold slices_ContainsFunc_api_Zone_k2 slices_IndexFunc_api_Zone_k2
  have : slices_IndexFunc_api_Zone_k2_l25 [] ⟨colW p, p.Scale, p.Lang⟩ 0 = some (.inr ()) := by rw [slices_IndexFunc_api_Zone_k2_l25, if_neg (by decide)]
  rw [this]; rfl
 unfold pages_sheet_valid pages_sheet_reader pages_isReader zone_Has zone_one zone_valid zone_within
 simp only [within_mk, column40 hc hg hw, hz, hz2, some_bind]
 simp [hc, hg, hw, hh, hcol, hsc, hl]
structure Sl (s : api_Slice) : Prop where
 n : 1 ≤ s.Node ∧ s.Node ≤ 1000000
 t : 0 ≤ s.Table ∧ s.Table ≤ 1000000
 x : -1000000000 ≤ s.X ∧ s.X ≤ 1000000000
 y : -1000000000 ≤ s.Y ∧ s.Y ≤ 1000000000
 h : 0 ≤ s.H ∧ s.H ≤ 1000000
 tx : text_Valid s.Text = some true
structure Lok (l : List api_Slice) : Prop where
 len : l.length ≤ 60
 all : ∀ s ∈ l, Sl s
 up : ∀ (i : Nat) (h : i + 1 < l.length), (l[i]).Y ≤ (l[i + 1]).Y
theorem few_loop (l : List api_Slice) (hl : l.length ≤ 4611686018427387904) : ∀ (n i : Nat), l.length - i = n → i ≤ l.length → ∃ o, formeref40_Few_l22 l (i : Int) = some o := by
 intro n
 induction n with
 | zero => intro i hn hi; rw [formeref40_Few_l22, if_neg (by omega)]; exact ⟨_, rfl⟩
 | succ n ih =>
  intro i hn hi
  rw [formeref40_Few_l22, if_pos (by omega), if_pos ⟨by omega, by omega⟩, w64_id (n := (i : Int) + 1) (by omega) (by omega), add1]
  split
  ·exact ⟨_, rfl⟩
  ·exact ih (i + 1) (by omega) (by omega)
theorem few_mk (l : List api_Slice) (hl : l.length ≤ 4611686018427387904) : ∃ b, formeref40_Few l = some b ∧ (b = true → l.length ≤ 60) := by
 obtain ⟨o, ho⟩ := few_loop l hl _ 0 rfl (Nat.zero_le _)
 have ho' : formeref40_Few_l22 l 0 = some o := ho
 unfold formeref40_Few
 rw [ho', some_bind]
 cases o with
 | inl _ => exact ⟨false, rfl, fun h => by cases h⟩
 | inr _ => exact ⟨_, rfl, fun h => by have := of_decide_eq_true h; omega⟩
theorem text_both (s : ByteArray) (hs : s.size ≤ 9223372036854775807) : ∃ b, formeref06_Valid s = some b ∧ text_Valid s = some b := by
 obtain ⟨l, rfl⟩ : ∃ l : List UInt8, s = ⟨l.toArray⟩ := ⟨s.data.toList, (Lib.mk_data s).symm⟩
 rw [sz] at hs
 exact ⟨okS l, refValid_mk l hs, valid_mk l⟩
def sok (l : List api_Slice) (i : Nat) (b : Bool) : Bool :=
 let s := l.getD i z_api_Slice
 b && decide (1 ≤ s.Node ∧ s.Node ≤ 1000000) && decide (0 ≤ s.Table ∧ s.Table ≤ 1000000) && decide (-1000000000 ≤ s.X ∧ s.X ≤ 1000000000) && decide (-1000000000 ≤ s.Y ∧ s.Y ≤ 1000000000) && decide (0 ≤ s.H ∧ s.H ≤ 1000000) && decide (i = 0 ∨ (l.getD (i - 1) z_api_Slice).Y ≤ s.Y)
theorem right_step (l : List api_Slice) (hl : l.length ≤ 60) {i : Nat} (hlt : i < l.length) {b : Bool} (hb : formeref06_Valid (l[i]).Text = some b) :
  formeref40_Right_l27 l (i : Int) = if sok l i b = true then formeref40_Right_l27 l ((i + 1 : Nat) : Int) else some (.inl ()) := by
 have e : l.getD i z_api_Slice = l[i] := by simp [List.getD_eq_getElem?_getD, hlt]
 rw [formeref40_Right_l27, if_pos (by omega), if_pos ⟨by omega, by omega⟩, gd _ _ hlt, hb, some_bind, w64_id (n := (i : Int) + 1) (by omega) (by omega), add1]
 unfold sok
 rw [e]
 simp only [in_mk, coord_mk, some_bind]
 cases b
 ·simp
 ·by_cases c1 : 1 ≤ l[i].Node ∧ l[i].Node ≤ 1000000
  ·by_cases c2 : 0 ≤ l[i].Table ∧ l[i].Table ≤ 1000000
   ·by_cases c3 : -1000000000 ≤ l[i].X ∧ l[i].X ≤ 1000000000
    ·by_cases c4 : -1000000000 ≤ l[i].Y ∧ l[i].Y ≤ 1000000000
     ·by_cases c5 : 0 ≤ l[i].H ∧ l[i].H ≤ 1000000
      ·by_cases c6 : i = 0
       ·subst c6
        simp [c1, c2, c3, c4, c5]
       ·have e1 : w64 ((i : Int) - 1) = ((i - 1 : Nat) : Int) := by rw [w64_id (by omega) (by omega)]; omega
        have e2 : (0 : Int) < (i : Int) := by omega
        have e3 : l.getD (i - 1) z_api_Slice = l[i - 1]'(by omega) := by simp [List.getD_eq_getElem?_getD, show i - 1 < l.length by omega]
        have q : (0 : Int) ≤ ((i - 1 : Nat) : Int) ∧ ((i - 1 : Nat) : Int) < (l.length : Int) := ⟨by omega, by omega⟩
        rw [e1, gd _ _ (show i - 1 < l.length by omega), if_pos e2, if_pos q, e3]
        by_cases c7 : l[i].Y < (l[i - 1]'(by omega)).Y
        ·have c8 : ¬ (l[i - 1]'(by omega)).Y ≤ l[i].Y := by omega
         simp [c1, c2, c3, c4, c5, c6, c7, c8]
        ·have c8 : (l[i - 1]'(by omega)).Y ≤ l[i].Y := by omega
         simp [c1, c2, c3, c4, c5, c6, c7, c8]
      ·simp [c1, c2, c3, c4, c5]
     ·simp [c1, c2, c3, c4]
    ·simp [c1, c2, c3]
   ·simp [c1, c2]
  ·simp [c1]
theorem areC (a b : Int) : pages_areCoords [a, b] = some (decide (-1000000000 ≤ a ∧ a ≤ 1000000000) && decide (-1000000000 ≤ b ∧ b ≤ 1000000000)) := by
 have w1 : w64 (0 + 1) = 1 := w64_id (by decide) (by decide)
 have w2 : w64 (1 + 1) = 2 := w64_id (by decide) (by decide)
 have l2 : slices_IndexFunc_int_k1_l22 [a, b] 2 = some (.inr ()) := by rw [slices_IndexFunc_int_k1_l22, if_neg (by simp)]
 have l1 : slices_IndexFunc_int_k1_l22 [a, b] 1 = some (if -1000000000 ≤ b ∧ b ≤ 1000000000 then .inr () else .inl 1) := by
  rw [slices_IndexFunc_int_k1_l22, if_pos (by simp), if_pos (by simp), w2, l2]
  have e : ([a, b] : List Int).getD (Int.toNat 1) 0 = b := rfl
  unfold pages_areCoords_1
  rw [e, within_mk]
  by_cases c : -1000000000 ≤ b ∧ b ≤ 1000000000 <;> simp [c]
 have l0 : slices_IndexFunc_int_k1_l22 [a, b] 0 = some (if -1000000000 ≤ a ∧ a ≤ 1000000000 then (if -1000000000 ≤ b ∧ b ≤ 1000000000 then .inr () else .inl 1) else .inl 0) := by
  rw [slices_IndexFunc_int_k1_l22, if_pos (by simp), if_pos (by simp), w1, l1]
  have e : ([a, b] : List Int).getD (Int.toNat 0) 0 = a := rfl
  unfold pages_areCoords_1
  rw [e, within_mk]
  by_cases c : -1000000000 ≤ a ∧ a ≤ 1000000000 <;> simp [c]
 unfold pages_areCoords slices_ContainsFunc_int_k1 slices_IndexFunc_int_k1
 rw [l0]
 by_cases c : -1000000000 ≤ a ∧ a ≤ 1000000000
 ·by_cases d : -1000000000 ≤ b ∧ b ≤ 1000000000 <;> simp [c, d]
 ·simp [c]
theorem right_loop (l : List api_Slice) (hl : l.length ≤ 60) (ht : ∀ s ∈ l, s.Text.size ≤ 9223372036854775807) : ∀ (n i : Nat), l.length - i = n → i ≤ l.length →
  ∃ o, formeref40_Right_l27 l (i : Int) = some o ∧ (o = .inr () → ∀ (j : Nat) (h : j < l.length), i ≤ j → Sl l[j] ∧ (j = 0 ∨ (l.getD (j - 1) z_api_Slice).Y ≤ l[j].Y)) := by
 intro n
 induction n with
 | zero => intro i hn hi; rw [formeref40_Right_l27, if_neg (by omega)]; exact ⟨_, rfl, fun _ j h hj => by omega⟩
 | succ n ih =>
  intro i hn hi
  have hlt : i < l.length := by omega
  obtain ⟨b, hb, hb2⟩ := text_both _ (ht _ (List.getElem_mem hlt))
  rw [right_step l hl hlt hb]
  by_cases h : sok l i b = true
  ·rw [if_pos h]
   obtain ⟨o, ho, hall⟩ := ih (i + 1) (by omega) (by omega)
   refine ⟨o, ho, fun e j hj hij => ?_⟩
   by_cases hji : j = i
   ·subst hji
    have e0 : l.getD j z_api_Slice = l[j] := by simp [List.getD_eq_getElem?_getD, hj]
    unfold sok at h
    rw [e0] at h
    simp only [Bool.and_eq_true, decide_eq_true_eq] at h
    obtain ⟨⟨⟨⟨⟨⟨h0, h1⟩, h2⟩, h3⟩, h4⟩, h5⟩, h6⟩ := h
    subst h0
    exact ⟨⟨h1, h2, h3, h4, h5, hb2⟩, h6⟩
   ·exact hall e j hj (by omega)
  ·rw [if_neg h]
   exact ⟨_, rfl, fun e => by cases e⟩
theorem right_mk (l : List api_Slice) (keep : List Bool) (hl : l.length ≤ 60) (ht : ∀ s ∈ l, s.Text.size ≤ 9223372036854775807) :
  ∃ b, formeref40_Right l keep = some b ∧ (b = true → Lok l ∧ keep.length = l.length) := by
 obtain ⟨o, ho, hall⟩ := right_loop l hl ht _ 0 rfl (Nat.zero_le _)
 have ho' : formeref40_Right_l27 l 0 = some o := ho
 unfold formeref40_Right
 rw [ho', some_bind]
 cases o with
 | inl _ => exact ⟨false, rfl, fun h => by cases h⟩
 | inr _ =>
  refine ⟨decide ((l.length : Int) ≤ 10000 ∧ (keep.length : Int) = (l.length : Int)), by simp only [and_some, some_bind], fun h => ?_⟩
  have := of_decide_eq_true h
  refine ⟨⟨hl, fun s hs => ?_, fun i hi => ?_⟩, by omega⟩
  ·obtain ⟨j, hj, rfl⟩ := List.getElem_of_mem hs
   exact (hall rfl j hj (Nat.zero_le _)).1
  ·rcases (hall rfl (i + 1) hi (Nat.zero_le _)).2 with h | h
   ·omega
   ·simpa [List.getD_eq_getElem?_getD, show i < l.length by omega] using h
theorem usable40 (p : api_Paper) (l : List api_Slice) (keep : List Bool) (hl : l.length ≤ 4611686018427387904) (ht : ∀ s ∈ l, s.Text.size ≤ 9223372036854775807) :
  ∃ b, formelaw40_usable p l keep = some b ∧ (b = true → Pok p ∧ Lok l ∧ keep.length = l.length) := by
 obtain ⟨b1, h1, g1⟩ := few_mk l hl
 obtain ⟨b2, h2, g2⟩ := paper_mk p
 unfold formelaw40_usable
 rw [h1, some_bind]
 cases b1
 ·exact ⟨false, rfl, fun h => by cases h⟩
 ·obtain ⟨b3, h3, g3⟩ := right_mk l keep (g1 rfl) ht
  rw [if_pos rfl, h2]
  cases b2
  ·exact ⟨false, rfl, fun h => by cases h⟩
  ·refine ⟨b3, by simp only [some_bind, if_true, h3], fun h => ⟨g2 rfl, g3 h⟩⟩
theorem can_loop (l : List api_Slice) (h : Lok l) : ∀ (n i : Nat), l.length - i = n → i ≤ l.length → pages_canBreak_l41 l (i : Int) = some (.inr ()) := by
 have hl := h.len
 intro n
 induction n with
 | zero => intro i hn hi; rw [pages_canBreak_l41, if_neg (by omega)]
 | succ n ih =>
  intro i hn hi
  have hlt : i < l.length := by omega
  have S := h.all _ (List.getElem_mem hlt)
  have s1 := S.n
  have s2 := S.t
  have s3 := S.x
  have s4 := S.y
  have s5 := S.h
  rw [pages_canBreak_l41, if_pos (by omega), if_pos ⟨by omega, by omega⟩, gd _ _ hlt, w64_id (n := (i : Int) + 1) (by omega) (by omega), add1, ih (i + 1) (by omega) (by omega)]
  simp only [within_mk, areC, S.tx, some_bind, s1, s2, s3, s4, s5, and_self, decide_true, Bool.and_self, Bool.not_true, Bool.false_eq_true, if_false]
  by_cases c6 : i = 0
  ·subst c6
   simp
  ·have e1 : w64 ((i : Int) - 1) = ((i - 1 : Nat) : Int) := by rw [w64_id (by omega) (by omega)]; omega
   have e2 : (0 : Int) < (i : Int) := by omega
   have hu := h.up (i - 1) (by omega)
   have e4 : (l[i - 1 + 1]'(by omega)) = l[i] := by congr 1; omega
   rw [e4] at hu
   have c7 : ¬ l[i].Y < (l[i - 1]'(by omega)).Y := by omega
   rw [e1, gd _ _ (show i - 1 < l.length by omega), if_pos e2, if_pos ⟨by omega, by omega⟩, decide_eq_false c7]
   simp
theorem can_ok {l : List api_Slice} {keep : List Bool} (h : Lok l) (hk : keep.length = l.length) : pages_canBreak l keep = some true := by
 have hl := h.len
 have hc : pages_canBreak_l41 l 0 = some (.inr ()) := can_loop l h _ 0 rfl (Nat.zero_le _)
 unfold pages_canBreak
 rw [if_neg (by omega), hc]
 have : ¬ ¬ (keep.length : Int) = (l.length : Int) := by omega
 rw [decide_eq_false this]
 rfl
end Go.Proofs.Ytlcfemplcaejgaa.LG
namespace Go.Proofs.Ytlcfemplcaejgaa.LG
open Go Go.LG Go.Lib

def sumH (l : List api_Slice) : Int := (l.map (·.H)).sum
theorem sumH_ok {l : List api_Slice} (h : ∀ s ∈ l, 0 ≤ s.H ∧ s.H ≤ 1000000) : 0 ≤ sumH l ∧ sumH l ≤ 1000000 * (l.length : Int) := by
 induction l with
 | nil => exact ⟨Int.le_refl _, Int.le_refl _⟩
 | cons s l ih =>
  have h1 := h s (List.mem_cons_self ..)
  have h2 := ih fun x hx => h x (List.mem_cons_of_mem _ hx)
  unfold sumH at *
  rw [List.map_cons, List.sum_cons, List.length_cons]
  push_cast
  omega
theorem sum_loop (l : List api_Slice) (hl : l.length ≤ 1000000) (h : ∀ s ∈ l, 0 ≤ s.H ∧ s.H ≤ 1000000) : ∀ (n i : Nat) (acc : Int), l.length - i = n → i ≤ l.length → 0 ≤ acc → acc ≤ 1000000 * (i : Int) →
  pages_sum_l26 l acc (i : Int) = some (acc + sumH (l.drop i)) := by
 intro n
 induction n with
 | zero =>
  intro i acc hn hi h0 h1
  rw [pages_sum_l26, if_neg (by omega), List.drop_eq_nil_of_le (by omega)]
  show some acc = some (acc + 0)
  rw [Int.add_zero]
 | succ n ih =>
  intro i acc hn hi h0 h1
  have hlt : i < l.length := by omega
  have hs := h _ (List.getElem_mem hlt)
  rw [pages_sum_l26, if_pos (by omega), if_pos ⟨by omega, by omega⟩, gd _ _ hlt, w64_id (n := (i : Int) + 1) (by omega) (by omega), add1, w64_id (n := acc + l[i].H) (by omega) (by omega), ih (i + 1) _ (by omega) (by omega) (by omega) (by push_cast; omega), List.drop_eq_getElem_cons hlt]
  unfold sumH
  rw [List.map_cons, List.sum_cons]
  congr 1
  omega
theorem sum_mk {l : List api_Slice} (hl : l.length ≤ 1000000) (h : ∀ s ∈ l, 0 ≤ s.H ∧ s.H ≤ 1000000) : pages_sum l = some (sumH l) := by
 have := sum_loop l hl h _ 0 0 rfl (Nat.zero_le _) (Int.le_refl _) (by simp)
 have h' : pages_sum_l26 l 0 0 = some (0 + sumH (l.drop 0)) := this
 unfold pages_sum
 rw [h', List.drop_zero, Int.zero_add]; rfl
def mvS (x dy : Int) (s : api_Slice) : api_Slice := ⟨s.Node, s.Table, s.X + x, s.Y + dy, s.H, s.Text, s.Head, s.Note⟩
def colX (p : api_Paper) (fills : List Int) : Int := ((fills.length : Int) - 1) * (colW p + p.Gap)
theorem colX_ok {p : api_Paper} (h : Pok p) {fills : List Int} (h1 : 1 ≤ fills.length) (h2 : fills.length ≤ 8) : 0 ≤ colX p fills ∧ colX p fills ≤ 7 * 5000 := by
 have hg := h.g
 have hc := h.col
 unfold colX
 exact ⟨Int.mul_nonneg (by omega) (by omega), Int.mul_le_mul (by omega) (by omega) (by omega) (by omega)⟩
theorem colX_w {p : api_Paper} (h : Pok p) {fills : List Int} (h1 : 1 ≤ fills.length) (h2 : fills.length ≤ 8) : w64 ((w64 ((fills.length : Int) - 1)) * (w64 (colW p + p.Gap))) = colX p fills := by
 have hg := h.g
 have hc := h.col
 have := colX_ok h h1 h2
 rw [w64_id (n := (fills.length : Int) - 1) (by omega) (by omega), w64_id (n := colW p + p.Gap) (by omega) (by omega)]
 exact w64_id (n := colX p fills) (by omega) (by omega)
theorem put_loop {p : api_Paper} (h : Pok p) (o : pages_open) (hs : o.sheet = ⟨p⟩) (h1 : 1 ≤ o.fills.length) (h2 : o.fills.length ≤ 8) (l : List api_Slice) (hl : l.length ≤ 1000000) (hS : ∀ s ∈ l, Sl s) {top y : Int} (ht : -1000000000 ≤ top ∧ top ≤ 1000000000) (hy : 0 ≤ y ∧ y ≤ 100000000000) :
  ∀ (n i : Nat) (acc : List api_Slice), l.length - i = n → i ≤ l.length → acc.length ≤ 1000000 + i →
  pages_open_put_k2_l271 o l top y (colW p) (i : Int) acc = some (acc ++ (l.drop i).map (mvS (colX p o.fills) (y - top))) := by
 intro n
 induction n with
 | zero => intro i acc hn hi ha; rw [pages_open_put_k2_l271, if_neg (by omega), List.drop_eq_nil_of_le (by omega)]; simp
 | succ n ih =>
  intro i acc hn hi ha
  have hlt : i < l.length := by omega
  have S := hS _ (List.getElem_mem hlt)
  have s3 := S.x
  have s4 := S.y
  have hx := colX_ok h h1 h2
  have hg : o.sheet.Paper.Gap = p.Gap := by rw [hs]
  rw [pages_open_put_k2_l271, if_pos (by omega), if_pos ⟨by omega, by omega⟩, if_pos (by omega), gd _ _ hlt, hg, colX_w h h1 h2, w64_id (n := (i : Int) + 1) (by omega) (by omega), add1,
   w64_id (n := l[i].X + colX p o.fills) (by omega) (by omega), w64_id (n := l[i].Y - top) (by omega) (by omega), w64_id (n := l[i].Y - top + y) (by omega) (by omega), ih (i + 1) _ (by omega) (by omega) (by simp; omega), List.drop_eq_getElem_cons hlt, List.map_cons]
  have e : mvS (colX p o.fills) (y - top) l[i] = ⟨l[i].Node, l[i].Table, l[i].X + colX p o.fills, l[i].Y - top + y, l[i].H, l[i].Text, l[i].Head, l[i].Note⟩ := by
   unfold mvS
   congr 1
   omega
  rw [e]
  simp
theorem put_mk {p : api_Paper} (h : Pok p) (o : pages_open) (hs : o.sheet = ⟨p⟩) (h1 : 1 ≤ o.fills.length) (h2 : o.fills.length ≤ 8) (hp : o.placed.length ≤ 1000000) (l : List api_Slice) (hl : l.length ≤ 1000000) (hS : ∀ s ∈ l, Sl s) {top y : Int} (ht : -1000000000 ≤ top ∧ top ≤ 1000000000) (hy : 0 ≤ y ∧ y ≤ 100000000000) :
  pages_open_put_k2 o l top y = some ⟨o.sheet, o.placed ++ l.map (mvS (colX p o.fills) (y - top)), o.notes, o.fills⟩ := by
 have hL := put_loop h o hs h1 h2 l hl hS ht hy _ 0 o.placed rfl (Nat.zero_le _) (by omega)
 have hL' : pages_open_put_k2_l271 o l top y (colW p) 0 o.placed = some (o.placed ++ (l.drop 0).map (mvS (colX p o.fills) (y - top))) := hL
 unfold pages_open_put_k2
 rw [hs, column40 h.c h.g h.w, some_bind, hL', List.drop_zero, some_bind]
structure Bok (b : pages_band) : Prop where
 ne : b.slices ≠ []
 sl : ∀ s ∈ b.slices, Sl s ∧ s.Note = false
 nt : ∀ s ∈ b.notes, Sl s ∧ s.Note = true
 len : b.slices.length ≤ 60
 len2 : b.notes.length ≤ 60
 en : b.end_ ≤ 1001000000
 top : ∀ s ∈ b.slices, (b.slices.getD 0 z_api_Slice).Y ≤ s.Y ∧ s.Y + s.H ≤ b.end_
def btop (b : pages_band) : Int := (b.slices.getD 0 z_api_Slice).Y
def bh (b : pages_band) : Int := b.end_ - btop b
theorem Bok.first {b : pages_band} (h : Bok b) : b.slices.getD 0 z_api_Slice ∈ b.slices := by
 have hp : 0 < b.slices.length := List.length_pos_iff.2 h.ne
 rw [List.getD_eq_getElem?_getD, List.getElem?_eq_getElem hp]
 exact List.getElem_mem hp
theorem Bok.ok {b : pages_band} (h : Bok b) : -1000000000 ≤ btop b ∧ btop b ≤ 1000000000 ∧ 0 ≤ bh b ∧ bh b ≤ 2001000000 := by
 have h1 := h.first
 have h2 := (h.sl _ h1).1
 have h3 := h.top _ h1
 have h4 := h2.y
 have h5 := h2.h
 have h6 := h.en
 unfold bh btop
 omega
theorem top_mk {b : pages_band} (h : Bok b) : pages_band_top b = some (btop b) := by
 have hp : 0 < b.slices.length := List.length_pos_iff.2 h.ne
 unfold pages_band_top
 rw [if_pos ⟨Int.le_refl _, by omega⟩]; rfl
theorem height_mk {b : pages_band} (h : Bok b) : pages_band_height b = some (bh b) := by
 have := h.ok
 unfold pages_band_height
 rw [top_mk h, some_bind]
 exact congrArg some (w64_id (n := bh b) (by omega) (by omega))
structure Ook (p : api_Paper) (o : pages_open) : Prop where
 sh : o.sheet = ⟨p⟩
 f1 : 1 ≤ o.fills.length
 f2 : (o.fills.length : Int) ≤ p.Columns
 fl : ∀ f ∈ o.fills, 0 ≤ f ∧ f ≤ 10000000000
 pl : o.placed.length ≤ 100000
 nl : o.notes.length ≤ 10000
 nt : ∀ s ∈ o.notes, Sl s ∧ s.Note = true
def lastF (l : List Int) : Int := l.getD (l.length - 1) 0
theorem lastF_mem {l : List Int} (h : 1 ≤ l.length) : lastF l ∈ l := by
 unfold lastF
 rw [List.getD_eq_getElem?_getD, List.getElem?_eq_getElem (show l.length - 1 < l.length by omega)]
 exact List.getElem_mem _
def addO (p : api_Paper) (o : pages_open) (b : pages_band) (y : Int) : pages_open := ⟨o.sheet, o.placed ++ b.slices.map (mvS (colX p o.fills) (y - btop b)), o.notes ++ b.notes, o.fills.set (o.fills.length - 1) (y + bh b)⟩
theorem add_mk {p : api_Paper} (h : Pok p) {o : pages_open} (O : Ook p o) {b : pages_band} (hb : Bok b) {y : Int} (hy : 0 ≤ y ∧ y ≤ 50000000000) : pages_open_add_k3 o b y = some (addO p o b y) := by
 have hc := h.c
 have f1 := O.f1
 have f2 := O.f2
 have h1 := hb.ok
 have h2 := hb.len
 have h3 := hb.len2
 have h4 := O.pl
 have h5 := O.nl
 unfold pages_open_add_k3
 rw [top_mk hb, some_bind, put_mk h o O.sh f1 (by omega) (by omega) b.slices (by omega) (fun s hs => (hb.sl s hs).1) ⟨h1.1, h1.2.1⟩ ⟨hy.1, by omega⟩, some_bind, height_mk hb, some_bind]
 have e : w64 ((o.fills.length : Int) - 1) = ((o.fills.length - 1 : Nat) : Int) := by rw [w64_id (by omega) (by omega)]; omega
 have q1 : (0 : Int) ≤ ((o.fills.length - 1 : Nat) : Int) ∧ ((o.fills.length - 1 : Nat) : Int) < (o.fills.length : Int) := ⟨by omega, by omega⟩
 have q2 : o.notes.length + b.notes.length ≤ 2199023255552 := by omega
 simp only [e, q1, q2, and_self, if_true, w64_id (n := y + bh b) (by omega) (by omega)]
 rfl
def hi (l : List Int) : Int := l.foldl max 0
theorem foldl_max (l : List Int) : ∀ a : Int, a ≤ l.foldl max a ∧ (∀ x ∈ l, x ≤ l.foldl max a) ∧ (l.foldl max a = a ∨ l.foldl max a ∈ l) := by
 induction l with
 | nil => intro a; exact ⟨Int.le_refl _, fun x h => (by cases h), .inl rfl⟩
 | cons b l ih =>
  intro a
  obtain ⟨h1, h2, h3⟩ := ih (max a b)
  rw [List.foldl_cons]
  refine ⟨by omega, fun x hx => ?_, ?_⟩
  ·rcases List.mem_cons.1 hx with rfl | hx
   ·omega
   ·exact h2 x hx
  ·rcases h3 with h3 | h3
   ·rw [h3]
    rcases Int.le_total a b with h | h
    ·exact .inr (by rw [Int.max_eq_right h]; exact List.mem_cons_self ..)
    ·exact .inl (Int.max_eq_left h)
   ·exact .inr (List.mem_cons_of_mem _ h3)
theorem hi_ok {l : List Int} (h : ∀ f ∈ l, 0 ≤ f ∧ f ≤ 10000000000) : 0 ≤ hi l ∧ hi l ≤ 10000000000 := by
 obtain ⟨h1, h2, h3⟩ := foldl_max l 0
 refine ⟨h1, ?_⟩
 rcases h3 with h3 | h3
 ·show l.foldl max 0 ≤ _; rw [h3]; decide
 ·exact (h _ h3).2
theorem hi_ge {l : List Int} {f : Int} (h : f ∈ l) : f ≤ hi l := (foldl_max l 0).2.1 f h
theorem high1_loop (o : pages_open) (hl : o.fills.length ≤ 1000000) : ∀ (n i : Nat) (m : Int), o.fills.length - i = n → i ≤ o.fills.length → pages_open_high_k1_l46 o m (i : Int) = some ((o.fills.drop i).foldl max m) := by
 intro n
 induction n with
 | zero => intro i m hn hi; rw [pages_open_high_k1_l46, if_neg (by omega), List.drop_eq_nil_of_le (by omega)]; rfl
 | succ n ih =>
  intro i m hn hi
  have hlt : i < o.fills.length := by omega
  rw [pages_open_high_k1_l46, if_pos (by omega), if_pos ⟨by omega, by omega⟩, gd _ _ hlt, w64_id (n := (i : Int) + 1) (by omega) (by omega), add1, ih (i + 1) _ (by omega) (by omega), List.drop_eq_getElem_cons hlt]
  rfl
theorem high2_loop (o : pages_open) (hl : o.fills.length ≤ 1000000) : ∀ (n i : Nat) (m : Int), o.fills.length - i = n → i ≤ o.fills.length → pages_open_high_k2_l44 o m (i : Int) = some ((o.fills.drop i).foldl max m) := by
 intro n
 induction n with
 | zero => intro i m hn hi; rw [pages_open_high_k2_l44, if_neg (by omega), List.drop_eq_nil_of_le (by omega)]; rfl
 | succ n ih =>
  intro i m hn hi
  have hlt : i < o.fills.length := by omega
  rw [pages_open_high_k2_l44, if_pos (by omega), if_pos ⟨by omega, by omega⟩, gd _ _ hlt, w64_id (n := (i : Int) + 1) (by omega) (by omega), add1, ih (i + 1) _ (by omega) (by omega), List.drop_eq_getElem_cons hlt]
  rfl
theorem high1 (o : pages_open) (hl : o.fills.length ≤ 1000000) : pages_open_high_k1 o = some (hi o.fills) := by
 have h : pages_open_high_k1_l46 o 0 0 = some ((o.fills.drop 0).foldl max 0) := high1_loop o hl _ 0 0 rfl (Nat.zero_le _)
 unfold pages_open_high_k1
 rw [h]; rfl
theorem high2 (o : pages_open) (hl : o.fills.length ≤ 1000000) : pages_open_high_k2 o = some (hi o.fills) := by
 have h : pages_open_high_k2_l44 o 0 0 = some ((o.fills.drop 0).foldl max 0) := high2_loop o hl _ 0 0 rfl (Nat.zero_le _)
 unfold pages_open_high_k2
 rw [h]; rfl
def takeO (p : api_Paper) (o : pages_open) (b : pages_band) (gap : Int) : Option pages_open :=
 let rest := p.Height - sumH o.notes - sumH b.notes
 if rest < hi o.fills then none
 else if lastF o.fills + gap + bh b ≤ rest then some (addO p o b (lastF o.fills + gap))
 else if (o.fills.length : Int) < p.Columns ∧ bh b ≤ rest then some (addO p ⟨o.sheet, o.placed, o.notes, o.fills ++ [0]⟩ b 0)
 else none
theorem take_mk {p : api_Paper} (h : Pok p) {o : pages_open} (O : Ook p o) {b : pages_band} (hb : Bok b) {gap : Int} (hg : 0 ≤ gap ∧ gap ≤ 10000000000) :
  pages_open_take_k1 o b gap = some (match takeO p o b gap with | some o' => (true, o') | none => (false, o)) := by
 have hc := h.c
 have hh := h.h
 have f1 := O.f1
 have f2 := O.f2
 have f3 := O.fl _ (lastF_mem f1)
 have h1 := hb.ok
 have h2 := hb.len2
 have h5 := O.nl
 have s1 := sumH_ok fun s hs => ((O.nt s hs).1).h
 have s2 := sumH_ok fun s hs => ((hb.nt s hs).1).h
 have hH := hi_ok O.fl
 have hsh : o.sheet.Paper = p := by rw [O.sh]
 have e : w64 ((o.fills.length : Int) - 1) = ((o.fills.length - 1 : Nat) : Int) := by rw [w64_id (by omega) (by omega)]; omega
 have e2 : o.fills.getD (Int.toNat ((o.fills.length - 1 : Nat) : Int)) 0 = lastF o.fills := rfl
 unfold pages_open_take_k1
 rw [sum_mk (by omega) (fun s hs => ((O.nt s hs).1).h), some_bind, sum_mk (by omega) (fun s hs => ((hb.nt s hs).1).h), some_bind, e, if_pos ⟨by omega, by omega⟩, high1 o (by omega), some_bind, height_mk hb, hsh, e2,
  w64_id (n := p.Height - sumH o.notes) (by omega) (by omega), w64_id (n := p.Height - sumH o.notes - sumH b.notes) (by omega) (by omega), w64_id (n := lastF o.fills + gap) (by omega) (by omega)]
 unfold takeO
 simp only [some_bind, w64_id (n := lastF o.fills + gap + bh b) (by omega) (by omega)]
 by_cases c1 : p.Height - sumH o.notes - sumH b.notes < hi o.fills
 ·simp only [c1, if_true, some_bind]
 ·simp only [c1, if_false, some_bind]
  by_cases c2 : lastF o.fills + gap + bh b ≤ p.Height - sumH o.notes - sumH b.notes
  ·simp only [c2, if_true, some_bind]
   rw [add_mk h O hb (by omega), some_bind]
   rfl
  ·simp only [c2, if_false, some_bind, and_some]
   by_cases c3 : (o.fills.length : Int) < p.Columns ∧ bh b ≤ p.Height - sumH o.notes - sumH b.notes
   ·have O2 : Ook p ⟨o.sheet, o.placed, o.notes, o.fills ++ [0]⟩ := ⟨O.sh, by simp, by simp; omega, fun f hf => by
     rcases List.mem_append.1 hf with hf | hf
     ·exact O.fl f hf
     ·rw [List.mem_singleton.1 hf]; decide, O.pl, O.nl, O.nt⟩
    rw [decide_eq_true c3, if_pos rfl, if_pos (by omega), add_mk h O2 hb ⟨Int.le_refl _, by decide⟩, if_pos c3, some_bind]
    rfl
   ·rw [decide_eq_false c3, if_neg (by decide), if_neg c3]
    rfl
def notesAt : Int → List api_Slice → List api_Slice
 | _, [] => []
 | y, s :: l => ⟨s.Node, s.Table, s.X, y, s.H, s.Text, s.Head, s.Note⟩ :: notesAt (y + s.H) l
def closeO (o : pages_open) (p : api_Paper) : List api_Slice := o.placed ++ notesAt (max (p.Height - sumH o.notes) (hi o.fills)) o.notes
theorem close1_loop (o : pages_open) (hl : o.notes.length ≤ 10000) (hS : ∀ s ∈ o.notes, Sl s ∧ s.Note = true) : ∀ (n i : Nat) (y : Int) (acc : List api_Slice), o.notes.length - i = n → i ≤ o.notes.length → -100000000000 ≤ y ∧ y ≤ 100000000000 + 1000000 * (i : Int) → acc.length ≤ 1000000 + i →
  pages_open_close_k1_l494 o y (i : Int) acc = some (acc ++ notesAt y (o.notes.drop i)) := by
 intro n
 induction n with
 | zero => intro i y acc hn hi hy ha; rw [pages_open_close_k1_l494, if_neg (by omega), List.drop_eq_nil_of_le (by omega)]; simp [notesAt]
 | succ n ih =>
  intro i y acc hn hi hy ha
  have hlt : i < o.notes.length := by omega
  have S := (hS _ (List.getElem_mem hlt)).1.h
  rw [pages_open_close_k1_l494, if_pos (by omega), if_pos ⟨by omega, by omega⟩, if_pos (by omega), gd _ _ hlt, w64_id (n := (i : Int) + 1) (by omega) (by omega), add1, w64_id (n := y + o.notes[i].H) (by omega) (by omega), ih (i + 1) _ _ (by omega) (by omega) (by push_cast; omega) (by simp; omega), List.drop_eq_getElem_cons hlt]
  simp [notesAt]
theorem close2_loop (o : pages_open) (hl : o.notes.length ≤ 10000) (hS : ∀ s ∈ o.notes, Sl s ∧ s.Note = true) : ∀ (n i : Nat) (y : Int) (acc : List api_Slice), o.notes.length - i = n → i ≤ o.notes.length → -100000000000 ≤ y ∧ y ≤ 100000000000 + 1000000 * (i : Int) → acc.length ≤ 1000000 + i →
  pages_open_close_k2_l490 o y (i : Int) acc = some (acc ++ notesAt y (o.notes.drop i)) := by
 intro n
 induction n with
 | zero => intro i y acc hn hi hy ha; rw [pages_open_close_k2_l490, if_neg (by omega), List.drop_eq_nil_of_le (by omega)]; simp [notesAt]
 | succ n ih =>
  intro i y acc hn hi hy ha
  have hlt : i < o.notes.length := by omega
  have S := (hS _ (List.getElem_mem hlt)).1.h
  rw [pages_open_close_k2_l490, if_pos (by omega), if_pos ⟨by omega, by omega⟩, if_pos (by omega), gd _ _ hlt, w64_id (n := (i : Int) + 1) (by omega) (by omega), add1, w64_id (n := y + o.notes[i].H) (by omega) (by omega), ih (i + 1) _ _ (by omega) (by omega) (by push_cast; omega) (by simp; omega), List.drop_eq_getElem_cons hlt]
  simp [notesAt]
theorem close_y {p : api_Paper} (h : Pok p) {o : pages_open} (O : Ook p o) : pages_sum o.notes = some (sumH o.notes) ∧ max (w64 (o.sheet.Paper.Height - sumH o.notes)) (hi o.fills) = max (p.Height - sumH o.notes) (hi o.fills) ∧ -100000000000 ≤ max (p.Height - sumH o.notes) (hi o.fills) ∧ max (p.Height - sumH o.notes) (hi o.fills) ≤ 100000000000 := by
 have hh := h.h
 have h5 := O.nl
 have s1 := sumH_ok fun s hs => ((O.nt s hs).1).h
 have hH := hi_ok O.fl
 have hsh : o.sheet.Paper = p := by rw [O.sh]
 refine ⟨sum_mk (by omega) (fun s hs => ((O.nt s hs).1).h), ?_, by omega, by omega⟩
 rw [hsh, w64_id (by omega) (by omega)]
theorem close1 {p : api_Paper} (h : Pok p) {o : pages_open} (O : Ook p o) (n : Int) : pages_open_close_k1 o n = some ⟨n, closeO o p⟩ := by
 obtain ⟨h1, h2, h3⟩ := close_y h O
 have hc := h.c
 have f2 := O.f2
 have hL := close1_loop o O.nl O.nt _ 0 (max (p.Height - sumH o.notes) (hi o.fills)) o.placed rfl (Nat.zero_le _) ⟨h3.1, by simp; exact h3.2⟩ (by have := O.pl; omega)
 have hL' : pages_open_close_k1_l494 o (max (p.Height - sumH o.notes) (hi o.fills)) 0 o.placed = some (o.placed ++ notesAt (max (p.Height - sumH o.notes) (hi o.fills)) (o.notes.drop 0)) := hL
 unfold pages_open_close_k1
 rw [h1, some_bind, high1 o (by omega), some_bind, h2, hL', List.drop_zero]
 rfl
theorem close2 {p : api_Paper} (h : Pok p) {o : pages_open} (O : Ook p o) (n : Int) : pages_open_close_k2 o n = some ⟨n, closeO o p⟩ := by
 obtain ⟨h1, h2, h3⟩ := close_y h O
 have hc := h.c
 have f2 := O.f2
 have hL := close2_loop o O.nl O.nt _ 0 (max (p.Height - sumH o.notes) (hi o.fills)) o.placed rfl (Nat.zero_le _) ⟨h3.1, by simp; exact h3.2⟩ (by have := O.pl; omega)
 have hL' : pages_open_close_k2_l490 o (max (p.Height - sumH o.notes) (hi o.fills)) 0 o.placed = some (o.placed ++ notesAt (max (p.Height - sumH o.notes) (hi o.fills)) (o.notes.drop 0)) := hL
 unfold pages_open_close_k2
 rw [h1, some_bind, high2 o (by omega), some_bind, h2, hL', List.drop_zero]
 rfl
end Go.Proofs.Ytlcfemplcaejgaa.LG
namespace Go.Proofs.Ytlcfemplcaejgaa.LG
open Go Go.LG Go.Lib

structure BSt where
 last : Bool
 ss : List api_Slice
 ns : List api_Slice
 en : Int
def bandsF : BSt → List (api_Slice × Bool) → List pages_band
 | st, [] => if st.ss = [] ∧ st.ns = [] then [] else [⟨st.ss, st.ns, st.en⟩]
 | st, (s, k) :: r =>
  if s.Note = true then bandsF ⟨st.last, st.ss, st.ns ++ [s], st.en⟩ r
  else if st.ss ≠ [] ∧ st.en ≤ s.Y ∧ st.last = false then ⟨st.ss, st.ns, st.en⟩ :: bandsF ⟨k, [s], [], s.Y + s.H⟩ r
  else if st.ss = [] then bandsF ⟨k, [s], st.ns, s.Y + s.H⟩ r
  else bandsF ⟨k, st.ss ++ [s], st.ns, max st.en (s.Y + s.H)⟩ r
def foldB {σ : Type} (φ : σ → pages_band → Option (σ × Bool)) : σ → List pages_band → Option σ
 | s, [] => some s
 | s, b :: r => φ s b >>= fun x => if x.2 = true then foldB φ x.1 r else some x.1
def finB {σ : Type} (φ : σ → pages_band → Option (σ × Bool)) (o : Sum (List api_Slice × List api_Slice × Int × σ) (List api_Slice × List api_Slice × Int × σ)) : Option σ :=
 match o with
 | (Sum.inl (v76, v83, v90, v92)) => some v92
 | (Sum.inr (v94, v101, v108, v110)) => (if 0 < (w64 ((v94.length : Int) + (v101.length : Int))) then (φ v110 (⟨v94, v101, v108⟩ : pages_band) >>= fun (s478, b479) => some s478) else some v110)
theorem bands_loop {σ : Type} (φ : σ → pages_band → Option (σ × Bool)) {l : List api_Slice} (h : Lok l) {keep : List Bool} (hk : keep.length = l.length) : ∀ (n i : Nat) (st : BSt) (s : σ), l.length - i = n → i ≤ l.length → st.ss.length ≤ i → st.ns.length ≤ i →
  (pages_bands_1_k1_l75 φ l keep st.last (i : Int) st.ss st.ns st.en s >>= finB φ) = foldB φ s (bandsF st ((l.zip keep).drop i)) := by
 have hl := h.len
 intro n
 induction n with
 | zero =>
  intro i st s hn hi h1 h2
  rw [pages_bands_1_k1_l75, if_neg (by omega), List.drop_eq_nil_of_le (by simp; omega), some_bind]
  unfold finB bandsF
  simp only
  by_cases c : st.ss = [] ∧ st.ns = []
  ·rw [if_pos c, c.1, c.2]
   rfl
  ·have hp : 0 < (st.ss.length : Int) + (st.ns.length : Int) := by
    rcases Nat.eq_zero_or_pos st.ss.length with e | e
    ·rcases Nat.eq_zero_or_pos st.ns.length with e' | e'
     ·exact absurd ⟨List.eq_nil_of_length_eq_zero e, List.eq_nil_of_length_eq_zero e'⟩ c
     ·omega
    ·omega
   rw [if_neg c, w64_id (by omega) (by omega), if_pos hp]
   unfold foldB
   cases φ s ⟨st.ss, st.ns, st.en⟩ with
   | none => rfl
   | some x => cases hx : x.2 <;> simp [foldB, hx]
 | succ n ih =>
  intro i st s hn hi h1 h2
  have hlt : i < l.length := by omega
  have hlk : i < keep.length := by omega
  have S := h.all _ (List.getElem_mem hlt)
  have s4 := S.y
  have s5 := S.h
  have hz : (l.zip keep).drop i = (l[i], keep[i]) :: (l.zip keep).drop (i + 1) := by
   rw [List.drop_eq_getElem_cons (by simp; omega)]
   simp
  have q : (0 : Int) ≤ (i : Int) ∧ (i : Int) < (l.length : Int) := ⟨by omega, by omega⟩
  have q2 : (0 : Int) ≤ (i : Int) ∧ (i : Int) < (keep.length : Int) := ⟨by omega, by omega⟩
  have q3 : st.ns.length + 1 ≤ 2199023255552 := by omega
  have q4 : st.ss.length + 1 ≤ 2199023255552 := by omega
  have q5 : ([] : List api_Slice).length + 1 ≤ 2199023255552 := by simp
  have ek : keep.getD (Int.toNat (i : Int)) false = keep[i] := gd _ _ hlk
  have em : max l[i].Y (l[i].Y + l[i].H) = l[i].Y + l[i].H := by omega
  rw [hz, pages_bands_1_k1_l75, if_pos q.2, w64_id (n := (i : Int) + 1) (by omega) (by omega), add1 i]
  unfold bandsF
  simp only [if_pos q, if_pos q2, if_pos q3, if_pos q4, gd _ _ hlt, ek, w64_id (n := l[i].Y + l[i].H) (by omega) (by omega), em, List.length_nil]
  by_cases c1 : l[i].Note = true
  ·rw [if_pos c1, if_pos c1, some_bind]
   exact ih (i + 1) ⟨st.last, st.ss, st.ns ++ [l[i]], st.en⟩ s (by omega) (by omega) (by simp; omega) (by simp; omega)
  ·rw [if_neg c1, if_neg c1]
   have e1 : (0 : Int) < (st.ss.length : Int) ↔ st.ss ≠ [] := by
    constructor
    ·intro h e; rw [e] at h; simp at h
    ·intro h; have := List.length_pos_iff.2 h; omega
   by_cases c2 : st.ss = []
   ·have c3 : ¬ (0 : Int) < (st.ss.length : Int) := by rw [e1]; simpa using c2
    have c4 : (st.ss.length : Int) = 0 := by omega
    have c5 : ¬ (st.ss ≠ [] ∧ st.en ≤ l[i].Y ∧ st.last = false) := fun h => h.1 c2
    have := ih (i + 1) ⟨keep[i], [l[i]], st.ns, l[i].Y + l[i].H⟩ s (by omega) (by omega) (by simp) (by simp; omega)
    rw [if_neg c3, if_neg c5, if_pos c2, ← this, c2]
    simp
   ·have c3 : (0 : Int) < (st.ss.length : Int) := e1.2 c2
    have c4 : ¬ (st.ss.length : Int) = 0 := by omega
    by_cases c5 : st.en ≤ l[i].Y ∧ st.last = false
    ·have c6 : st.ss ≠ [] ∧ st.en ≤ l[i].Y ∧ st.last = false := ⟨c2, c5⟩
     rw [if_pos c3, if_pos c6]
     simp only [c5.1, c5.2, decide_true, some_bind, if_true, Bool.not_false]
     unfold foldB
     cases hφ : φ s ⟨st.ss, st.ns, st.en⟩ with
     | none => rfl
     | some x =>
      obtain ⟨s', b⟩ := x
      cases b
      ·rfl
      ·have := ih (i + 1) ⟨keep[i], [l[i]], [], l[i].Y + l[i].H⟩ s' (by omega) (by omega) (by simp) (by simp)
       simp only [some_bind, if_true]
       rw [← this]
       simp
    ·have c6 : ¬ (st.ss ≠ [] ∧ st.en ≤ l[i].Y ∧ st.last = false) := fun h => c5 h.2
     have := ih (i + 1) ⟨keep[i], st.ss ++ [l[i]], st.ns, max st.en (l[i].Y + l[i].H)⟩ s (by omega) (by omega) (by simp; omega) (by simp; omega)
     rw [if_pos c3, if_neg c6, if_neg c2, ← this, some_bind]
     by_cases c7 : st.en ≤ l[i].Y
     ·have c8 : st.last = true := by
       cases e : st.last
       ·exact absurd ⟨c7, e⟩ c5
       ·rfl
      simp [c7, c8, c2]
     ·simp [c7, c2]
theorem bands_fold {σ : Type} (φ : σ → pages_band → Option (σ × Bool)) (s : σ) {l : List api_Slice} (h : Lok l) {keep : List Bool} (hk : keep.length = l.length) :
  pages_bands_1_k1 φ s l keep = foldB φ s (bandsF ⟨false, [], [], 0⟩ (l.zip keep)) := by
 have := bands_loop φ h hk _ 0 ⟨false, [], [], 0⟩ s rfl (Nat.zero_le _) (Nat.le_refl _) (Nat.le_refl _)
 rw [List.drop_zero] at this
 exact this
structure BI (st : BSt) (r : List (api_Slice × Bool)) : Prop where
 sl : ∀ s ∈ st.ss, Sl s ∧ s.Note = false
 nt : ∀ s ∈ st.ns, Sl s ∧ s.Note = true
 len : st.ss.length + st.ns.length + r.length ≤ 60
 en : st.en ≤ 1001000000
 top : ∀ s ∈ st.ss, (st.ss.getD 0 z_api_Slice).Y ≤ s.Y ∧ s.Y + s.H ≤ st.en
 rest : ∀ x ∈ r, Sl x.1
 up : ∀ x ∈ r, ∀ s ∈ st.ss, s.Y ≤ x.1.Y
 sorted : r.Pairwise fun x y => x.1.Y ≤ y.1.Y
theorem getD0_app {α : Type} (l : List α) (x d : α) (h : l ≠ []) : (l ++ [x]).getD 0 d = l.getD 0 d := by
 cases l with
 | nil => exact absurd rfl h
 | cons a l => rfl
theorem BI.step {st : BSt} {s : api_Slice} {k : Bool} {r : List (api_Slice × Bool)} (h : BI st ((s, k) :: r)) :
  (s.Note = true → BI ⟨st.last, st.ss, st.ns ++ [s], st.en⟩ r) ∧
  (s.Note = false → BI ⟨k, [s], [], s.Y + s.H⟩ r ∧ (st.ss = [] → BI ⟨k, [s], st.ns, s.Y + s.H⟩ r) ∧ (st.ss ≠ [] → BI ⟨k, st.ss ++ [s], st.ns, max st.en (s.Y + s.H)⟩ r)) := by
 have hs : Sl s := h.rest (s, k) (List.mem_cons_self ..)
 have hl := h.len
 have hp := List.pairwise_cons.1 h.sorted
 have hen := h.en
 simp only [List.length_cons] at hl
 refine ⟨fun hn => ⟨h.sl, fun x hx => ?_, by simp; omega, h.en, h.top, fun x hx => h.rest x (List.mem_cons_of_mem _ hx), fun x hx => h.up x (List.mem_cons_of_mem _ hx), hp.2⟩, fun hn => ?_⟩
 ·rcases List.mem_append.1 hx with hx | hx
  ·exact h.nt x hx
  ·rw [List.mem_singleton.1 hx]; exact ⟨hs, hn⟩
 ·have h1 : ∀ x ∈ [s], Sl x ∧ x.Note = false := fun x hx => by rw [List.mem_singleton.1 hx]; exact ⟨hs, hn⟩
  have hy := hs.y
  have hh := hs.h
  have h2 : ∀ x ∈ [s], (([s] : List api_Slice).getD 0 z_api_Slice).Y ≤ x.Y ∧ x.Y + x.H ≤ s.Y + s.H := fun x hx => by rw [List.mem_singleton.1 hx]; exact ⟨Int.le_refl _, Int.le_refl _⟩
  have h3 : ∀ x ∈ r, ∀ y ∈ [s], y.Y ≤ x.1.Y := fun x hx y hy => by rw [List.mem_singleton.1 hy]; exact hp.1 x hx
  have hr : ∀ x ∈ r, Sl x.1 := fun x hx => h.rest x (List.mem_cons_of_mem _ hx)
  refine ⟨⟨h1, fun x hx => (by cases hx), by simp; omega, by show s.Y + s.H ≤ _; omega, h2, hr, h3, hp.2⟩, fun he => ⟨h1, h.nt, by simp; omega, by show s.Y + s.H ≤ _; omega, h2, hr, h3, hp.2⟩, fun he => ?_⟩
  refine ⟨fun x hx => ?_, h.nt, by simp; omega, by show max _ _ ≤ _; omega, fun x hx => ?_, hr, fun x hx y hy' => ?_, hp.2⟩
  ·rcases List.mem_append.1 hx with hx | hx
   ·exact h.sl x hx
   ·exact h1 x hx
  ·show ((st.ss ++ [s]).getD 0 z_api_Slice).Y ≤ x.Y ∧ x.Y + x.H ≤ max st.en (s.Y + s.H)
   rw [getD0_app _ _ _ he]
   rcases List.mem_append.1 hx with hx | hx
   ·have := h.top x hx
    omega
   ·rw [List.mem_singleton.1 hx]
    have hf : st.ss.getD 0 z_api_Slice ∈ st.ss := by
     have hp : 0 < st.ss.length := List.length_pos_iff.2 he
     rw [List.getD_eq_getElem?_getD, List.getElem?_eq_getElem hp]
     exact List.getElem_mem hp
    have := h.up (s, k) (List.mem_cons_self ..) _ hf
    simp only at this
    omega
  ·rcases List.mem_append.1 hy' with hy' | hy'
   ·exact h.up x (List.mem_cons_of_mem _ hx) y hy'
   ·exact h3 x hx y hy'
theorem BI.bok {st : BSt} {r : List (api_Slice × Bool)} (h : BI st r) (hne : st.ss ≠ []) : Bok ⟨st.ss, st.ns, st.en⟩ :=
 ⟨hne, h.sl, h.nt, by have := h.len; show st.ss.length ≤ 60; omega, by have := h.len; show st.ns.length ≤ 60; omega, h.en, h.top⟩
theorem bands_ok : ∀ (r : List (api_Slice × Bool)) (st : BSt), BI st r → (st.ss ≠ [] → ∀ b ∈ bandsF st r, Bok b) ∧ ((∀ b ∈ bandsF st r, Bok b) ∨ ∃ ns, bandsF st r = [⟨[], ns, st.en⟩] ∧ ns ≠ [] ∧ ns.length ≤ 60 ∧ ∀ s ∈ ns, Sl s ∧ s.Note = true) := by
 intro r
 induction r with
 | nil =>
  intro st h
  have hl := h.len
  have key : st.ss ≠ [] → ∀ b ∈ bandsF st [], Bok b := fun hne b hb => by
   unfold bandsF at hb
   rw [if_neg (fun e => hne e.1)] at hb
   rw [List.mem_singleton.1 hb]
   exact h.bok hne
  refine ⟨key, ?_⟩
  by_cases c : st.ss = []
  ·by_cases d : st.ns = []
   ·left
    unfold bandsF
    rw [if_pos ⟨c, d⟩]
    exact fun b hb => (by cases hb)
   ·right
    unfold bandsF
    rw [if_neg (fun e => d e.2), c]
    exact ⟨st.ns, rfl, d, by simp at hl; omega, h.nt⟩
  ·exact .inl (key c)
 | cons x r ih =>
  intro st h
  obtain ⟨s, k⟩ := x
  obtain ⟨g1, g2⟩ := h.step
  unfold bandsF
  by_cases c1 : s.Note = true
  ·rw [if_pos c1]
   exact ih _ (g1 c1)
  ·rw [if_neg c1]
   obtain ⟨i1, i2, i3⟩ := g2 (by simpa using c1)
   by_cases c2 : st.ss ≠ [] ∧ st.en ≤ s.Y ∧ st.last = false
   ·rw [if_pos c2]
    have h1 := (ih _ i1).1 (by simp)
    have key : ∀ b ∈ (⟨st.ss, st.ns, st.en⟩ : pages_band) :: bandsF ⟨k, [s], [], s.Y + s.H⟩ r, Bok b := fun b hb => by
     rcases List.mem_cons.1 hb with rfl | hb
     ·exact h.bok c2.1
     ·exact h1 b hb
    exact ⟨fun _ => key, .inl key⟩
   ·rw [if_neg c2]
    by_cases c3 : st.ss = []
    ·rw [if_pos c3]
     have h1 := (ih _ (i2 c3)).1 (by simp)
     exact ⟨fun hne => absurd c3 hne, .inl h1⟩
    ·rw [if_neg c3]
     have h1 := (ih _ (i3 c3)).1 (by simp)
     exact ⟨fun _ => h1, .inl h1⟩
theorem bands_len : ∀ (r : List (api_Slice × Bool)) (st : BSt), (bandsF st r).length ≤ r.length + 1 := by
 intro r
 induction r with
 | nil => intro st; unfold bandsF; split <;> simp
 | cons x r ih =>
  intro st
  obtain ⟨s, k⟩ := x
  unfold bandsF
  simp only [List.length_cons]
  split
  ·have := ih ⟨st.last, st.ss, st.ns ++ [s], st.en⟩; omega
  ·split
   ·have := ih ⟨k, [s], [], s.Y + s.H⟩; simp; omega
   ·split
    ·have := ih ⟨k, [s], st.ns, s.Y + s.H⟩; omega
    ·have := ih ⟨k, st.ss ++ [s], st.ns, max st.en (s.Y + s.H)⟩; omega
theorem Lok.bi {l : List api_Slice} (h : Lok l) (keep : List Bool) (hk : keep.length = l.length) : BI ⟨false, [], [], 0⟩ (l.zip keep) := by
 have hl := h.len
 refine ⟨fun s hs => (by cases hs), fun s hs => (by cases hs), by simp; omega, by show (0 : Int) ≤ _; decide, fun s hs => (by cases hs), fun x hx => h.all _ (List.of_mem_zip hx).1, fun x hx s hs => (by cases hs), ?_⟩
 rw [List.pairwise_iff_getElem]
 intro i j hi hj hij
 simp only [List.length_zip] at hi hj
 have key : ∀ (d i : Nat) (h' : i + d < l.length), (l[i]'(by omega)).Y ≤ l[i + d].Y := by
  intro d
  induction d with
  | zero => intro i h'; exact Int.le_refl _
  | succ d ihd =>
   intro i h'
   have h1 := ihd i (by omega)
   have h2 := h.up (i + d) (by omega)
   exact Int.le_trans h1 h2
 have := key (j - i) i (by omega)
 have e : i + (j - i) = j := by omega
 simp only [List.getElem_zip]
 simpa [e] using this
end Go.Proofs.Ytlcfemplcaejgaa.LG
namespace Go.Proofs.Ytlcfemplcaejgaa.LG
open Go Go.LG Go.Lib

structure HI (before : List pages_band) (hs : List api_Slice) (t : Int) (m : Nat) : Prop where
 hd : ∀ s ∈ hs, s.Head = true ∧ s.Note = false ∧ Sl s
 mem : ∀ s ∈ hs, ∃ b ∈ before, s ∈ b.slices
 tb : 0 ≤ t ∧ t ≤ 2001000000
 le : ∀ s ∈ hs, s.Y + s.H - (hs.getD 0 z_api_Slice).Y ≤ t
 len : hs.length ≤ m
theorem heads_loop (b : pages_band) {before : List pages_band} (hB : ∀ x ∈ before, Bok x) (hl : before.length ≤ 100) {i : Nat} (hi : i < before.length) {m : Nat} (hm : m ≤ 100000) : ∀ (n j : Nat) (hs : List api_Slice) (t : Int), (before[i]).slices.length - j = n → j ≤ (before[i]).slices.length → HI before hs t (m + j) →
  ∃ hs' t', pages_begin_l199 b before ((i : Int) + 1) hs t (j : Int) = some (.inr (hs', t')) ∧ HI before hs' t' (m + (before[i]).slices.length) := by
 have hmem := List.getElem_mem hi
 have C := hB _ hmem
 have cl := C.len
 have c0 : ¬ ((i : Int) + 1 = 0) := by omega
 have e0 : Int.toNat (w64 ((i : Int) + 1 - 1)) = i := by rw [w64_id (by omega) (by omega)]; omega
 have eb : before.getD i z_pages_band = before[i] := by simp [List.getD_eq_getElem?_getD, hi]
 intro n
 induction n with
 | zero =>
  intro j hs t hn hj h
  rw [pages_begin_l199, e0, eb, if_neg (by omega)]
  exact ⟨hs, t, rfl, ⟨h.hd, h.mem, h.tb, h.le, by have := h.len; omega⟩⟩
 | succ n ih =>
  intro j hs t hn hj h
  have hlt : j < (before[i]).slices.length := by omega
  have hlen := h.len
  have ht := h.tb
  rw [pages_begin_l199, e0, eb, if_pos (by omega), if_pos ⟨by omega, by omega⟩, gd _ _ hlt, w64_id (n := (j : Int) + 1) (by omega) (by omega), add1 j]
  generalize hs0 : (before[i]).slices[j] = s
  have hsm : s ∈ (before[i]).slices := by rw [← hs0]; exact List.getElem_mem hlt
  have hS := C.sl s hsm
  have s4 := hS.1.y
  have s5 := hS.1.h
  have A : (if s.Head = true then some (decide ((i : Int) + 1 = 0)) else some false) = some false := by
   rw [decide_eq_false c0]
   split <;> rfl
  rw [A, some_bind, if_neg (show ¬ false = true by decide), and_some, some_bind]
  by_cases c : s.Head = true ∧ s.Table = (b.slices.getD (Int.toNat 0) z_api_Slice).Table
  ·rw [decide_eq_true c, if_pos rfl, if_pos (by omega)]
   have q : (0 : Int) ≤ 0 ∧ (0 : Int) < ((hs ++ [s]).length : Int) := ⟨Int.le_refl _, by rw [List.length_append, List.length_singleton]; omega⟩
   rw [if_pos q, some_bind]
   generalize hy0 : ((hs ++ [s]).getD (Int.toNat 0) z_api_Slice).Y = y0
   have hy : ∃ x ∈ hs ++ [s], x.Y = y0 ∧ Sl x := by
    have hp : 0 < (hs ++ [s]).length := by simp
    refine ⟨(hs ++ [s])[0], List.getElem_mem hp, by rw [← hy0]; simp [List.getD_eq_getElem?_getD, List.getElem?_eq_getElem hp], ?_⟩
    have hx := List.getElem_mem hp
    rcases List.mem_append.1 hx with hx | hx
    ·exact (h.hd _ hx).2.2
    ·rw [List.mem_singleton.1 hx]; exact hS.1
   obtain ⟨x0, _, hx1, hx2⟩ := hy
   have hx3 := hx2.y
   rw [hx1] at hx3
   rw [w64_id (n := s.Y + s.H) (by omega) (by omega), w64_id (n := s.Y + s.H - y0) (by omega) (by omega)]
   have H2 : HI before (hs ++ [s]) (max t (s.Y + s.H - y0)) (m + (j + 1)) := by
    refine ⟨fun x hx => ?_, fun x hx => ?_, by omega, fun x hx => ?_, by simp; omega⟩
    ·rcases List.mem_append.1 hx with hx | hx
     ·exact h.hd x hx
     ·rw [List.mem_singleton.1 hx]; exact ⟨c.1, hS.2, hS.1⟩
    ·rcases List.mem_append.1 hx with hx | hx
     ·exact h.mem x hx
     ·rw [List.mem_singleton.1 hx]; exact ⟨_, hmem, hsm⟩
    ·have hy1 : ((hs ++ [s]).getD 0 z_api_Slice).Y = y0 := hy0
     rw [hy1]
     rcases List.mem_append.1 hx with hx | hx
     ·have hne : hs ≠ [] := fun e => by rw [e] at hx; cases hx
      have := h.le x hx
      rw [getD0_app _ _ _ hne] at hy1
      omega
     ·rw [List.mem_singleton.1 hx]; omega
   exact ih (j + 1) _ _ (by omega) (by omega) H2
  ·rw [decide_eq_false c, if_neg (by decide), some_bind]
   exact ih (j + 1) _ _ (by omega) (by omega) ⟨h.hd, h.mem, h.tb, h.le, by omega⟩
theorem own_loop (b : pages_band) (hb : b.slices.length ≤ 60) (hs : List api_Slice) (t : Int) : ∀ (n j : Nat), b.slices.length - j = n → j ≤ b.slices.length →
  pages_begin_l380 b 0 hs t (j : Int) = some (.inl (hs, t)) ∨ pages_begin_l380 b 0 hs t (j : Int) = some (.inr (hs, t)) := by
 intro n
 induction n with
 | zero => intro j hn hj; right; rw [pages_begin_l380, if_neg (by omega)]
 | succ n ih =>
  intro j hn hj
  have hlt : j < b.slices.length := by omega
  rw [pages_begin_l380, if_pos (by omega), if_pos ⟨by omega, by omega⟩, gd _ _ hlt, w64_id (n := (j : Int) + 1) (by omega) (by omega), add1 j]
  by_cases c : (b.slices[j]).Head = true
  ·left
   simp [c]
  ·have := ih (j + 1) (by omega) (by omega)
   simpa [c] using this
theorem search_loop (b : pages_band) (hb : b.slices.length ≤ 60) {before : List pages_band} (hB : ∀ x ∈ before, Bok x) (hl : before.length ≤ 100) : ∀ (n i : Nat) (hs : List api_Slice) (t : Int), before.length - i = n → i ≤ before.length → HI before hs t (60 * i) →
  ∃ hs' t', pages_begin_l82 b before hs t ((i : Int) + 1) = some (hs', t') ∧ HI before hs' t' (60 * before.length) := by
 intro n
 induction n with
 | zero =>
  intro i hs t hn hi h
  have c : ¬ ((i : Int) + 1 ≤ (before.length : Int)) := by omega
  rw [pages_begin_l82, if_neg c, some_bind, if_neg (by decide)]
  exact ⟨hs, t, rfl, ⟨h.hd, h.mem, h.tb, h.le, by have := h.len; omega⟩⟩
 | succ n ih =>
  intro i hs t hn hi h
  have hlt : i < before.length := by omega
  rw [pages_begin_l82, if_pos (by omega), some_bind]
  by_cases c : ¬ (b.slices.getD (Int.toNat 0) z_api_Slice).Table = 0
  ·have e1 : w64 ((i : Int) + 1 - 1) = (i : Int) := by rw [w64_id (by omega) (by omega)]; omega
   have q : (0 : Int) ≤ (i : Int) ∧ (i : Int) < (before.length : Int) := ⟨by omega, by omega⟩
   obtain ⟨hs', t', g1, g2⟩ := heads_loop b hB hl hlt (m := 60 * i) (by omega) _ 0 hs t rfl (Nat.zero_le _) h
   have g1' : pages_begin_l199 b before ((i : Int) + 1) hs t 0 = some (.inr (hs', t')) := g1
   have e2 : w64 ((i : Int) + 1 + 1) = ((i + 1 : Nat) : Int) + 1 := by rw [w64_id (by omega) (by omega)]; omega
   rw [decide_eq_true c, if_pos rfl, if_pos (show (0 : Int) < (i : Int) + 1 by omega), e1, if_pos q, g1', e2]
   simp only [some_bind]
   have cl := (hB _ (List.getElem_mem hlt)).len
   exact ih (i + 1) hs' t' (by omega) (by omega) ⟨g2.hd, g2.mem, g2.tb, g2.le, by have := g2.len; omega⟩
  ·rw [decide_eq_false c, if_neg (by decide)]
   exact ⟨hs, t, rfl, ⟨h.hd, h.mem, h.tb, h.le, by have := h.len; omega⟩⟩
structure Beg (before : List pages_band) (hp : List api_Slice) (t : Int) : Prop where
 hd : ∀ s ∈ hp, s.Head = true ∧ s.Note = false ∧ s.Y + s.H ≤ t
 tb : 0 ≤ t ∧ t ≤ 2001000000
 len : hp.length ≤ 100000
 none : (∀ x ∈ before, ∀ s ∈ x.slices, s.Head = false) → hp = [] ∧ t = 0
 bd : ∀ s ∈ hp, -3000000000 ≤ s.Y ∧ 0 ≤ s.H ∧ s.H ≤ 1000000
theorem addO_ok {p : api_Paper} {o : pages_open} (O : Ook p o) {b : pages_band} (hb : Bok b) {y : Int} (hy : 0 ≤ y ∧ y ≤ 5000000000) (hp : o.placed.length ≤ 99000) (hn : o.notes.length ≤ 9900) : Ook p (addO p o b y) := by
 have h1 := hb.ok
 have h2 := hb.len
 have h3 := hb.len2
 refine ⟨O.sh, by unfold addO; simp; exact O.f1, by unfold addO; simp; exact O.f2, fun f hf => ?_, by unfold addO; simp; omega, by unfold addO; simp; omega, fun s hs => ?_⟩
 ·rcases List.mem_or_eq_of_mem_set hf with hf | hf
  ·exact O.fl f hf
  ·rw [hf]; omega
 ·rcases List.mem_append.1 hs with hs | hs
  ·exact O.nt s hs
  ·exact hb.nt s hs
theorem new_ok {p : api_Paper} (h : Pok p) (hp : List api_Slice) (hl : hp.length ≤ 100000) : Ook p ⟨⟨p⟩, hp, [], [0]⟩ :=
 ⟨rfl, Nat.le_refl _, h.c.1, fun f hf => by rw [List.mem_singleton.1 hf]; decide, hl, Nat.zero_le _, fun s hs => (by cases hs)⟩
theorem begin_mk {p : api_Paper} (h : Pok p) {b : pages_band} (hb : Bok b) {before : List pages_band} (hB : ∀ x ∈ before, Bok x) (hl : before.length ≤ 100) :
  ∃ hp t, pages_begin ⟨p⟩ b before = some (addO p ⟨⟨p⟩, hp, [], [0]⟩ b t) ∧ Beg before hp t ∧ hp.length ≤ 6100 := by
 have hh := h.h
 have hbl := hb.len
 have hb2 := hb.len2
 have hpos : 0 < b.slices.length := List.length_pos_iff.2 hb.ne
 have h1 := hb.ok
 have s2 := sumH_ok fun s hs => ((hb.nt s hs).1).h
 have hx0 : colX p [0] = 0 := by unfold colX; simp
 have h0 : HI before [] 0 0 := ⟨fun s hs => (by cases hs), fun s hs => (by cases hs), by decide, fun s hs => (by cases hs), Nat.le_refl _⟩
 -- the heads
 have hS : ∃ hs t, pages_begin_l82 b before [] 0 0 = some (hs, t) ∧ HI before hs t 6000 := by
  have done : HI before [] 0 6000 := ⟨h0.hd, h0.mem, h0.tb, h0.le, Nat.zero_le _⟩
  rw [pages_begin_l82, if_pos (by omega), some_bind]
  by_cases c : ¬ (b.slices.getD (Int.toNat 0) z_api_Slice).Table = 0
  ·have e1 : w64 ((0 : Int) + 1) = ((0 : Nat) : Int) + 1 := w64_id (by decide) (by decide)
   rw [decide_eq_true c, if_pos rfl, if_neg (show ¬ (0 : Int) < 0 by decide), e1]
   have ho := own_loop b hbl [] 0 _ 0 rfl (Nat.zero_le _)
   have ho' : pages_begin_l380 b 0 [] 0 0 = some (.inl ([], 0)) ∨ pages_begin_l380 b 0 [] 0 0 = some (.inr ([], 0)) := ho
   rcases ho' with e | e
   ·rw [e]
    exact ⟨[], 0, rfl, done⟩
   ·rw [e]
    obtain ⟨hs', t', g1, g2⟩ := search_loop b hbl hB hl _ 0 [] 0 rfl (Nat.zero_le _) h0
    exact ⟨hs', t', g1, g2.hd, g2.mem, g2.tb, g2.le, by have := g2.len; omega⟩
  ·rw [decide_eq_false c, if_neg (by decide)]
   exact ⟨[], 0, rfl, done⟩
 obtain ⟨hs, t, g1, g2⟩ := hS
 have ht := g2.tb
 have hlen := g2.len
 have plain : ∃ hp t, (pages_open_add_k3 (⟨⟨p⟩, ([] : List api_Slice), ([] : List api_Slice), ([0] : List Int)⟩ : pages_open) b 0 >>= fun y675 => some y675) = some (addO p ⟨⟨p⟩, hp, [], [0]⟩ b t) ∧ Beg before hp t ∧ hp.length ≤ 6100 :=
  ⟨[], 0, by rw [add_mk h (new_ok h [] (Nat.zero_le _)) hb ⟨Int.le_refl _, by decide⟩]; rfl, ⟨fun s hs => (by cases hs), by decide, Nat.zero_le _, fun _ => ⟨rfl, rfl⟩, fun s hs => (by cases hs)⟩, Nat.zero_le _⟩
 unfold pages_begin
 rw [if_pos ⟨Int.le_refl _, by omega⟩, g1, some_bind]
 simp only [height_mk hb, sum_mk (show b.notes.length ≤ 1000000 by omega) (fun s hs => ((hb.nt s hs).1).h), some_bind, w64_id (n := t + bh b) (by omega) (by omega), w64_id (n := p.Height - sumH b.notes) (by omega) (by omega), and_some]
 by_cases c : (0 : Int) < (hs.length : Int) ∧ t + bh b ≤ p.Height - sumH b.notes
 ·rw [decide_eq_true c, if_pos rfl, if_pos ⟨Int.le_refl _, c.1⟩]
  have hne : hs ≠ [] := fun e => by rw [e] at c; simp at c
  have hf : hs.getD 0 z_api_Slice ∈ hs := by
   have hp : 0 < hs.length := List.length_pos_iff.2 hne
   rw [List.getD_eq_getElem?_getD, List.getElem?_eq_getElem hp]
   exact List.getElem_mem hp
  have hfy := (g2.hd _ hf).2.2.y
  have e0 : hs.getD (Int.toNat 0) z_api_Slice = hs.getD 0 z_api_Slice := rfl
  have hput := put_mk h ⟨⟨p⟩, [], [], [0]⟩ rfl (Nat.le_refl 1) (show 1 ≤ 8 by decide) (Nat.zero_le _) hs (by omega) (fun s hs => (g2.hd s hs).2.2) (top := (hs.getD 0 z_api_Slice).Y) (y := 0) ⟨hfy.1, hfy.2⟩ ⟨Int.le_refl _, by decide⟩
  rw [e0, hput, some_bind]
  simp only [List.nil_append, hx0]
  have hO := new_ok h (hs.map (mvS 0 (0 - (hs.getD 0 z_api_Slice).Y))) (by simp; omega)
  rw [add_mk h hO hb (by omega), some_bind]
  refine ⟨_, t, rfl, ⟨fun s hs' => ?_, ht, by simp; omega, fun hno => ?_, fun s hs' => ?_⟩, by simp; omega⟩
  ·obtain ⟨s0, hs0, rfl⟩ := List.mem_map.1 hs'
   have := g2.hd s0 hs0
   have hle := g2.le s0 hs0
   refine ⟨this.1, this.2.1, ?_⟩
   show s0.Y + (0 - (hs.getD 0 z_api_Slice).Y) + s0.H ≤ t
   omega
  ·exfalso
   obtain ⟨x, hx, hx2⟩ := g2.mem _ hf
   have := hno x hx _ hx2
   rw [(g2.hd _ hf).1] at this
   cases this
  ·obtain ⟨s0, hs0, rfl⟩ := List.mem_map.1 hs'
   have := (g2.hd s0 hs0).2.2
   have hy := this.y
   have hh := this.h
   show -3000000000 ≤ s0.Y + (0 - (hs.getD 0 z_api_Slice).Y) ∧ 0 ≤ s0.H ∧ s0.H ≤ 1000000
   omega
 ·rw [decide_eq_false c, if_neg (by decide)]
  exact plain
end Go.Proofs.Ytlcfemplcaejgaa.LG
namespace Go.Proofs.Ytlcfemplcaejgaa.LG
open Go Go.LG Go.Lib

def newO (p : api_Paper) (b : pages_band) (before : List pages_band) : pages_open := (pages_begin ⟨p⟩ b before).getD ⟨⟨p⟩, [], [], []⟩
def lastE (before : List pages_band) : Int := (before.getD (before.length - 1) z_pages_band).end_
def stepK (p : api_Paper) (o : Option pages_open) (before : List pages_band) (done : List pages_open) (b : pages_band) : Option pages_open × List pages_open :=
 match o with
 | none => (some (newO p b before), done)
 | some x => match takeO p x b (max 0 (btop b - lastE before)) with
  | some x' => (some x', done)
  | none => (some (newO p b before), done ++ [x])
def runK (p : api_Paper) : Option pages_open → List pages_band → List pages_open → List pages_band → Option pages_open × List pages_open × List pages_band
 | o, before, done, [] => (o, done, before)
 | o, before, done, b :: r => runK p (stepK p o before done b).1 (before ++ [b]) (stepK p o before done b).2 r
def pgsF (p : api_Paper) : Nat → List pages_open → List api_Page
 | _, [] => []
 | n, o :: l => ⟨(n : Int) + 1, closeO o p⟩ :: pgsF p (n + 1) l
theorem pgs_app (p : api_Paper) : ∀ (l : List pages_open) (n : Nat) (o : pages_open), pgsF p n (l ++ [o]) = pgsF p n l ++ [⟨((n + l.length : Nat) : Int) + 1, closeO o p⟩]
 | [], n, o => rfl
 | x :: l, n, o => by
  rw [List.cons_append, pgsF, pgs_app p l (n + 1) o, pgsF, List.cons_append, List.length_cons]
  congr 4
  omega
theorem pgs_len (p : api_Paper) : ∀ (l : List pages_open) (n : Nat), (pgsF p n l).length = l.length
 | [], _ => rfl
 | x :: l, n => by rw [pgsF, List.length_cons, pgs_len p l, List.length_cons]
structure OI (p : api_Paper) (o : pages_open) (k : Nat) : Prop where
 ok : Ook p o
 pl : o.placed.length ≤ 6100 + 60 * k
 nl : o.notes.length ≤ 60 * k
theorem new_mk {p : api_Paper} (h : Pok p) {b : pages_band} (hb : Bok b) {before : List pages_band} (hB : ∀ x ∈ before, Bok x) (hl : before.length ≤ 100) :
  ∃ hp t, newO p b before = addO p ⟨⟨p⟩, hp, [], [0]⟩ b t ∧ pages_begin ⟨p⟩ b before = some (newO p b before) ∧ Beg before hp t ∧ OI p (newO p b before) 1 := by
 obtain ⟨hp, t, g1, g2, g3⟩ := begin_mk h hb hB hl
 have e : newO p b before = addO p ⟨⟨p⟩, hp, [], [0]⟩ b t := by unfold newO; rw [g1]; rfl
 have ht := g2.tb
 have h2 := hb.len
 have h3 := hb.len2
 refine ⟨hp, t, e, by rw [e]; exact g1, g2, ?_⟩
 rw [e]
 exact ⟨addO_ok (new_ok h hp g2.len) hb (by omega) (by show hp.length ≤ 99000; omega) (Nat.zero_le _), by unfold addO; simp; omega, by unfold addO; simp; omega⟩
theorem take_ok {p : api_Paper} (h : Pok p) {o : pages_open} {k : Nat} (O : OI p o k) (hk : k ≤ 100) {b : pages_band} (hb : Bok b) {gap : Int} (hg : 0 ≤ gap ∧ gap ≤ 10000000000) {o' : pages_open} (ht : takeO p o b gap = some o') : OI p o' (k + 1) := by
 have h1 := hb.ok
 have h2 := hb.len
 have h3 := hb.len2
 have hh := h.h
 have f3 := O.ok.fl _ (lastF_mem O.ok.f1)
 have hp := O.pl
 have hn := O.nl
 have s1 := sumH_ok fun s hs => ((O.ok.nt s hs).1).h
 have s2 := sumH_ok fun s hs => ((hb.nt s hs).1).h
 unfold takeO at ht
 simp only at ht
 split at ht
 ·cases ht
 ·split at ht
  ·cases ht
   exact ⟨addO_ok O.ok hb (by omega) (by omega) (by omega), by unfold addO; simp; omega, by unfold addO; simp; omega⟩
  ·split at ht
   ·rename_i c
    cases ht
    have O2 : Ook p ⟨o.sheet, o.placed, o.notes, o.fills ++ [0]⟩ := ⟨O.ok.sh, by simp, by simp; omega, fun f hf => by
     rcases List.mem_append.1 hf with hf | hf
     ·exact O.ok.fl f hf
     ·rw [List.mem_singleton.1 hf]; decide, O.ok.pl, O.ok.nl, O.ok.nt⟩
    exact ⟨addO_ok O2 hb ⟨Int.le_refl _, by decide⟩ (by show o.placed.length ≤ 99000; omega) (by show o.notes.length ≤ 9900; omega), by unfold addO; simp; omega, by unfold addO; simp; omega⟩
   ·cases ht
theorem OI.mono {p : api_Paper} {o : pages_open} {k m : Nat} (h : OI p o k) (hm : k ≤ m) : OI p o m := ⟨h.ok, by have := h.pl; omega, by have := h.nl; omega⟩
def OIo (p : api_Paper) (o : Option pages_open) (k : Nat) : Prop := ∀ x, o = some x → OI p x k ∧ 0 < k
theorem step_ok {p : api_Paper} (h : Pok p) {o : Option pages_open} {before : List pages_band} (hB : ∀ x ∈ before, Bok x) (hl : before.length ≤ 61) (O : OIo p o before.length) {b : pages_band} (hb : Bok b) (done : List pages_open) :
  OIo p (stepK p o before done b).1 (before.length + 1) ∧ pages_Break_r279 p o true before (pgsF p 0 done) b = (if done.length ≤ 1000 then some (((stepK p o before done b).1, true, before ++ [b], pgsF p 0 (stepK p o before done b).2), none) else pages_Break_r279 p o true before (pgsF p 0 done) b) := by
 obtain ⟨hp, t, g1, g2, g3, g4⟩ := new_mk h hb hB (by omega)
 have hne : ¬ (b.slices.length : Int) = 0 := by
  have := List.length_pos_iff.2 hb.ne
  omega
 have h1 := hb.ok
 refine ⟨?_, ?_⟩
 ·intro x hx
  refine ⟨?_, by omega⟩
  cases o with
  | none =>
   simp only [stepK] at hx
   cases hx
   exact g4.mono (by omega)
  | some y =>
   obtain ⟨Oy, hk⟩ := O y rfl
   simp only [stepK] at hx
   have hg : 0 ≤ max 0 (btop b - lastE before) ∧ max 0 (btop b - lastE before) ≤ 10000000000 := by
    have hlt : before.length - 1 < before.length := by omega
    have hm : before.getD (before.length - 1) z_pages_band ∈ before := by
     rw [List.getD_eq_getElem?_getD, List.getElem?_eq_getElem hlt]
     exact List.getElem_mem hlt
    have B := hB _ hm
    have := B.ok
    unfold bh at this
    unfold lastE
    omega
   cases ht : takeO p y b (max 0 (btop b - lastE before)) with
   | some x' =>
    rw [ht] at hx
    cases hx
    exact take_ok h Oy (by omega) hb hg ht
   | none =>
    rw [ht] at hx
    cases hx
    exact g4.mono (by omega)
 ·by_cases hd : done.length ≤ 1000
  ·rw [if_pos hd]
   have hpl : (pgsF p 0 done).length ≤ 1000 := by rw [pgs_len]; exact hd
   unfold pages_Break_r279
   rw [if_neg hne]
   cases o with
   | none =>
    simp only [some_bind, if_true, pages_Break_1_k2, g2, stepK]
    rw [if_pos (by omega)]
   | some y =>
    obtain ⟨Oy, hk⟩ := O y rfl
    have e : w64 ((before.length : Int) - 1) = ((before.length - 1 : Nat) : Int) := by rw [w64_id (by omega) (by omega)]; omega
    have q : (0 : Int) ≤ ((before.length - 1 : Nat) : Int) ∧ ((before.length - 1 : Nat) : Int) < (before.length : Int) := ⟨by omega, by omega⟩
    have e2 : (before.getD (Int.toNat ((before.length - 1 : Nat) : Int)) z_pages_band).end_ = lastE before := rfl
    have hlt : before.length - 1 < before.length := by omega
    have hm : before.getD (before.length - 1) z_pages_band ∈ before := by
     rw [List.getD_eq_getElem?_getD, List.getElem?_eq_getElem hlt]
     exact List.getElem_mem hlt
    have B := hB _ hm
    have Bo := B.ok
    have hE : lastE before = (before.getD (before.length - 1) z_pages_band).end_ := rfl
    unfold bh at Bo
    have hg : 0 ≤ max 0 (btop b - lastE before) ∧ max 0 (btop b - lastE before) ≤ 10000000000 := by omega
    simp only [if_true, top_mk hb, some_bind, e, if_pos q, e2, w64_id (n := btop b - lastE before) (by omega) (by omega), take_mk h Oy.ok hb hg, stepK]
    cases ht : takeO p y b (max 0 (btop b - lastE before)) with
    | some x' =>
     simp only [Bool.not_true, some_bind, Bool.false_eq_true, if_false]
     rw [if_pos (by omega)]
    | none =>
     have e3 : w64 (((pgsF p 0 done).length : Int) + 1) = ((0 + done.length : Nat) : Int) + 1 := by rw [pgs_len, w64_id (by omega) (by omega)]; omega
     simp only [Bool.not_false, some_bind, if_true, pages_Break_1_k2, e3, close1 h Oy.ok, g2]
     rw [if_pos (by omega), pgs_app]
     simp only [some_bind]
     rw [if_pos (by omega)]
  ·rw [if_neg hd]
theorem run_fold {p : api_Paper} (h : Pok p) : ∀ (bs : List pages_band) (o : Option pages_open) (before : List pages_band) (done : List pages_open), (∀ b ∈ bs, Bok b) → (∀ x ∈ before, Bok x) → before.length + bs.length ≤ 61 → done.length ≤ before.length → OIo p o before.length →
  foldB (rnd (fun (u : (Option pages_open) × Bool × (List pages_band) × (List api_Page)) (x : pages_band) => pages_Break_r279 p u.1 u.2.1 u.2.2.1 u.2.2.2 x)) ((o, true, before, pgsF p 0 done), none) bs =
   some (((runK p o before done bs).1, true, (runK p o before done bs).2.2, pgsF p 0 (runK p o before done bs).2.1), none) ∧ OIo p (runK p o before done bs).1 (before.length + bs.length) ∧ (runK p o before done bs).2.1.length ≤ before.length + bs.length := by
 intro bs
 induction bs with
 | nil => intro o before done h1 h2 h3 h4 h5; exact ⟨rfl, h5, h4⟩
 | cons b bs ih =>
  intro o before done h1 h2 h3 h4 h5
  simp only [List.length_cons] at h3
  have hb := h1 b (List.mem_cons_self ..)
  obtain ⟨g1, g2⟩ := step_ok h h2 (by omega) h5 hb done
  rw [if_pos (by omega)] at g2
  have hd : (stepK p o before done b).2.length ≤ (before ++ [b]).length := by
   rw [List.length_append, List.length_singleton]
   unfold stepK
   split
   ·simp only; omega
   ·split
    ·simp only; omega
    ·simp only [List.length_append, List.length_singleton]; omega
  obtain ⟨i1, i2, i3⟩ := ih (stepK p o before done b).1 (before ++ [b]) (stepK p o before done b).2 (fun x hx => h1 x (List.mem_cons_of_mem _ hx)) (fun x hx => by
   rcases List.mem_append.1 hx with hx | hx
   ·exact h2 x hx
   ·rw [List.mem_singleton.1 hx]; exact hb) (by rw [List.length_append, List.length_singleton]; omega) hd (by rw [List.length_append, List.length_singleton]; exact g1)
  have el : (before ++ [b]).length + bs.length = before.length + (b :: bs).length := by simp; omega
  rw [el] at i2 i3
  refine ⟨?_, i2, i3⟩
  unfold foldB rnd
  simp only [g2, some_bind, Option.isNone_none, if_true]
  exact i1
def brkP (p : api_Paper) (bs : List pages_band) : List pages_open := (runK p none [] [] bs).2.1 ++ (runK p none [] [] bs).1.toList
theorem fin_mk {p : api_Paper} (h : Pok p) {o : Option pages_open} {k : Nat} (O : OIo p o k) {done : List pages_open} (hd : done.length ≤ 400) : pages_Break_1_k3 o (pgsF p 0 done) = some (pgsF p 0 (done ++ o.toList)) := by
 unfold pages_Break_1_k3
 cases o with
 | none => simp
 | some x =>
  have e3 : w64 (((pgsF p 0 done).length : Int) + 1) = ((0 + done.length : Nat) : Int) + 1 := by rw [pgs_len, w64_id (by omega) (by omega)]; omega
  have hpl : (pgsF p 0 done).length ≤ 400 := by rw [pgs_len]; exact hd
  simp only [e3, close2 h (O x rfl).1.ok, some_bind, Option.toList_some]
  rw [if_pos (by omega), pgs_app]
theorem break_mk {p : api_Paper} (h : Pok p) {l : List api_Slice} (hl : Lok l) {keep : List Bool} (hk : keep.length = l.length) :
  (∃ bs, bandsF ⟨false, [], [], 0⟩ (l.zip keep) = bs ∧ (∀ b ∈ bs, Bok b) ∧ pages_Break p l keep = some (pgsF p 0 (brkP p bs), 0) ∧ (brkP p bs).length ≤ 100) ∨
  (∃ ns, bandsF ⟨false, [], [], 0⟩ (l.zip keep) = [⟨[], ns, 0⟩] ∧ ns ≠ [] ∧ (∀ s ∈ ns, Sl s ∧ s.Note = true) ∧ pages_Break p l keep = some (pgsF p 0 [⟨⟨p⟩, [], ns, [0]⟩], 0) ∧ Ook p ⟨⟨p⟩, [], ns, [0]⟩) := by
 have hB := hl.bi keep hk
 have hlen := bands_len (l.zip keep) ⟨false, [], [], 0⟩
 have hzl : (l.zip keep).length ≤ 60 := by have := hl.len; simp; omega
 unfold pages_Break
 rw [sheet_ok h, some_bind]
 simp only [Bool.not_true, Bool.false_eq_true, if_false, can_ok hl hk, some_bind, pages_bands, bands_fold _ _ hl hk]
 rcases (bands_ok _ _ hB).2 with hall | ⟨ns, e, hne, hns, hnt⟩
 ·left
  refine ⟨_, rfl, hall, ?_⟩
  generalize bandsF ⟨false, [], [], 0⟩ (l.zip keep) = bs at *
  obtain ⟨g1, g2, g3⟩ := run_fold h bs none [] [] hall (fun x hx => (by cases hx)) (by simp; omega) (Nat.le_refl _) (fun x hx => (by cases hx))
  simp only [List.length_nil, Nat.zero_add] at g2 g3
  have g1' : foldB (rnd (fun (u : (Option pages_open) × Bool × (List pages_band) × (List api_Page)) (x : pages_band) => pages_Break_r279 p u.1 u.2.1 u.2.2.1 u.2.2.2 x)) (((none : Option pages_open), true, ([] : List pages_band), ([] : List api_Page)), none) bs = some (((runK p none [] [] bs).1, true, (runK p none [] [] bs).2.2, pgsF p 0 (runK p none [] [] bs).2.1), none) := g1
  have hbl : (brkP p bs).length ≤ 100 := by
   unfold brkP
   rw [List.length_append]
   have : (runK p none [] [] bs).1.toList.length ≤ 1 := by cases (runK p none [] [] bs).1 <;> simp
   omega
  rw [g1']
  simp only [some_bind, fin_mk h g2 (show (runK p none [] [] bs).2.1.length ≤ 400 by omega)]
  have c : ¬ (500 : Int) < ((pgsF p 0 (brkP p bs)).length : Int) := by rw [pgs_len]; omega
  have c' : ¬ (500 : Int) < ((pgsF p 0 ((runK p none [] [] bs).2.1 ++ (runK p none [] [] bs).1.toList)).length : Int) := c
  rw [if_neg c']
  exact ⟨rfl, hbl⟩
 ·right
  have O : Ook p ⟨⟨p⟩, [], ns, [0]⟩ := ⟨rfl, Nat.le_refl _, h.c.1, fun f hf => by rw [List.mem_singleton.1 hf]; decide, Nat.zero_le _, by show ns.length ≤ 10000; omega, hnt⟩
  refine ⟨ns, e, hne, hnt, ?_, O⟩
  have e' : bandsF ⟨false, [], [], 0⟩ (l.zip keep) = [⟨[], ns, 0⟩] := e
  rw [e']
  have hf := fin_mk h (o := some ⟨⟨p⟩, [], ns, [0]⟩) (k := 1) (fun x hx => by cases hx; exact ⟨⟨O, Nat.zero_le _, by show ns.length ≤ 60 * 1; omega⟩, by omega⟩) (done := []) (Nat.zero_le _)
  have hf' : pages_Break_1_k3 (some ⟨⟨p⟩, [], ns, [0]⟩) [] = some (pgsF p 0 [⟨⟨p⟩, [], ns, [0]⟩]) := hf
  have hr : pages_Break_r279 p none true [] [] ⟨[], ns, 0⟩ = some (((some ⟨⟨p⟩, [], ns, [0]⟩), false, [], []), some 0) := by
   unfold pages_Break_r279
   rw [if_pos (by simp)]
  unfold foldB rnd
  simp only [hr, some_bind, Option.isNone_some, Bool.false_eq_true, if_false, hf', pgs_len]
  rw [if_neg (by simp)]
end Go.Proofs.Ytlcfemplcaejgaa.LG
namespace Go.Proofs.Ytlcfemplcaejgaa.LG
open Go Go.LG Go.Lib

abbrev SK := api_Slice × Bool
structure Pz (b : pages_band) (z : List SK) : Prop where
 ok : Bok b
 sl : b.slices = z.map (·.1)
 nt : b.notes = []
 hd : ∀ s ∈ b.slices, s.Head = false
structure Tg where
 page : Nat
 x : Int
 dy : Int
def mvT (s : SK) (t : Tg) : api_Slice := mvS t.x t.dy s.1
def pgN : Nat → List pages_open → List Nat
 | _, [] => []
 | n, o :: l => List.replicate o.placed.length n ++ pgN (n + 1) l
def stick (a b : SK) : Prop := a.2 = true ∨ b.1.Y < a.1.Y + a.1.H
structure RI (p : api_Paper) (o : Option pages_open) (done : List pages_open) (before : List pages_band) (LK : List SK) (tags : List Tg) : Prop where
 len : tags.length = LK.length
 pl : ((done ++ o.toList).flatMap (·.placed)) = List.zipWith mvT LK tags
 pg : pgN 0 (done ++ o.toList) = tags.map (·.page)
 nt : ∀ x ∈ done ++ o.toList, x.notes = []
 up : ∀ (i : Nat) (h : i + 1 < tags.length), (tags[i]).page ≤ (tags[i + 1]).page ∧ ((tags[i]).page = (tags[i + 1]).page → (tags[i]).x = (tags[i + 1]).x → (tags[i]).dy = (tags[i + 1]).dy)
 st : ∀ (i : Nat) (h : i + 1 < tags.length) (h' : i + 1 < LK.length), stick LK[i] LK[i + 1] → tags[i] = tags[i + 1]
 bd : ∀ t ∈ tags, 0 ≤ t.x ∧ t.x ≤ 35000 ∧ -1000000000 ≤ t.dy ∧ t.dy ≤ 1000000000
 fst : before = [] → o = none ∧ done = [] ∧ tags = []
 lst : before ≠ [] → ∃ x T t, o = some x ∧ tags = T ++ [t] ∧ t.page = done.length ∧ t.x = colX p x.fills ∧ lastF x.fills = lastE before + t.dy
theorem lastE_app (before : List pages_band) (b : pages_band) : lastE (before ++ [b]) = b.end_ := by
 unfold lastE
 rw [List.length_append, List.length_singleton, Nat.add_sub_cancel, List.getD_eq_getElem?_getD, List.getElem?_append_right (Nat.le_refl _), Nat.sub_self]; rfl
theorem zip_const (c : Tg) : ∀ z : List SK, List.zipWith mvT z (List.replicate z.length c) = (z.map (·.1)).map (mvS c.x c.dy)
 | [] => rfl
 | s :: z => by
  rw [List.length_cons, List.replicate_succ, List.zipWith_cons_cons, zip_const c z]; rfl
theorem tags_more {LK z : List SK} {tags : List Tg} {c : Tg} (hz : z ≠ [])
  (len : tags.length = LK.length)
  (up : ∀ (i : Nat) (h : i + 1 < tags.length), (tags[i]).page ≤ (tags[i + 1]).page ∧ ((tags[i]).page = (tags[i + 1]).page → (tags[i]).x = (tags[i + 1]).x → (tags[i]).dy = (tags[i + 1]).dy))
  (st : ∀ (i : Nat) (h : i + 1 < tags.length) (h' : i + 1 < LK.length), stick LK[i] LK[i + 1] → tags[i] = tags[i + 1])
  (edge : ∀ T t, tags = T ++ [t] → t.page ≤ c.page ∧ (t.page = c.page → t.x = c.x → t.dy = c.dy))
  (edge2 : ∀ C a, LK = C ++ [a] → ¬ stick a (z.head hz)) :
  (tags ++ List.replicate z.length c).length = (LK ++ z).length ∧
  (∀ (i : Nat) (h : i + 1 < (tags ++ List.replicate z.length c).length), ((tags ++ List.replicate z.length c)[i]).page ≤ ((tags ++ List.replicate z.length c)[i + 1]).page ∧ (((tags ++ List.replicate z.length c)[i]).page = ((tags ++ List.replicate z.length c)[i + 1]).page → ((tags ++ List.replicate z.length c)[i]).x = ((tags ++ List.replicate z.length c)[i + 1]).x → ((tags ++ List.replicate z.length c)[i]).dy = ((tags ++ List.replicate z.length c)[i + 1]).dy)) ∧
  (∀ (i : Nat) (h : i + 1 < (tags ++ List.replicate z.length c).length) (h' : i + 1 < (LK ++ z).length), stick (LK ++ z)[i] (LK ++ z)[i + 1] → (tags ++ List.replicate z.length c)[i] = (tags ++ List.replicate z.length c)[i + 1]) := by
 have hzp : 0 < z.length := List.length_pos_iff.2 hz
 have lastT : ∀ (i : Nat), i + 1 = tags.length → ∃ T, tags = T ++ [(tags.getD i c)] := fun i hi => by
  have hne : tags ≠ [] := fun e => by rw [e] at hi; simp at hi
  refine ⟨tags.dropLast, ?_⟩
  have e : tags.getD i c = tags.getLast hne := by
   rw [List.getLast_eq_getElem, List.getD_eq_getElem?_getD, List.getElem?_eq_getElem (by omega)]
   simp only [Option.getD_some]
   congr 1
   omega
  rw [e]
  exact (List.dropLast_concat_getLast hne).symm
 refine ⟨by simp [len], fun i h => ?_, fun i h h' hs => ?_⟩
 ·have h1 : i + 1 < tags.length + z.length := by simpa using h
  by_cases c1 : i + 1 < tags.length
  ·rw [List.getElem_append_left (by omega), List.getElem_append_left c1]
   exact up i c1
  ·by_cases c2 : i < tags.length
   ·rw [List.getElem_append_left c2, List.getElem_append_right (by omega), List.getElem_replicate]
    obtain ⟨T, hT⟩ := lastT i (by omega)
    have := edge T _ hT
    have e : tags.getD i c = tags[i] := by simp [List.getD_eq_getElem?_getD, c2]
    rw [e] at this
    exact this
   ·rw [List.getElem_append_right (by omega), List.getElem_append_right (by omega), List.getElem_replicate, List.getElem_replicate]
    exact ⟨Nat.le_refl _, fun _ _ => rfl⟩
 ·have h1 : i + 1 < tags.length + z.length := by simpa using h
  have h2 : i + 1 < LK.length + z.length := by simpa using h'
  by_cases c1 : i + 1 < tags.length
  ·rw [List.getElem_append_left (by omega), List.getElem_append_left (by omega)] at hs
   rw [List.getElem_append_left (by omega), List.getElem_append_left c1]
   exact st i c1 (by omega) hs
  ·by_cases c2 : i < tags.length
   ·exfalso
    rw [List.getElem_append_left (by omega), List.getElem_append_right (by omega)] at hs
    have hne : LK ≠ [] := fun e => by rw [e, List.length_nil] at len; omega
    have e1 : LK[i]'(by omega) = LK.getLast hne := by
     rw [List.getLast_eq_getElem]
     congr 1
     omega
    have e2 : z[i + 1 - LK.length]'(by omega) = z.head hz := by
     rw [List.head_eq_getElem]
     congr 1
     omega
    rw [e1, e2] at hs
    exact edge2 LK.dropLast _ (List.dropLast_concat_getLast hne).symm hs
   ·rw [List.getElem_append_right (by omega), List.getElem_append_right (by omega), List.getElem_replicate, List.getElem_replicate]
end Go.Proofs.Ytlcfemplcaejgaa.LG
namespace Go.Proofs.Ytlcfemplcaejgaa.LG
open Go Go.LG Go.Lib

theorem RI.more {p : api_Paper} {o : Option pages_open} {done : List pages_open} {before : List pages_band} {LK : List SK} {tags : List Tg} (R : RI p o done before LK tags)
  {b : pages_band} {z : List SK} (P : Pz b z) (link : before ≠ [] → lastE before ≤ btop b ∧ ∃ C s, LK = C ++ [(s, false)] ∧ s.Y + s.H ≤ lastE before)
  {x' : pages_open} {done' : List pages_open} (c : Tg)
  (hpl : (done' ++ [x']).flatMap (·.placed) = (done ++ o.toList).flatMap (·.placed) ++ b.slices.map (mvS c.x c.dy))
  (hpg : pgN 0 (done' ++ [x']) = pgN 0 (done ++ o.toList) ++ List.replicate b.slices.length c.page)
  (hnt : ∀ y ∈ done' ++ [x'], y.notes = [])
  (edge : ∀ T t, tags = T ++ [t] → t.page ≤ c.page ∧ (t.page = c.page → t.x = c.x → t.dy = c.dy))
  (h1 : c.page = done'.length) (h2 : c.x = colX p x'.fills) (h3 : lastF x'.fills = b.end_ + c.dy) (h4 : 0 ≤ c.x ∧ c.x ≤ 35000 ∧ -1000000000 ≤ c.dy ∧ c.dy ≤ 1000000000) :
  RI p (some x') done' (before ++ [b]) (LK ++ z) (tags ++ List.replicate z.length c) := by
 have hzl : b.slices.length = z.length := by rw [P.sl, List.length_map]
 have hz : z ≠ [] := fun e => by
  have := List.length_pos_iff.2 P.ok.ne
  rw [hzl, e] at this
  simp at this
 have hzp : 0 < z.length := List.length_pos_iff.2 hz
 have ehd : (z.head hz).1 = b.slices.getD 0 z_api_Slice := by
  rw [P.sl, List.getD_eq_getElem?_getD, List.getElem?_map, List.getElem?_eq_getElem hzp, List.head_eq_getElem]; rfl
 have edge2 : ∀ C a, LK = C ++ [a] → ¬ stick a (z.head hz) := by
  intro C a e hs
  have hne : before ≠ [] := fun e0 => by
   have := (R.fst e0).2.2
   have hl := R.len
   rw [this, e] at hl
   simp at hl
  obtain ⟨l1, C', s, l2, l3⟩ := link hne
  have e3 := (List.append_inj' (l2.symm.trans e) rfl).2
  simp only [List.cons.injEq, and_true] at e3
  subst e3
  rcases hs with hs | hs
  ·cases hs
  ·rw [ehd] at hs
   simp only at hs
   unfold btop at l1
   omega
 obtain ⟨m1, m2, m3⟩ := tags_more (c := c) hz R.len R.up R.st edge edge2
 refine ⟨m1, ?_, ?_, hnt, m2, m3, fun t ht => ?_, fun e => by simp at e, fun _ => ?_⟩
 ·show ((done' ++ [x']).flatMap (·.placed)) = _
  rw [hpl, R.pl, List.zipWith_append R.len.symm, zip_const, P.sl]
 ·show pgN 0 (done' ++ [x']) = _
  rw [hpg, R.pg, List.map_append, List.map_replicate, hzl]
 ·rcases List.mem_append.1 ht with ht | ht
  ·exact R.bd t ht
  ·rw [List.eq_of_mem_replicate ht]; exact h4
 ·obtain ⟨n, hn⟩ : ∃ n, z.length = n + 1 := ⟨z.length - 1, by omega⟩
  refine ⟨x', tags ++ List.replicate n c, c, rfl, ?_, h1, h2, by rw [lastE_app]; exact h3⟩
  rw [hn, List.replicate_succ', List.append_assoc]
end Go.Proofs.Ytlcfemplcaejgaa.LG
namespace Go.Proofs.Ytlcfemplcaejgaa.LG
open Go Go.LG Go.Lib

theorem head_true : formelaw40_head = some true := formelaw40_head_le (fu := 300) _ (by kernel_rfl)
end Go.Proofs.Ytlcfemplcaejgaa.LG
namespace Go.Proofs.Ytlcfemplcaejgaa.LG
open Go Go.LG Go.Lib

def plS (s : api_Slice) : api_Slice := ⟨s.Node, s.Table, 0, 0, s.H, s.Text, s.Head, s.Note⟩
def fl (l : List api_Slice) : List api_Slice := (l.filter fun s => !s.Head).map plS
theorem fl_app (a b : List api_Slice) : fl (a ++ b) = fl a ++ fl b := by unfold fl; rw [List.filter_append, List.map_append]
theorem fl_mv (x dy : Int) : ∀ l : List api_Slice, fl (l.map (mvS x dy)) = fl l
 | [] => rfl
 | s :: l => by
  have ih := fl_mv x dy l
  unfold fl at ih ⊢
  rw [List.map_cons, List.filter_cons, List.filter_cons]
  show List.map plS (if (!s.Head) = true then _ else _) = _
  split
  ·rw [List.map_cons, List.map_cons, ih]; rfl
  ·exact ih
theorem fl_heads {l : List api_Slice} (h : ∀ s ∈ l, s.Head = true) : fl l = [] := by
 unfold fl
 rw [List.filter_eq_nil_iff.2 fun s hs => by rw [h s hs]; decide]; rfl
theorem bands_flat : ∀ (r : List (api_Slice × Bool)) (st : BSt), (bandsF st r).flatMap (·.slices) = st.ss ++ (r.map (·.1)).filter (fun s => !s.Note) ∧ (bandsF st r).flatMap (·.notes) = st.ns ++ (r.map (·.1)).filter (·.Note) := by
 intro r
 induction r with
 | nil =>
  intro st
  unfold bandsF
  split
  ·rename_i c; rw [c.1, c.2]; exact ⟨rfl, rfl⟩
  ·simp
 | cons x r ih =>
  intro st
  obtain ⟨s, k⟩ := x
  unfold bandsF
  split
  ·rename_i c
   obtain ⟨h1, h2⟩ := ih ⟨st.last, st.ss, st.ns ++ [s], st.en⟩
   rw [h1, h2]
   simp [c]
  ·rename_i c
   split
   ·obtain ⟨h1, h2⟩ := ih ⟨k, [s], [], s.Y + s.H⟩
    rw [List.flatMap_cons, List.flatMap_cons, h1, h2]
    simp [c]
   ·split
    ·rename_i c3
     obtain ⟨h1, h2⟩ := ih ⟨k, [s], st.ns, s.Y + s.H⟩
     rw [h1, h2, c3]
     simp [c]
    ·obtain ⟨h1, h2⟩ := ih ⟨k, st.ss ++ [s], st.ns, max st.en (s.Y + s.H)⟩
     rw [h1, h2]
     simp [c]
theorem hi_mono {l m : List Int} (h : ∀ f ∈ l, f ≤ hi m) : hi l ≤ hi m := by
 obtain ⟨h1, h2, h3⟩ := foldl_max l 0
 have h0 : 0 ≤ hi m := (foldl_max m 0).1
 rcases h3 with h3 | h3
 ·show l.foldl max 0 ≤ _; rw [h3]; exact h0
 ·exact h _ h3
theorem hi_set {l : List Int} (h : 1 ≤ l.length) {v : Int} (hv : lastF l ≤ v) : hi l ≤ hi (l.set (l.length - 1) v) := by
 apply hi_mono
 intro f hf
 obtain ⟨i, hi', rfl⟩ := List.getElem_of_mem hf
 by_cases c : i = l.length - 1
 ·subst c
  have e : lastF l = l[l.length - 1] := by
   unfold lastF
   rw [List.getD_eq_getElem?_getD, List.getElem?_eq_getElem hi']; rfl
  exact Int.le_trans (by omega) (hi_ge (List.mem_set hi' v))
 ·refine hi_ge (List.mem_iff_getElem.2 ⟨i, by rw [List.length_set]; exact hi', ?_⟩)
  rw [List.getElem_set_ne (by omega)]
def Plc (f : List Int) (l : List api_Slice) : Prop := ∀ s ∈ l, s.Note = false ∧ -3000000000 ≤ s.Y ∧ (0 ≤ s.H ∧ s.H ≤ 1000000) ∧ s.Y + s.H ≤ hi f
theorem Plc.mono {f g : List Int} {l : List api_Slice} (h : Plc f l) (hg : hi f ≤ hi g) : Plc g l := fun s hs => ⟨(h s hs).1, (h s hs).2.1, (h s hs).2.2.1, Int.le_trans (h s hs).2.2.2 hg⟩
theorem Plc.add {p : api_Paper} {o : pages_open} (h : Plc o.fills o.placed) (f1 : 1 ≤ o.fills.length) {b : pages_band} (hb : Bok b) {y : Int} (hy : 0 ≤ y) (hl : lastF o.fills ≤ y + bh b) : Plc (addO p o b y).fills (addO p o b y).placed := by
 intro s hs
 have hm := hi_set f1 hl
 unfold addO at hs ⊢
 simp only at hs ⊢
 rcases List.mem_append.1 hs with hs | hs
 ·exact (h.mono hm) s hs
 ·obtain ⟨q, hq, rfl⟩ := List.mem_map.1 hs
  have h1 := hb.sl q hq
  have h2 : btop b ≤ q.Y ∧ q.Y + q.H ≤ b.end_ := hb.top q hq
  have h3 := h1.1.h
  have h4 := hb.ok
  have h5 : b.end_ = btop b + bh b := by unfold bh; omega
  have hv : y + bh b ≤ hi (o.fills.set (o.fills.length - 1) (y + bh b)) := hi_ge (List.mem_set (by omega) _)
  refine ⟨h1.2, ?_, h3, ?_⟩
  ·show -3000000000 ≤ q.Y + (y - btop b)
   omega
  ·show q.Y + (y - btop b) + q.H ≤ _
   omega
structure Gp (p : api_Paper) (o : pages_open) : Prop where
 ok : Ook p o
 ne : o.placed ≠ [] ∨ o.notes ≠ []
 len : o.placed.length ≤ 10000 ∧ o.notes.length ≤ 10000
 pl : Plc o.fills o.placed
structure PI (p : api_Paper) (os : List pages_open) (before : List pages_band) : Prop where
 gp : ∀ x ∈ os, Gp p x
 fw : os.flatMap (fun x => fl x.placed) = fl (before.flatMap (·.slices))
 nt : os.flatMap (·.notes) = before.flatMap (·.notes)
 hd : ∀ s ∈ before.flatMap (·.slices), s.Head = true → ∃ x ∈ os, ∃ q ∈ x.placed, q.Head = true ∧ plS q = plS s
theorem PI.new {p : api_Paper} {os : List pages_open} {before : List pages_band} (P : PI p os before) {b : pages_band} {x : pages_open} (g : Gp p x) (h1 : fl x.placed = fl b.slices) (h2 : x.notes = b.notes) (h3 : ∀ s ∈ b.slices, s.Head = true → ∃ q ∈ x.placed, q.Head = true ∧ plS q = plS s) : PI p (os ++ [x]) (before ++ [b]) := by
 refine ⟨fun y hy => ?_, ?_, ?_, fun s hs hh => ?_⟩
 ·rcases List.mem_append.1 hy with hy | hy
  ·exact P.gp y hy
  ·rw [List.mem_singleton.1 hy]; exact g
 ·rw [List.flatMap_append, List.flatMap_append, fl_app, P.fw]
  simp [h1]
 ·rw [List.flatMap_append, List.flatMap_append, P.nt]
  simp [h2]
 ·rw [List.flatMap_append] at hs
  rcases List.mem_append.1 hs with hs | hs
  ·obtain ⟨y, hy, q⟩ := P.hd s hs hh
   exact ⟨y, List.mem_append_left _ hy, q⟩
  ·simp only [List.flatMap_cons, List.flatMap_nil, List.append_nil] at hs
   obtain ⟨q, hq⟩ := h3 s hs hh
   exact ⟨x, by simp, q, hq⟩
theorem PI.more {p : api_Paper} {os : List pages_open} {x : pages_open} {before : List pages_band} (P : PI p (os ++ [x]) before) {b : pages_band} {x' : pages_open} (g : Gp p x') {c d : Int} (h1 : x'.placed = x.placed ++ b.slices.map (mvS c d)) (h2 : x'.notes = x.notes ++ b.notes) : PI p (os ++ [x']) (before ++ [b]) := by
 have e1 := P.fw
 have e2 := P.nt
 rw [List.flatMap_append] at e1 e2
 simp only [List.flatMap_cons, List.flatMap_nil, List.append_nil] at e1 e2
 refine ⟨fun y hy => ?_, ?_, ?_, fun s hs hh => ?_⟩
 ·rcases List.mem_append.1 hy with hy | hy
  ·exact P.gp y (List.mem_append_left _ hy)
  ·rw [List.mem_singleton.1 hy]; exact g
 ·rw [List.flatMap_append, List.flatMap_append, fl_app, ← e1]
  simp [h1, fl_app, fl_mv, List.append_assoc]
 ·rw [List.flatMap_append, List.flatMap_append, ← e2]
  simp [h2, List.append_assoc]
 ·rw [List.flatMap_append] at hs
  rcases List.mem_append.1 hs with hs | hs
  ·obtain ⟨y, hy, q, hq, r⟩ := P.hd s hs hh
   rcases List.mem_append.1 hy with hy | hy
   ·exact ⟨y, List.mem_append_left _ hy, q, hq, r⟩
   ·rw [List.mem_singleton.1 hy] at hq
    exact ⟨x', by simp, q, by rw [h1]; exact List.mem_append_left _ hq, r⟩
  ·simp only [List.flatMap_cons, List.flatMap_nil, List.append_nil] at hs
   exact ⟨x', by simp, mvS c d s, by rw [h1]; exact List.mem_append_right _ (List.mem_map_of_mem hs), hh, rfl⟩
theorem step_pi {p : api_Paper} (h : Pok p) {o : Option pages_open} {before : List pages_band} (hB : ∀ x ∈ before, Bok x) (hl : before.length ≤ 61) (O : OIo p o before.length) {b : pages_band} (hb : Bok b) (done : List pages_open) (P : PI p (done ++ o.toList) before) :
  PI p ((stepK p o before done b).2 ++ (stepK p o before done b).1.toList) (before ++ [b]) := by
 obtain ⟨hp, t, g1, g2, g3, g4⟩ := new_mk h hb hB (by omega)
 have O2 := (step_ok h hB hl O hb done).1
 have hbo := hb.ok
 have ht := g3.tb
 have newGp : Gp p (newO p b before) := by
  refine ⟨g4.ok, .inl ?_, ⟨by have := g4.pl; omega, by have := g4.nl; omega⟩, ?_⟩
  ·rw [g1]; unfold addO; simp [hb.ne]
  ·rw [g1]
   intro s hs
   have hv : t + bh b ≤ hi (([0] : List Int).set 0 (t + bh b)) := hi_ge (by simp)
   unfold addO at hs ⊢
   simp only [List.length_singleton, Nat.sub_self] at hs ⊢
   rcases List.mem_append.1 hs with hs | hs
   ·have a := g3.hd s hs
    have c := g3.bd s hs
    exact ⟨a.2.1, c.1, c.2, by omega⟩
   ·obtain ⟨q, hq, rfl⟩ := List.mem_map.1 hs
    have h1 := hb.sl q hq
    have h2 : btop b ≤ q.Y ∧ q.Y + q.H ≤ b.end_ := hb.top q hq
    have h3 := h1.1.h
    have h5 : b.end_ = btop b + bh b := by unfold bh; omega
    refine ⟨h1.2, ?_, h3, ?_⟩
    ·show -3000000000 ≤ q.Y + (t - btop b)
     omega
    ·show q.Y + (t - btop b) + q.H ≤ _
     omega
 have newFl : fl (newO p b before).placed = fl b.slices := by
  rw [g1]
  unfold addO
  rw [fl_app, fl_mv, fl_heads fun s hs => (g3.hd s hs).1]; rfl
 have newNt : (newO p b before).notes = b.notes := by rw [g1]; rfl
 have newHd : ∀ s ∈ b.slices, s.Head = true → ∃ q ∈ (newO p b before).placed, q.Head = true ∧ plS q = plS s := fun s hs hh => by
  rw [g1]
  exact ⟨mvS (colX p [0]) (t - btop b) s, List.mem_append_right _ (List.mem_map_of_mem hs), hh, rfl⟩
 cases o with
 | none =>
  simp only [Option.toList_none, List.append_nil] at P
  exact P.new newGp newFl newNt newHd
 | some x =>
  simp only [Option.toList_some] at P
  have Gx := P.gp x (by simp)
  have hn := P.new newGp newFl newNt newHd
  unfold stepK at O2 ⊢
  simp only at O2 ⊢
  cases ht : takeO p x b (max 0 (btop b - lastE before)) with
  | none =>
   simp only [Option.toList_some]
   exact hn
  | some x' =>
   rw [ht] at O2
   simp only [Option.toList_some] at O2 ⊢
   obtain ⟨Ox', _⟩ := O2 x' rfl
   have gl : x'.placed.length ≤ 10000 ∧ x'.notes.length ≤ 10000 := ⟨by have := Ox'.pl; omega, by have := Ox'.nl; omega⟩
   have f1 := Gx.ok.f1
   have lf := (Gx.ok.fl _ (lastF_mem f1)).1
   unfold takeO at ht
   simp only at ht
   split at ht
   ·cases ht
   ·split at ht
    ·cases ht
     exact P.more (c := colX p x.fills) (d := (lastF x.fills + max 0 (btop b - lastE before)) - btop b) ⟨Ox'.ok, .inl (by unfold addO; simp [hb.ne]), gl, Gx.pl.add f1 hb (by omega) (by omega)⟩ rfl rfl
    ·split at ht
     ·cases ht
      have e0 : lastF (x.fills ++ [0]) = 0 := by
       unfold lastF
       rw [List.length_append, List.length_singleton, Nat.add_sub_cancel, List.getD_eq_getElem?_getD, List.getElem?_append_right (Nat.le_refl _), Nat.sub_self]; rfl
      have hP : Plc (x.fills ++ [0]) x.placed := Gx.pl.mono (hi_mono fun f hf => hi_ge (List.mem_append_left _ hf))
      exact P.more (c := colX p (x.fills ++ [0])) (d := 0 - btop b) ⟨Ox'.ok, .inl (by unfold addO; simp [hb.ne]), gl, Plc.add (o := ⟨x.sheet, x.placed, x.notes, x.fills ++ [0]⟩) hP (by simp) hb (Int.le_refl _) (by show lastF (x.fills ++ [0]) ≤ _; rw [e0]; omega)⟩ rfl rfl
     ·cases ht
theorem run_pi {p : api_Paper} (h : Pok p) : ∀ (bs : List pages_band) (o : Option pages_open) (before : List pages_band) (done : List pages_open), (∀ b ∈ bs, Bok b) → (∀ x ∈ before, Bok x) → before.length + bs.length ≤ 61 → OIo p o before.length → PI p (done ++ o.toList) before →
  PI p ((runK p o before done bs).2.1 ++ (runK p o before done bs).1.toList) (before ++ bs) := by
 intro bs
 induction bs with
 | nil => intro o before done _ _ _ _ P; simpa [runK] using P
 | cons b bs ih =>
  intro o before done h1 h2 h3 O P
  simp only [List.length_cons] at h3
  have hb := h1 b (List.mem_cons_self ..)
  have P2 := step_pi h h2 (by omega) O hb done P
  have O2 := (step_ok h h2 (by omega) O hb done).1
  have := ih _ (before ++ [b]) _ (fun x hx => h1 x (List.mem_cons_of_mem _ hx)) (fun x hx => by
   rcases List.mem_append.1 hx with hx | hx
   ·exact h2 x hx
   ·rw [List.mem_singleton.1 hx]; exact hb) (by rw [List.length_append, List.length_singleton]; omega) (by rw [List.length_append, List.length_singleton]; exact O2) P2
  simpa [runK, List.append_assoc] using this
theorem break_all {p : api_Paper} (h : Pok p) {l : List api_Slice} (hl : Lok l) {keep : List Bool} (hk : keep.length = l.length) :
  ∃ os, pages_Break p l keep = some (pgsF p 0 os, 0) ∧ os.length ≤ 100 ∧ (∀ x ∈ os, Gp p x) ∧ os.flatMap (fun x => fl x.placed) = fl (l.filter fun s => !s.Note) ∧ os.flatMap (·.notes) = l.filter (·.Note) ∧
   (∀ s ∈ l, s.Note = false → s.Head = true → ∃ x ∈ os, ∃ q ∈ x.placed, q.Head = true ∧ plS q = plS s) := by
 have hz : (l.zip keep).map (·.1) = l := by rw [List.map_fst_zip]; omega
 obtain ⟨f1, f2⟩ := bands_flat (l.zip keep) ⟨false, [], [], 0⟩
 rw [hz] at f1 f2
 simp only [List.nil_append] at f1 f2
 have hbl := bands_len (l.zip keep) ⟨false, [], [], 0⟩
 have hlen := hl.len
 have hzl : (l.zip keep).length ≤ 60 := by simp; omega
 rcases break_mk h hl hk with ⟨bs, b1, b2, b3, b4⟩ | ⟨ns, b1, b2, b3, b4, b5⟩
 ·subst b1
  have P := run_pi h _ none [] [] b2 (fun x hx => (by cases hx)) (by simp; omega) (fun x hx => (by cases hx)) (⟨fun x hx => (by cases hx), rfl, rfl, fun s hs => (by cases hs)⟩ : PI p ([] ++ (none : Option pages_open).toList) [])
  rw [List.nil_append] at P
  refine ⟨_, b3, b4, P.gp, ?_, ?_, fun s hs hn hh => ?_⟩
  ·have := P.fw; rw [f1] at this; exact this
  ·have := P.nt; rw [f2] at this; exact this
  ·exact P.hd s (by rw [f1]; exact List.mem_filter.2 ⟨hs, by rw [hn]; rfl⟩) hh
 ·rw [b1] at f1 f2
  simp only [List.flatMap_cons, List.flatMap_nil, List.append_nil] at f1 f2
  refine ⟨_, b4, Nat.le_of_ble_eq_true rfl, fun x hx => ?_, ?_, ?_, fun s hs hn hh => ?_⟩
  ·rw [List.mem_singleton.1 hx]
   exact ⟨b5, .inr b2, ⟨Nat.zero_le _, b5.nl⟩, fun s hs => (by cases hs)⟩
  ·rw [← f1]; rfl
  ·rw [← f2]; simp
  ·have : s ∈ l.filter fun s => !s.Note := List.mem_filter.2 ⟨hs, by rw [hn]; rfl⟩
   rw [← f1] at this
   cases this
end Go.Proofs.Ytlcfemplcaejgaa.LG
namespace Go.Proofs.Ytlcfemplcaejgaa.LG
open Go Go.LG Go.Lib

theorem plain_mk (s : api_Slice) : formelaw40_plain s = some (plS s) := rfl
theorem mf_app {α β : Type} [DecidableEq α] (a : α) (b : β) : ∀ (l : List (α × β)) (i : Nat), mfind l a i = none → mfind (l ++ [(a, b)]) a i = some (i + l.length, b)
 | [], i, _ => by simp [mfind]
 | x :: l, i, h => by
  simp only [mfind] at h
  split at h
  ·cases h
  ·rename_i hx
   simp only [List.cons_append, mfind, if_neg hx, mf_app a b l (i + 1) h, List.length_cons]
   congr 2
   omega
theorem mf_le {α β : Type} [DecidableEq α] (a : α) : ∀ (l : List (α × β)) (i j : Nat) (v : β), mfind l a i = some (j, v) → i ≤ j ∧ l[j - i]? = some (a, v)
 | [], i, j, v, h => by cases h
 | x :: l, i, j, v, h => by
  simp only [mfind] at h
  split at h
  ·rename_i hx
   cases h
   simp [hx]
  ·obtain ⟨h1, h2⟩ := mf_le a l (i + 1) j v h
   refine ⟨by omega, ?_⟩
   rw [show j - i = (j - (i + 1)) + 1 by omega, List.getElem?_cons_succ]
   exact h2
theorem mf_set {α β : Type} [DecidableEq α] (a : α) (b : β) : ∀ (l : List (α × β)) (i j : Nat) (v : β), mfind l a i = some (j, v) → mfind (l.set (j - i) (a, b)) a i = some (j, b)
 | [], i, j, v, h => by cases h
 | x :: l, i, j, v, h => by
  simp only [mfind] at h
  split at h
  ·rename_i hx
   cases h
   simp [mfind]
  ·rename_i hx
   have h1 := (mf_le a l (i + 1) j v h).1
   rw [show j - i = (j - (i + 1)) + 1 by omega, List.set_cons_succ]
   simp only [mfind, if_neg hx, mf_set a b l (i + 1) j v h]
theorem mg_put {α β : Type} [DecidableEq α] (l : List (α × β)) (a : α) (b : β) : mget (mput l a b) a = some b := by
 unfold mget mput
 cases h : mfind l a 0 with
 | none => simp [mf_app a b l 0 h]
 | some q =>
  obtain ⟨j, v⟩ := q
  have := mf_set a b l 0 j v h
  rw [Nat.sub_zero] at this
  simp [this]
theorem mg_ne {α β : Type} [DecidableEq α] (l : List (α × β)) (a c : α) (b : β) (hc : c ≠ a) : mget (mput l a b) c = mget l c := by
 have key : ∀ (l : List (α × β)) (i : Nat), (mfind (l ++ [(a, b)]) c i).map (·.2) = (mfind l c i).map (·.2) := by
  intro l
  induction l with
  | nil => intro i; simp [mfind, hc]
  | cons x l ih =>
   intro i
   simp only [List.cons_append, mfind]
   split
   ·rfl
   ·exact ih (i + 1)
 have key2 : ∀ (l : List (α × β)) (j i : Nat) (v : β), l[j]? = some (a, v) → (mfind (l.set j (a, b)) c i).map (·.2) = (mfind l c i).map (·.2) := by
  intro l
  induction l with
  | nil => intro j i v h; simp at h
  | cons x l ih =>
   intro j i v h
   cases j with
   | zero =>
    simp only [List.getElem?_cons_zero, Option.some.injEq] at h
    subst h
    simp [mfind, hc]
   | succ j =>
    rw [List.getElem?_cons_succ] at h
    rw [List.set_cons_succ]
    simp only [mfind]
    split
    ·rfl
    ·exact ih j (i + 1) v h
 unfold mget mput
 cases h : mfind l a 0 with
 | none => exact key l 0
 | some q =>
  obtain ⟨j, v⟩ := q
  have hy := (mf_le a l 0 j v h).2
  rw [Nat.sub_zero] at hy
  exact key2 l j 0 v hy
abbrev Cp := List (api_Slice × Int)
def CpOk (cp : Cp) (n : Nat) : Prop := ∀ k v, mget cp k = some v → 0 < v ∧ v ≤ (n : Int)
theorem cp_step {cp : Cp} {n : Nat} (h : CpOk cp n) (hn : n ≤ 100000000) (a : api_Slice) : w64 ((mget cp a).getD 0 + 1) = (mget cp a).getD 0 + 1 ∧ CpOk (mput cp a ((mget cp a).getD 0 + 1)) (n + 1) ∧ (∀ k, (mget cp k).isSome = true → (mget (mput cp a ((mget cp a).getD 0 + 1)) k).isSome = true) ∧ (mget (mput cp a ((mget cp a).getD 0 + 1)) a).isSome = true := by
 have hb : 0 ≤ (mget cp a).getD 0 ∧ (mget cp a).getD 0 ≤ (n : Int) := by
  cases e : mget cp a with
  | none => simp
  | some v => have := h a v e; simp only [Option.getD_some]; omega
 refine ⟨w64_id (by omega) (by omega), fun k v e => ?_, fun k hk => ?_, by rw [mg_put]; rfl⟩
 ·by_cases c : k = a
  ·rw [c, mg_put] at e
   cases e
   push_cast
   omega
  ·rw [mg_ne _ _ _ _ c] at e
   have := h k v e
   push_cast
   omega
 ·by_cases c : k = a
  ·rw [c, mg_put]; rfl
  ·rw [mg_ne _ _ _ _ c]; exact hk
theorem once_placed {out : List api_Page} {i : Nat} (hi : i < out.length) {A T : List api_Slice} (hS : (out[i]).Slices = A ++ T) (hl : (A ++ T).length ≤ 20000) {H0 : Int} (h0 : 0 ≤ H0 ∧ H0 ≤ 10000000000)
  (hA : ∀ s ∈ A, s.Note = false ∧ -3000000000 ≤ s.Y ∧ (0 ≤ s.H ∧ s.H ≤ 1000000) ∧ s.Y + s.H ≤ H0) : ∀ (n k : Nat) (F N Hd : List api_Slice) (low : Int) (cp : Cp), A.length - k = n → k ≤ A.length → 0 ≤ low ∧ low ≤ H0 → F.length + N.length + Hd.length ≤ 10000000 + k → CpOk cp Hd.length →
  ∃ Hd' low' cp', formelaw40_PagesOnce_l265 out (i : Int) F N Hd false low (k : Int) cp = formelaw40_PagesOnce_l265 out (i : Int) (F ++ fl (A.drop k)) N Hd' false low' (A.length : Int) cp' ∧ (0 ≤ low' ∧ low' ≤ H0) ∧
   (F ++ fl (A.drop k)).length + N.length + Hd'.length = F.length + N.length + Hd.length + (A.length - k) ∧ CpOk cp' Hd'.length ∧ (∀ q, (mget cp q).isSome = true → (mget cp' q).isSome = true) ∧ ∀ s ∈ A.drop k, s.Head = true → (mget cp' (plS s)).isSome = true := by
 intro n
 induction n with
 | zero =>
  intro k F N Hd low cp hn hk hlow hc hcp
  have e : k = A.length := by omega
  subst e
  rw [List.drop_eq_nil_of_le (Nat.le_refl _)]
  refine ⟨Hd, low, cp, ?_, hlow, ?_, hcp, fun _ h => h, fun s hs => (by cases hs)⟩
  ·show _ = formelaw40_PagesOnce_l265 out (i : Int) (F ++ []) N Hd false low (A.length : Int) cp
   rw [List.append_nil]
  ·show (F ++ []).length + _ + _ = _
   simp
 | succ n ih =>
  intro k F N Hd low cp hn hk hlow hc hcp
  have hlt : k < A.length := by omega
  have hlt2 : k < (A ++ T).length := by rw [List.length_append]; omega
  have hAT : A.length ≤ 20000 := by rw [List.length_append] at hl; omega
  have hs := hA _ (List.getElem_mem hlt)
  have hd := List.drop_eq_getElem_cons hlt
  have e1 : w64 ((k : Int) + 1) = ((k + 1 : Nat) : Int) := by rw [w64_id (by omega) (by omega)]; omega
  rw [formelaw40_PagesOnce_l265, gd _ _ hi, hS, if_pos (by omega), if_pos ⟨by omega, by omega⟩, gd _ _ hlt2, List.getElem_append_left hlt, e1]
  simp only [hs.1, Bool.false_eq_true, if_false, some_bind, Bool.not_false, if_true, plain_mk, w64_id (n := (A[k]).Y + (A[k]).H) (by omega) (by omega)]
  have hlow2 : 0 ≤ max low ((A[k]).Y + (A[k]).H) ∧ max low ((A[k]).Y + (A[k]).H) ≤ H0 := by omega
  cases hh : (A[k]).Head with
  | true =>
   obtain ⟨c1, c2, c3, c4⟩ := cp_step hcp (by omega) (plS A[k])
   simp only [if_true, some_bind]
   rw [if_pos (by omega), c1]
   simp only [some_bind]
   obtain ⟨Hd', low', cp', g1, g2, g3, g4, g5, g6⟩ := ih (k + 1) F N (Hd ++ [A[k]]) _ (mput cp (plS A[k]) ((mget cp (plS A[k])).getD 0 + 1)) (by omega) (by omega) hlow2 (by rw [List.length_append, List.length_singleton]; omega) (by rw [List.length_append, List.length_singleton]; exact c2)
   have ef : fl (A.drop k) = fl (A.drop (k + 1)) := by rw [hd]; unfold fl; rw [List.filter_cons, hh]; rfl
   refine ⟨Hd', low', cp', ?_, g2, ?_, g4, fun q hq => g5 q (c3 q hq), fun s hs' hsh => ?_⟩
   ·rw [ef]; exact g1
   ·rw [ef, g3, List.length_append, List.length_singleton]; omega
   ·rw [hd] at hs'
    rcases List.mem_cons.1 hs' with rfl | hs'
    ·exact g5 _ c4
    ·exact g6 s hs' hsh
  | false =>
   simp only [Bool.false_eq_true, if_false, some_bind]
   rw [if_pos (by omega)]
   simp only [some_bind]
   obtain ⟨Hd', low', cp', g1, g2, g3, g4, g5, g6⟩ := ih (k + 1) (F ++ [plS A[k]]) N Hd _ cp (by omega) (by omega) hlow2 (by rw [List.length_append, List.length_singleton]; omega) hcp
   have ef : F ++ fl (A.drop k) = F ++ [plS A[k]] ++ fl (A.drop (k + 1)) := by rw [hd]; unfold fl; rw [List.filter_cons, hh]; simp
   refine ⟨Hd', low', cp', ?_, g2, ?_, g4, g5, fun s hs' hsh => ?_⟩
   ·rw [ef]; exact g1
   ·rw [ef, g3, List.length_append, List.length_singleton]; omega
   ·rw [hd] at hs'
    rcases List.mem_cons.1 hs' with rfl | hs'
    ·rw [hh] at hsh; cases hsh
    ·exact g6 s hs' hsh
theorem once_notes {out : List api_Page} {i : Nat} (hi : i < out.length) {A T : List api_Slice} (hS : (out[i]).Slices = A ++ T) (hl : (A ++ T).length ≤ 20000) {low : Int}
  (hT : ∀ s ∈ T, s.Note = true ∧ low ≤ s.Y) (Hd F : List api_Slice) (cp : Cp) : ∀ (n k : Nat) (N : List api_Slice) (bh : Bool), T.length - k = n → k ≤ T.length → N.length ≤ 20000000 + k →
  formelaw40_PagesOnce_l265 out (i : Int) F N Hd bh low ((A.length + k : Nat) : Int) cp = some (.inr (F, N ++ (T.drop k).map plS, Hd, cp)) := by
 intro n
 induction n with
 | zero =>
  intro k N bh hn hk hN
  have e : k = T.length := by omega
  subst e
  rw [formelaw40_PagesOnce_l265, gd _ _ hi, hS, if_neg (by rw [List.length_append]; omega), List.drop_eq_nil_of_le (Nat.le_refl _)]
  simp
 | succ n ih =>
  intro k N bh hn hk hN
  have hlt : k < T.length := by omega
  have hlt2 : A.length + k < (A ++ T).length := by rw [List.length_append]; omega
  have hs := hT _ (List.getElem_mem hlt)
  have eg : (A ++ T)[A.length + k] = T[k] := by
   rw [List.getElem_append_right (by omega)]
   simp
  have e1 : w64 (((A.length + k : Nat) : Int) + 1) = ((A.length + (k + 1) : Nat) : Int) := by rw [w64_id (by omega) (by omega)]; omega
  rw [formelaw40_PagesOnce_l265, gd _ _ hi, hS, if_pos (by omega), if_pos ⟨by omega, by omega⟩, gd _ _ hlt2, eg, e1]
  have hnl : ¬ (T[k]).Y < low := by omega
  have e3 : (if bh = true then some false else some false : Option Bool) = some false := by cases bh <;> rfl
  have e4 : (if bh = true then some true else some true : Option Bool) = some true := by cases bh <;> rfl
  simp only [hs.1, e3, e4, some_bind, Bool.false_eq_true, if_false, if_true, hnl, decide_false, Bool.not_true, plain_mk]
  rw [if_pos (by omega)]
  simp only [some_bind]
  rw [ih (k + 1) (N ++ [plS T[k]]) true (by omega) (by omega) (by rw [List.length_append, List.length_singleton]; omega), List.drop_eq_getElem_cons hlt, List.map_cons, List.append_assoc]
  rfl
theorem notesAt_ok : ∀ (l : List api_Slice) (y : Int), (∀ s ∈ l, 0 ≤ s.H) → (notesAt y l).map plS = l.map plS ∧ (notesAt y l).length = l.length ∧ ∀ s ∈ notesAt y l, y ≤ s.Y ∧ ((∀ q ∈ l, q.Note = true) → s.Note = true)
 | [], y, _ => ⟨rfl, rfl, fun s hs => (by cases hs)⟩
 | q :: l, y, h => by
  obtain ⟨h1, h2, h3⟩ := notesAt_ok l (y + q.H) fun s hs => h s (List.mem_cons_of_mem _ hs)
  have hq := h q (List.mem_cons_self ..)
  refine ⟨?_, ?_, fun s hs => ?_⟩
  ·rw [notesAt, List.map_cons, List.map_cons, h1]; rfl
  ·rw [notesAt, List.length_cons, List.length_cons, h2]
  ·rw [notesAt] at hs
   rcases List.mem_cons.1 hs with rfl | hs
   ·exact ⟨Int.le_refl _, fun hn => hn q (List.mem_cons_self ..)⟩
   ·obtain ⟨g1, g2⟩ := h3 s hs
    exact ⟨by omega, fun hn => g2 fun x hx => hn x (List.mem_cons_of_mem _ hx)⟩
theorem pgs_get (p : api_Paper) : ∀ (os : List pages_open) (n i : Nat) (h : i < os.length), (pgsF p n os)[i]'(by rw [pgs_len]; exact h) = ⟨((n + i : Nat) : Int) + 1, closeO os[i] p⟩
 | [], n, i, h => by simp at h
 | o :: os, n, 0, h => by simp [pgsF]
 | o :: os, n, i + 1, h => by
  have := pgs_get p os (n + 1) i (by simpa using h)
  simp only [pgsF, List.getElem_cons_succ, this]
  congr 3
  omega
theorem once_pages {p : api_Paper} {os : List pages_open} (hl : os.length ≤ 100) (hG : ∀ x ∈ os, Gp p x) : ∀ (n i : Nat) (F N Hd : List api_Slice) (cp : Cp), os.length - i = n → i ≤ os.length → F.length + N.length + Hd.length ≤ 20000 * i → CpOk cp Hd.length →
  ∃ (Hd' : List api_Slice) (cp' : Cp), formelaw40_PagesOnce_l129 (pgsF p 0 os) F N Hd (i : Int) cp = some (.inr (F ++ (os.drop i).flatMap (fun x => fl x.placed), N ++ ((os.drop i).flatMap (·.notes)).map plS, cp')) ∧ CpOk cp' Hd'.length ∧ (∀ q, (mget cp q).isSome = true → (mget cp' q).isSome = true) ∧
   ∀ x ∈ os.drop i, ∀ s ∈ x.placed, s.Head = true → (mget cp' (plS s)).isSome = true := by
 intro n
 induction n with
 | zero =>
  intro i F N Hd cp hn hik hc hcp
  rw [formelaw40_PagesOnce_l129, pgs_len, if_neg (by omega), List.drop_eq_nil_of_le (by omega)]
  exact ⟨Hd, cp, by simp, hcp, fun _ h => h, fun x hx => (by cases hx)⟩
 | succ n ih =>
  intro i F N Hd cp hn hik hc hcp
  have hlt : i < os.length := by omega
  have hlt2 : i < (pgsF p 0 os).length := by rw [pgs_len]; exact hlt
  have G := hG _ (List.getElem_mem hlt)
  have hd := List.drop_eq_getElem_cons hlt
  have ep := pgs_get p os 0 i hlt
  rw [Nat.zero_add] at ep
  have eS : ((pgsF p 0 os)[i]).Slices = (os[i]).placed ++ notesAt (max (p.Height - sumH (os[i]).notes) (hi (os[i]).fills)) (os[i]).notes := by rw [ep]; rfl
  have eN : ((pgsF p 0 os)[i]).Number = (i : Int) + 1 := by rw [ep]
  obtain ⟨n1, n2, n3⟩ := notesAt_ok (os[i]).notes (max (p.Height - sumH (os[i]).notes) (hi (os[i]).fills)) fun s hs => ((G.ok.nt s hs).1).h.1
  have hH := hi_ok G.ok.fl
  have gl := G.len
  have e1 : w64 ((i : Int) + 1) = ((i + 1 : Nat) : Int) := by rw [w64_id (by omega) (by omega)]; omega
  generalize hT : notesAt (max (p.Height - sumH (os[i]).notes) (hi (os[i]).fills)) (os[i]).notes = T at eS n1 n2 n3
  have hlen : ((os[i]).placed ++ T).length ≤ 20000 := by rw [List.length_append, n2]; omega
  have hne : ¬ ((((os[i]).placed ++ T).length : Nat) : Int) = 0 := by
   rw [List.length_append, n2]
   rcases G.ne with g | g
   ·have := List.length_pos_iff.2 g; omega
   ·have := List.length_pos_iff.2 g; omega
  rw [formelaw40_PagesOnce_l129, if_pos (by omega), if_pos ⟨by omega, by omega⟩, gd _ _ hlt2, eN, eS, e1]
  have eq1 : ¬ ¬ ((i : Int) + 1 = ((i + 1 : Nat) : Int)) := by push_cast; simp
  simp only [if_neg eq1, hne, decide_false, some_bind, Bool.false_eq_true, if_false]
  obtain ⟨Hd1, low1, cp1, g1, g2, g3, g4, g5, g6⟩ := once_placed hlt2 eS hlen (H0 := hi (os[i]).fills) hH G.pl _ 0 F N Hd 0 cp rfl (Nat.zero_le _) ⟨Int.le_refl _, hH.1⟩ (by omega) hcp
  rw [List.drop_zero] at g1 g3 g6
  have hNt := once_notes hlt2 eS hlen (low := low1) (fun s hs => ⟨(n3 s hs).2 fun q hq => (G.ok.nt q hq).2, by have := (n3 s hs).1; omega⟩) Hd1 (F ++ fl (os[i]).placed) cp1 _ 0 N false rfl (Nat.zero_le _) (by omega)
  rw [Nat.add_zero, List.drop_zero, n1] at hNt
  have g1' : formelaw40_PagesOnce_l265 (pgsF p 0 os) (i : Int) F N Hd false 0 0 cp = some (.inr (F ++ fl (os[i]).placed, N ++ (os[i]).notes.map plS, Hd1, cp1)) := by
   rw [← hNt]
   exact g1
  rw [g1']
  simp only [some_bind]
  obtain ⟨Hd', cp', k1, k2, k3, k4⟩ := ih (i + 1) (F ++ fl (os[i]).placed) (N ++ (os[i]).notes.map plS) Hd1 cp1 (by omega) (by omega) (by
   rw [List.length_append (as := N), List.length_map]
   omega) g4
  refine ⟨Hd', cp', ?_, k2, fun q hq => k3 q (g5 q hq), fun x hx s hs hh => ?_⟩
  ·rw [k1, hd, List.flatMap_cons, List.flatMap_cons, List.map_append, List.append_assoc, List.append_assoc]
  ·rw [hd] at hx
   rcases List.mem_cons.1 hx with rfl | hx
   ·exact k3 _ (g6 s hs hh)
   ·exact k4 x hx s hs hh
theorem cut_cons {α : Type} (a : α) (l : List α) : cutl (a :: l) 1 ((a :: l).length : Int) = l := by
 unfold cutl
 rw [show Int.toNat ((a :: l).length : Int) = (a :: l).length from rfl, List.take_length]
 rfl
theorem once_back {l : List api_Slice} (hl : l.length ≤ 60) {cp : Cp} {n0 : Nat} (hcp : CpOk cp n0) (hC : ∀ s ∈ l, s.Note = false → s.Head = true → (mget cp (plS s)).isSome = true) : ∀ (n i : Nat), l.length - i = n → i ≤ l.length →
  formelaw40_PagesOnce_l1080 l cp true (fl ((l.drop i).filter fun s => !s.Note)) (((l.drop i).filter (·.Note)).map plS) (i : Int) = some (.inr (true, [], [])) := by
 intro n
 induction n with
 | zero =>
  intro i hn hi
  rw [formelaw40_PagesOnce_l1080, if_neg (by omega), List.drop_eq_nil_of_le (by omega)]
  rfl
 | succ n ih =>
  intro i hn hi
  have hlt : i < l.length := by omega
  have hd := List.drop_eq_getElem_cons hlt
  have e1 : w64 ((i : Int) + 1) = ((i + 1 : Nat) : Int) := by rw [w64_id (by omega) (by omega)]; omega
  have ih' := ih (i + 1) (by omega) (by omega)
  rw [formelaw40_PagesOnce_l1080, if_pos (by omega), if_pos ⟨by omega, by omega⟩, gd _ _ hlt, e1]
  cases hn' : (l[i]).Note with
  | true =>
   have ea : ((l.drop i).filter (·.Note)).map plS = plS l[i] :: ((l.drop (i + 1)).filter (·.Note)).map plS := by rw [hd, List.filter_cons, hn']; rfl
   have eb : fl ((l.drop i).filter fun s => !s.Note) = fl ((l.drop (i + 1)).filter fun s => !s.Note) := by rw [hd, List.filter_cons, hn']; rfl
   rw [ea, eb]
   have hz : ¬ (((plS l[i] :: ((l.drop (i + 1)).filter (·.Note)).map plS).length : Nat) : Int) = 0 := by simp only [List.length_cons]; omega
   have hp : (0 : Int) ≤ 0 ∧ 0 < (((plS l[i] :: ((l.drop (i + 1)).filter (·.Note)).map plS).length : Nat) : Int) := ⟨Int.le_refl _, by simp only [List.length_cons]; omega⟩
   have hq : (0 : Int) ≤ 1 ∧ (1 : Int) ≤ (((plS l[i] :: ((l.drop (i + 1)).filter (·.Note)).map plS).length : Nat) : Int) := ⟨by decide, by simp only [List.length_cons]; omega⟩
   have hg' : (plS l[i] :: ((l.drop (i + 1)).filter (·.Note)).map plS).getD (Int.toNat 0) z_api_Slice = plS l[i] := rfl
   simp only [if_true, if_neg hz, if_pos hp, plain_mk, some_bind, hg', not_true_eq_false, decide_false, Bool.false_eq_true, if_false, if_pos hq, cut_cons]
   exact ih'
  | false =>
   have ea : ((l.drop i).filter (·.Note)).map plS = ((l.drop (i + 1)).filter (·.Note)).map plS := by rw [hd, List.filter_cons, hn']; rfl
   cases hh : (l[i]).Head with
   | true =>
    have eb : fl ((l.drop i).filter fun s => !s.Note) = fl ((l.drop (i + 1)).filter fun s => !s.Note) := by
     rw [hd, List.filter_cons, hn']
     simp only [Bool.not_false, if_true]
     unfold fl
     rw [List.filter_cons, hh]; rfl
    rw [ea, eb]
    have hm := hC _ (List.getElem_mem hlt) hn' hh
    obtain ⟨v, hv⟩ := Option.isSome_iff_exists.1 hm
    have hv0 := (hcp _ v hv).1
    simp only [Bool.false_eq_true, if_false, if_true, plain_mk, some_bind, hv, Option.getD_some, hv0, decide_true]
    exact ih'
   | false =>
    have eb : fl ((l.drop i).filter fun s => !s.Note) = plS l[i] :: fl ((l.drop (i + 1)).filter fun s => !s.Note) := by
     rw [hd, List.filter_cons, hn']
     simp only [Bool.not_false, if_true]
     unfold fl
     rw [List.filter_cons, hh]; rfl
    rw [ea, eb]
    have hz : ¬ (((plS l[i] :: fl ((l.drop (i + 1)).filter fun s => !s.Note)).length : Nat) : Int) = 0 := by simp only [List.length_cons]; omega
    have hp : (0 : Int) ≤ 0 ∧ 0 < (((plS l[i] :: fl ((l.drop (i + 1)).filter fun s => !s.Note)).length : Nat) : Int) := ⟨Int.le_refl _, by simp only [List.length_cons]; omega⟩
    have hq : (0 : Int) ≤ 1 ∧ (1 : Int) ≤ (((plS l[i] :: fl ((l.drop (i + 1)).filter fun s => !s.Note)).length : Nat) : Int) := ⟨by decide, by simp only [List.length_cons]; omega⟩
    have hg' : (plS l[i] :: fl ((l.drop (i + 1)).filter fun s => !s.Note)).getD (Int.toNat 0) z_api_Slice = plS l[i] := rfl
    simp only [Bool.false_eq_true, if_true, if_neg hz, if_pos hp, plain_mk, some_bind, hg', not_true_eq_false, decide_false, if_false, if_pos hq, cut_cons]
    exact ih'
theorem pagesOnce_true (p : api_Paper) (l : List api_Slice) (keep : List Bool) (hl0 : l.length ≤ 4611686018427387904) (ht : ∀ s ∈ l, s.Text.size ≤ 9223372036854775807) : formelaw40_PagesOnce p l keep = some true := by
 obtain ⟨u, hu, hU⟩ := usable40 p l keep hl0 ht
 unfold formelaw40_PagesOnce
 rw [head_true, some_bind, hu, some_bind]
 cases u
 ·rfl
 ·obtain ⟨h, hl, hk⟩ := hU rfl
  have hlen := hl.len
  obtain ⟨os, b1, b2, b3, b4, b5, b6⟩ := break_all h hl hk
  obtain ⟨Hd, cp, k1, k2, _, k4⟩ := once_pages b2 b3 _ 0 [] [] [] [] rfl (Nat.zero_le _) (Nat.le_refl _) (fun k v e => by simp [mget, mfind] at e)
  rw [List.drop_zero, List.nil_append, List.nil_append, b4, b5] at k1
  rw [List.drop_zero] at k4
  have k1' : formelaw40_PagesOnce_l129 (pgsF p 0 os) [] [] [] 0 [] = some (.inr (fl (l.filter fun s => !s.Note), (l.filter (·.Note)).map plS, cp)) := k1
  have hb := once_back hlen k2 (fun s hs hn hh => by
   obtain ⟨x, hx, q, hq, r1, r2⟩ := b6 s hs hn hh
   rw [← r2]
   exact k4 x hx q hq r1) _ 0 rfl (Nat.zero_le _)
  rw [List.drop_zero] at hb
  have hb' : formelaw40_PagesOnce_l1080 l cp true (fl (l.filter fun s => !s.Note)) ((l.filter (·.Note)).map plS) 0 = some (.inr (true, [], [])) := hb
  simp only [Bool.not_true, Bool.false_eq_true, if_false, b1, some_bind, not_true_eq_false, k1', hb', if_true]
  rfl
end Go.Proofs.Ytlcfemplcaejgaa.LG
