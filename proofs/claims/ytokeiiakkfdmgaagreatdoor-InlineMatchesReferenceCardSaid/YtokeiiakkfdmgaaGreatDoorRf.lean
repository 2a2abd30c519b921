/-
 The reference's texts and fonts answer as text and font do. Plain Lean; no program in sight.
-/
import Derived.Test.YtokeiiakkfdmgaaGreatDoorBe
import Derived.Test.YtokeiiakkfdmgaaGreatDoorPc
import Derived.Test.YtokeiiakkfdmgaaGreatDoorOn
set_option linter.unusedVariables false
set_option linter.unusedSimpArgs false
set_option maxRecDepth 100000
namespace Go.Proofs.YtokeiiakkfdmgaaGreatDoor.LG
open Go Go.LG Go.Lib

def Pv (t : List UInt8) (i : Nat) (o : Bool) : Prop := o = true ↔ ∃ j, j + 1 = i ∧ ∃ b, t[j]? = some b ∧ b.toNat ≠ 32
theorem refwords_loop (t : List UInt8) (ht : ∀ b ∈ t, b.toNat ≠ 126) (hs : t.length ≤ 1000000) : ∀ (n i k : Nat) (o : Bool), t.length - i = n → i ≤ t.length → k ≤ i →
  Pv t i o → formeref06_Words_l43 ⟨t.toArray⟩ (k : Int) (i : Int) = some ((k + wc o (t.drop i) : Nat) : Int) := by
 intro n
 induction n with
 | zero =>
  intro i k o hn hi hk ho
  have : i = t.length := by omega
  subst this
  rw [formeref06_Words_l43, sz, if_neg (by omega), List.drop_length]
  simp [wc]
 | succ n ih =>
  intro i k o hn hi hk ho
  have hlt : i < t.length := by omega
  have h6 : (t[i]).toNat ≠ 126 := ht _ (by simp)
  rw [formeref06_Words_l43, sz, if_pos (by omega), if_pos (by omega), bt_mk t hlt, w64_id (n := (i : Int) + 1) (by omega) (by omega), add1 i, List.drop_eq_getElem_cons hlt]
  have next : Pv t (i + 1) (decide ((t[i]).toNat ≠ 32)) := by
   unfold Pv
   rw [decide_eq_true_eq]
   constructor
   ·intro h; exact ⟨i, rfl, t[i], by simp, h⟩
   ·rintro ⟨j, hj, b, hb, h⟩
    have : j = i := by omega
    subst this
    rw [List.getElem?_eq_getElem hlt] at hb
    cases hb; exact h
  by_cases h4 : (t[i]).toNat = 32
  ·rw [if_neg (by omega), some_bind, if_neg (by simp), some_bind, ih (i + 1) k false (by omega) (by omega) (by omega) (by have e := next; simpa [h4] using e), wc, if_neg h6, if_pos h4]
  ·rw [if_pos (by omega)]
   have prev : (if (i : Int) = 0 then some true else (if (0 : Int) ≤ w64 ((i : Int) - 1) ∧ w64 ((i : Int) - 1) < ((t.length : Nat) : Int) then some (decide ((bt ⟨t.toArray⟩ (w64 ((i : Int) - 1))) = 32)) else none)) = some (!o) := by
    by_cases h0 : i = 0
    ·rw [if_pos (by omega)]
     have : o = false := by
      unfold Pv at ho
      rw [Bool.eq_false_iff, Ne, ho]
      rintro ⟨j, hj, _⟩
      exact absurd hj (by omega)
     rw [this]; rfl
    ·rw [if_neg (by omega), w64_id (by omega) (by omega), if_pos (by omega)]
     have e : (i : Int) - 1 = ((i - 1 : Nat) : Int) := by omega
     have hj : i - 1 < t.length := by omega
     rw [e, bt_mk t hj]
     by_cases hb : (t[i - 1]).toNat = 32
     ·have : o = false := by
       unfold Pv at ho
       rw [Bool.eq_false_iff, Ne, ho]
       rintro ⟨j, hj', b, hb', h⟩
       clear ho
       have : j = i - 1 := by omega
       subst this
       rw [List.getElem?_eq_getElem hj] at hb'
       cases hb'; exact h hb
      rw [this]; simp; omega
     ·have : o = true := ho.2 ⟨i - 1, by omega, t[i - 1], by simp, hb⟩
      rw [this]; simp; omega
   rw [prev, some_bind, some_bind, wc, if_neg h6, if_neg h4]
   cases o
   ·rw [if_pos (by rfl), some_bind, w64_id (by omega) (by omega), add1 k, ih (i + 1) (k + 1) true (by omega) (by omega) (by omega) (by have e := next; simpa [h4] using e)]
    simp only [Bool.false_eq_true, if_false, Nat.add_assoc]
   ·rw [if_neg (by simp), some_bind, ih (i + 1) k true (by omega) (by omega) (by omega) (by have e := next; simpa [h4] using e)]
    simp only [if_true, Nat.zero_add]
theorem refWords_eq {l : List UInt8} (hs : l.length ≤ 1000000) : formeref06_Words ⟨l.toArray⟩ = text_Words ⟨l.toArray⟩ := by
 unfold formeref06_Words
 rw [refValid_mk l (by omega), some_bind]
 cases h : okS l
 ·rw [words_no h]; simp
 ·rw [words_mk h, refshown_mk hs]
  simp only [Bool.not_true, Bool.false_eq_true, if_false, some_bind]
  have := refwords_loop (shown l) (fun b hb => (shown_mem hb).2) (by have := shown_len l; omega) _ 0 0 false rfl (Nat.zero_le _) (Nat.le_refl _) (by simp [Pv])
  rw [show (0 : Int) = ((0 : Nat) : Int) from rfl, this, some_bind, List.drop_zero, wc_shown]
  simp
theorem rshown_loop (l : List UInt8) (hs : l.length ≤ 1000000) : ∀ (n i : Nat) (acc : List UInt8), l.length - i = n → i ≤ l.length → acc.length ≤ i →
  formeref07_Shown_l34 ⟨l.toArray⟩ (ints acc) (i : Int) = some (ints (acc ++ shown (l.drop i))) := by
 intro n
 induction n with
 | zero =>
  intro i acc hn hi ha
  have : i = l.length := by omega
  subst this
  rw [formeref07_Shown_l34, sz, if_neg (by omega), List.drop_length]
  simp [shown]
 | succ n ih =>
  intro i acc hn hi ha
  have hlt : i < l.length := by omega
  rw [formeref07_Shown_l34, sz, if_pos (by omega), if_pos (by omega), bt_mk l hlt, w64_id (by omega) (by omega), add1, List.drop_eq_getElem_cons hlt]
  by_cases h : ((l[i]).toNat : Int) = 126
  ·rw [if_neg (by omega), some_bind, ih (i + 1) acc (by omega) (by omega) (by omega)]
   have h' : (l[i]).toNat = 126 := by omega
   rw [shown_cons, if_pos h']
  ·rw [if_pos h, if_pos (by omega), if_pos (by simp [ints]; omega), some_bind]
   have h' : ¬ (l[i]).toNat = 126 := by omega
   have e : ints acc ++ [((l[i]).toNat : Int)] = ints (acc ++ [l[i]]) := by simp [ints]
   rw [e, ih (i + 1) (acc ++ [l[i]]) (by omega) (by omega) (by simp; omega), shown_cons, if_neg h', List.append_assoc]
   rfl
theorem rshown_mk {l : List UInt8} (hs : l.length ≤ 1000000) : formeref07_Shown ⟨l.toArray⟩ = some (ints (shown l)) := by
 unfold formeref07_Shown
 rw [show (0 : Int) = ((0 : Nat) : Int) from rfl, show ([] : List Int) = ints [] from rfl, rshown_loop l hs _ 0 [] rfl (Nat.zero_le _) (Nat.le_refl 0), some_bind]
 simp only [List.nil_append, List.drop_zero]
theorem ints_len (l : List UInt8) : (ints l).length = l.length := by simp [ints]
theorem ints_get (l : List UInt8) {i : Nat} (h : i < l.length) : (ints l).getD i 0 = ((l[i]).toNat : Int) := by
 unfold ints
 rw [List.getD_eq_getElem?_getD, List.getElem?_map, List.getElem?_eq_getElem h]
 rfl
def inG (f : api_Font) (g : List UInt8) : Bool := g.all fun b => (gof f.Glyphs (b.toNat : Int)).isSome
theorem inG_shown (f : api_Font) : ∀ l : List UInt8, inG f (shown l) = hasG f l
 | [] => rfl
 | b :: l => by
  have ih := inG_shown f l
  have e : hasG f (b :: l) = ((decide (b.toNat = 126) || (gof f.Glyphs (b.toNat : Int)).isSome) && hasG f l) := rfl
  rw [shown_cons, e]
  by_cases h : b.toNat = 126
  ·rw [if_pos h, ih]; simp [h]
  ·rw [if_neg h]
   have e2 : inG f (b :: shown l) = ((gof f.Glyphs (b.toNat : Int)).isSome && inG f (shown l)) := rfl
   rw [e2, ih]; simp [h]
theorem rhas_loop (f : api_Font) (hf : Sm f) (g : List UInt8) (hg : g.length ≤ 1000000) : ∀ (n i : Nat), g.length - i = n → i ≤ g.length →
  formeref07_Has_l76 f (ints g) (i : Int) = some (if inG f (g.drop i) = true then .inr () else .inl ()) := by
 intro n
 induction n with
 | zero =>
  intro i hn hi
  rw [formeref07_Has_l76, ints_len, if_neg (by omega), List.drop_eq_nil_of_le (by omega)]
  rfl
 | succ n ih =>
  intro i hn hi
  have hlt : i < g.length := by omega
  have e : inG f (g.drop i) = ((gof f.Glyphs ((g[i]).toNat : Int)).isSome && inG f (g.drop (i + 1))) := by rw [List.drop_eq_getElem_cons hlt]; rfl
  rw [formeref07_Has_l76, ints_len, if_pos (by omega), if_pos ⟨by omega, by omega⟩, Int.toNat_natCast, ints_get g hlt, w64_id (n := (i : Int) + 1) (by omega) (by omega), add1, e]
  rcases rglyph_mk f ((g[i]).toNat : Int) hf.1 with ⟨h1, h2⟩ | ⟨k, hk, h1, h2⟩
  ·rw [h1, h2, some_bind, if_pos (by decide)]; rfl
  ·rw [h1, h2, some_bind, if_neg (by omega), ih (i + 1) (by omega) (by omega)]
   simp
theorem rhas_mk (f : api_Font) (hf : Sm f) (hv : formeref07_Valid f = some true) {l : List UInt8} (ho : okS l = true) : formeref07_Has f ⟨l.toArray⟩ = some (hasG f l, 0) := by
 have hl := (okS_all ho).2
 have h := rhas_loop f hf (shown l) (by have := shown_len l; omega) _ 0 rfl (Nat.zero_le _)
 have h' : formeref07_Has_l76 f (ints (shown l)) 0 = some (if hasG f l = true then .inr () else .inl ()) := by rw [← inG_shown]; exact h
 unfold formeref07_Has
 rw [hv, refValid_mk l (by omega), ho]
 simp only [some_bind, Bool.not_true, Bool.false_eq_true, if_false, rshown_mk (show l.length ≤ 1000000 by omega), h']
 cases hasG f l <;> rfl
theorem has_eq (f : api_Font) (hf : Sm f) {l : List UInt8} (hl : l.length ≤ 9223372036854775807) {v : Bool} (h1 : font_Valid f = some v) (h2 : formeref07_Valid f = some v) (hF : v = true → Fok f) :
  font_Has f ⟨l.toArray⟩ = some (if (v && okS l) = true then (hasG f l, 0) else (false, 1)) ∧ formeref07_Has f ⟨l.toArray⟩ = some (if (v && okS l) = true then (hasG f l, 0) else (false, 1)) := by
 cases v
 ·refine ⟨?_, ?_⟩
  ·unfold font_Has; rw [h1]; rfl
  ·unfold formeref07_Has; rw [h2, some_bind, refValid_mk l hl]; rfl
 ·cases ho : okS l
  ·refine ⟨?_, ?_⟩
   ·unfold font_Has; rw [h1, valid_mk, ho]; rfl
   ·unfold formeref07_Has; rw [h2, some_bind, refValid_mk l hl, ho]; rfl
  ·exact ⟨has_mk f hf (hF rfl) h1 ho, rhas_mk f hf h2 ho⟩
theorem rkern_loop (f : api_Font) (hf : Sm f) (a c : Int) : ∀ (n i : Nat), f.Kerns.length - i = n → (∀ k (h : k < f.Kerns.length), k < i → ¬ ((f.Kerns[k]).Left = a ∧ (f.Kerns[k]).Right = c)) →
  ∃ o, formeref07_Kern_l32 f a c (i : Int) = some o ∧ (match o with | .inl v => v | .inr _ => 0) = kerI f a c := by
 intro n
 induction n with
 | zero =>
  intro i hn hb
  rw [formeref07_Kern_l32, if_neg (by omega)]
  have e : kof f.Kerns a c = none := find_no fun k hk => by have := hb k hk (by omega); simpa using this
  exact ⟨_, rfl, by unfold kerI; rw [e]; rfl⟩
 | succ n ih =>
  intro i hn hb
  have hi : i < f.Kerns.length := by omega
  have hk2 := hf.2
  have b : (0 : Int) ≤ (i : Int) ∧ (i : Int) < (f.Kerns.length : Int) := ⟨by omega, by omega⟩
  rw [formeref07_Kern_l32, if_pos b.2, getD_at _ _ hi, w64_id (n := (i : Int) + 1) (by omega) (by omega), add1]
  simp only [if_pos b]
  by_cases h : (f.Kerns[i]).Left = a ∧ (f.Kerns[i]).Right = c
  ·rw [if_pos h.1, decide_eq_true h.2]
   simp only [some_bind, if_true]
   have e : kof f.Kerns a c = some f.Kerns[i] := find_some i hi (by simpa using h) fun k hk hki => by have := hb k hk hki; simpa using this
   exact ⟨_, rfl, by unfold kerI; rw [e]; rfl⟩
  ·have hd : (if (f.Kerns[i]).Left = a then some (decide ((f.Kerns[i]).Right = c)) else some false) = some false := by
    by_cases h1 : (f.Kerns[i]).Left = a
    ·rw [if_pos h1, decide_eq_false fun h2 => h ⟨h1, h2⟩]
    ·rw [if_neg h1]
   rw [hd, some_bind, if_neg (by decide)]
   exact ih (i + 1) (by omega) fun k hk hki => by
    rcases Nat.lt_or_ge k i with h' | h'
    ·exact hb k hk h'
    ·have : k = i := by omega
     subst this; exact h
theorem rkern_mk (f : api_Font) (hf : Sm f) (a c : Int) : formeref07_Kern f a c = some (kerI f a c) := by
 obtain ⟨o, h1, h2⟩ := rkern_loop f hf a c _ 0 rfl (fun k _ h => by omega)
 have h1' : formeref07_Kern_l32 f a c 0 = some o := h1
 unfold formeref07_Kern
 rw [h1', some_bind, ← h2]
 cases o <;> rfl
theorem rawS_shown (f : api_Font) : ∀ (l : List UInt8) (a : Int), rawS f a l = rawS f a (shown l)
 | [], a => rfl
 | c :: l, a => by
  rw [shown_cons]
  by_cases h : c.toNat = 126
  ·rw [if_pos h, ← rawS_shown f l a]; conv => lhs; unfold rawS
   rw [if_pos h]
  ·rw [if_neg h]; unfold rawS
   rw [if_neg h, if_neg h, rawS_shown f l]
def prevB (g : List UInt8) (i : Nat) : Int := if i = 0 then 0 else ((g.getD (i - 1) 0).toNat : Int)
theorem rraw_loop (f : api_Font) (hf : Sm f) (F : Fok f) (g : List UInt8) (h126 : ∀ b ∈ g, b.toNat ≠ 126) (hi : inG f g = true) (hg : g.length ≤ 1000000) : ∀ (n i : Nat) (u : Int), g.length - i = n → i ≤ g.length → -3000 * (i : Int) ≤ u → u ≤ 3000 * (i : Int) →
  formeref07_Raw_l74 f (ints g) u (i : Int) = some (u + rawS f (prevB g i) (g.drop i)) := by
 intro n
 induction n with
 | zero =>
  intro i u hn hi h1 h2
  rw [formeref07_Raw_l74, ints_len, if_neg (by omega), List.drop_eq_nil_of_le (by omega)]
  unfold rawS
  rw [Int.add_zero]
 | succ n ih =>
  intro i u hn hle h1 h2
  have hlt : i < g.length := by omega
  have h6 := h126 _ (List.getElem_mem hlt)
  have hs : (gof f.Glyphs ((g[i]).toNat : Int)).isSome = true := by
   unfold inG at hi
   exact List.all_eq_true.1 hi _ (List.getElem_mem hlt)
  have ha := advI_ok F ((g[i]).toNat : Int)
  have hk := kerI_ok F (prevB g i) ((g[i]).toNat : Int)
  have hp : prevB g (i + 1) = ((g[i]).toNat : Int) := by
   unfold prevB
   rw [if_neg (by omega), Nat.add_sub_cancel, List.getD_eq_getElem?_getD, List.getElem?_eq_getElem hlt]
   rfl
  have hn' := ih (i + 1) (u + (advI f ((g[i]).toNat : Int) + kerI f (prevB g i) ((g[i]).toNat : Int))) (by omega) (by omega) (by omega) (by omega)
  rw [hp] at hn'
  have hr : rawS f (prevB g i) (g.drop i) = (advI f ((g[i]).toNat : Int) + kerI f (prevB g i) ((g[i]).toNat : Int)) + rawS f ((g[i]).toNat : Int) (g.drop (i + 1)) := by
   rw [List.drop_eq_getElem_cons hlt]
   conv => lhs; unfold rawS
   rw [if_neg h6]
  rw [hr, ← Int.add_assoc, ← hn']
  rcases rglyph_mk f ((g[i]).toNat : Int) hf.1 with ⟨q1, q2⟩ | ⟨k, hk', q1, q2⟩
  ·rw [q1] at hs; cases hs
  ·have e : (f.Glyphs.getD k z_api_Glyph).Advance = advI f ((g[i]).toNat : Int) := by
    unfold advI
    rw [q1, List.getD_eq_getElem?_getD, List.getElem?_eq_getElem hk']; rfl
   conv => lhs; rw [formeref07_Raw_l74]
   rw [ints_len, if_pos (by omega), w64_id (n := (i : Int) + 1) (by omega) (by omega), add1]
   have b : (0 : Int) ≤ (i : Int) ∧ (i : Int) < (g.length : Int) := ⟨by omega, by omega⟩
   have b2 : (0 : Int) ≤ (k : Int) ∧ (k : Int) < (f.Glyphs.length : Int) := ⟨by omega, by omega⟩
   simp only [if_pos b, Int.toNat_natCast, ints_get g hlt, q2, some_bind, if_pos b2, e]
   by_cases h0 : i = 0
   ·subst h0
    have : prevB g 0 = 0 := rfl
    rw [if_neg (by decide), this, kerI_zero F, w64_id (by omega) (by omega), Int.add_zero, some_bind]
   ·have e1 : w64 ((i : Int) - 1) = ((i - 1 : Nat) : Int) := by rw [w64_id (by omega) (by omega)]; omega
    have hlt1 : i - 1 < g.length := by omega
    have ep : prevB g i = ((g[i - 1]).toNat : Int) := by
     unfold prevB
     rw [if_neg h0, List.getD_eq_getElem?_getD, List.getElem?_eq_getElem hlt1]; rfl
    rw [if_pos (by omega), e1, if_pos ⟨by omega, by omega⟩, Int.toNat_natCast, ints_get g hlt1, rkern_mk f hf, some_bind, ← ep, w64_id (n := u + advI f ((g[i]).toNat : Int)) (by omega) (by omega), w64_id (by omega) (by omega), Int.add_assoc, some_bind]
theorem rraw_mk (f : api_Font) (hf : Sm f) (F : Fok f) (hv : formeref07_Valid f = some true) {l : List UInt8} (ho : okS l = true) : formeref07_Raw f ⟨l.toArray⟩ = some (if hasG f l = true then (rawS f 0 l, 0) else (0, 20)) := by
 have hl := (okS_all ho).2
 unfold formeref07_Raw
 rw [rhas_mk f hf hv ho]
 cases hh : hasG f l
 ·rfl
 ·have h := rraw_loop f hf F (shown l) (fun b hb => (shown_mem hb).2) (by rw [inG_shown]; exact hh) (by have := shown_len l; omega) _ 0 0 rfl (Nat.zero_le _) (by decide) (by decide)
  have h' : formeref07_Raw_l74 f (ints (shown l)) 0 0 = some (rawS f 0 l) := by
   have e : prevB (shown l) 0 = 0 := rfl
   rw [e, List.drop_zero, Int.zero_add, ← rawS_shown] at h
   exact h
  simp only [some_bind, rshown_mk (show l.length ≤ 1000000 by omega), h', not_true_eq_false, if_false, Bool.not_true, Bool.false_eq_true, if_true]
theorem width_eq (f : api_Font) (hf : Sm f) {l : List UInt8} (hl : l.length ≤ 9223372036854775807) {v : Bool} (h1 : font_Valid f = some v) (h2 : formeref07_Valid f = some v) (hF : v = true → Fok f) (s : Int) :
  ∃ w e, font_Width f ⟨l.toArray⟩ s = some (w, e) ∧ formeref07_Width f ⟨l.toArray⟩ s = some (w, e) ∧ (e = 0 → okS l = true) := by
 obtain ⟨g1, g2⟩ := has_eq f hf hl h1 h2 hF
 cases hvo : (v && okS l)
 ·rw [hvo] at g1 g2
  refine ⟨0, 1, ?_, ?_, fun h => by cases h⟩
  ·unfold font_Width font_Raw
   rw [g1]; rfl
  ·unfold formeref07_Width
   rw [g2]; rfl
 ·have hb := hvo
  rw [Bool.and_eq_true] at hb
  obtain ⟨hv, ho⟩ := hb
  subst hv
  rw [hvo] at g1 g2
  simp only [if_true] at g1 g2
  unfold font_Width formeref07_Width
  rw [g2, raw_mk f hf (hF rfl) h1 ho, rraw_mk f hf (hF rfl) h2 ho]
  cases hasG f l
  ·by_cases c1 : s < 50
   ·exact ⟨0, 1, by simp [c1], by simp [c1], fun h => by cases h⟩
   ·by_cases c2 : 300 < s
    ·exact ⟨0, 1, by simp [c1, c2], by simp [c1, c2], fun h => by cases h⟩
    ·exact ⟨0, 20, by simp [c1, c2], by simp [c1, c2], fun h => by cases h⟩
  ·by_cases c1 : s < 50
   ·exact ⟨0, 1, by simp [c1], by simp [c1], fun h => by cases h⟩
   ·by_cases c2 : 300 < s
    ·exact ⟨0, 1, by simp [c1, c2], by simp [c1, c2], fun h => by cases h⟩
    ·exact ⟨w64 (Int.tdiv (w64 (w64 (rawS f 0 l * s) + 99)) 100), 0, by simp only [if_true, some_bind, c1, c2, decide_false, Bool.false_eq_true, if_false, not_true_eq_false, show ¬ (0 : Int) = 1 by decide], by simp only [if_true, some_bind, c1, c2, decide_false, Bool.false_eq_true, if_false, not_true_eq_false, Bool.not_true], fun _ => ho⟩
end Go.Proofs.YtokeiiakkfdmgaaGreatDoor.LG
