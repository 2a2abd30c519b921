/-
 Kerns, and the exact width of a text. Plain Lean; no program in sight.
-/
import Derived.Test.YtokeiiakkfdmgaaGreatDoorFh
set_option linter.unusedVariables false
set_option linter.unusedSimpArgs false
set_option maxRecDepth 100000
namespace Go.Proofs.YtokeiiakkfdmgaaGreatDoor.LG
open Go Go.LG Go.Lib

def klt (a b c d : Int) : Prop := a < c ∨ a = c ∧ b < d
def Kinc (ks : List api_Kern) : Prop := ∀ i j, i < ks.length → j < ks.length → i < j → klt (kk ks i).Left (kk ks i).Right (kk ks j).Left (kk ks j).Right
theorem kinc_of {f : api_Font} (F : Fok f) : Kinc f.Kerns := by
 intro i j hi hj hij
 induction j with
 | zero => omega
 | succ j ih =>
  have h1 := (F.k (j + 1) hj).2.2.2 (by omega)
  have h2 : j + 1 - 1 = j := rfl
  rw [h2] at h1
  rcases Nat.lt_or_ge i j with h' | h'
  ·have := ih (by omega) h'
   unfold klt at *; omega
  ·have : i = j := by omega
   subst this; exact h1
theorem order_neg (k : api_Kern) (p : font_pair) : ((if k.Left < p.left then (-1 : Int) else if p.left < k.Left then 1 else if k.Right < p.right then -1 else if p.right < k.Right then 1 else 0) < 0 ↔ klt k.Left k.Right p.left p.right) := by
 unfold klt
 by_cases h1 : k.Left < p.left
 ·simp [h1]
 ·by_cases h2 : p.left < k.Left
  ·simp [h1, h2]; omega
  ·by_cases h3 : k.Right < p.right
   ·simp [h1, h2, h3]; omega
   ·by_cases h4 : p.right < k.Right
    ·simp [h1, h2, h3, h4]
    ·simp [h1, h2, h3, h4]
theorem order_zero (k : api_Kern) (p : font_pair) : ((if k.Left < p.left then (-1 : Int) else if p.left < k.Left then 1 else if k.Right < p.right then -1 else if p.right < k.Right then 1 else 0) = 0 ↔ k.Left = p.left ∧ k.Right = p.right) := by
 by_cases h1 : k.Left < p.left
 ·simp [h1]; omega
 ·by_cases h2 : p.left < k.Left
  ·simp [h1, h2]; omega
  ·by_cases h3 : k.Right < p.right
   ·simp [h1, h2, h3]; omega
   ·by_cases h4 : p.right < k.Right
    ·simp [h1, h2, h3, h4]; omega
    ·simp [h1, h2, h3, h4]; omega
theorem bs_kern2 (l : List api_Kern) (p : font_pair) (hl : l.length ≤ 1000000) (hI : Kinc l) : ∀ (n i j : Nat), j - i = n → i ≤ j → j ≤ l.length →
  (∀ k, k < l.length → k < i → klt (kk l k).Left (kk l k).Right p.left p.right) → (∀ k, k < l.length → j ≤ k → ¬ klt (kk l k).Left (kk l k).Right p.left p.right) →
  ∃ r : Nat, slices_BinarySearchFunc_font_pair_k1_l31 l p (i : Int) (j : Int) = some (r : Int) ∧ r ≤ l.length ∧ (∀ k, k < l.length → k < r → klt (kk l k).Left (kk l k).Right p.left p.right) ∧ (∀ k, k < l.length → r ≤ k → ¬ klt (kk l k).Left (kk l k).Right p.left p.right) := by
 intro n
 induction n using Nat.strongRecOn with
 | _ n ih =>
  intro i j hn h1 h2 hlo hhi
  rw [slices_BinarySearchFunc_font_pair_k1_l31]
  by_cases h : i < j
  ·have em : ((i : Int) + (j : Int)) / 2 = (((i + j) / 2 : Nat) : Int) := by omega
   have hm : (i + j) / 2 < l.length := by omega
   have e : w64 ((((i + j) / 2 : Nat) : Int) + 1) = (((i + j) / 2 + 1 : Nat) : Int) := by rw [w64_id (by omega) (by omega)]; omega
   have e0 : l.getD (Int.toNat (((i + j) / 2 : Nat) : Int)) z_api_Kern = kk l ((i + j) / 2) := rfl
   rw [if_pos (by omega), mid_eq (by omega) (by omega) (by omega), em, if_pos ⟨by omega, by omega⟩, order_mk, some_bind, e0, e]
   by_cases hc : klt (kk l ((i + j) / 2)).Left (kk l ((i + j) / 2)).Right p.left p.right
   ·rw [if_pos ((order_neg _ _).2 hc)]
    refine ih _ (by omega) _ _ rfl (by omega) h2 (fun k hk hki => ?_) hhi
    rcases Nat.lt_or_ge k ((i + j) / 2) with h' | h'
    ·have := hI k _ hk hm h'; unfold klt at *; omega
    ·have : k = (i + j) / 2 := by omega
     subst this; exact hc
   ·rw [if_neg (fun h => hc ((order_neg _ _).1 h))]
    refine ih _ (by omega) _ _ rfl (by omega) (by omega) hlo (fun k hk hki => ?_)
    rcases Nat.lt_or_ge ((i + j) / 2) k with h' | h'
    ·have := hI _ k hm hk h'; unfold klt at *; omega
    ·have : k = (i + j) / 2 := by omega
     subst this; exact hc
  ·rw [if_neg (by omega)]
   have : i = j := by omega
   subst this
   exact ⟨i, rfl, h2, hlo, hhi⟩
def kof (ks : List api_Kern) (a c : Int) : Option api_Kern := ks.find? fun k => decide (k.Left = a ∧ k.Right = c)
theorem find_kern_mk {f : api_Font} (hf : Sm f) (F : Fok f) (p : font_pair) :
  font_find_font_pair_k1 f.Kerns p = some (match kof f.Kerns p.left p.right with | some k => (k, true) | none => (⟨0, 0, 0⟩, false)) := by
 have hI := kinc_of F
 have hk := hf.2
 obtain ⟨r, hr, hle, hlo, hhi⟩ := bs_kern2 f.Kerns p hf.2 hI _ 0 f.Kerns.length rfl (Nat.zero_le _) (Nat.le_refl _) (fun k _ h => by omega) (fun k h h' => by omega)
 have hr' : slices_BinarySearchFunc_font_pair_k1_l31 f.Kerns p 0 (f.Kerns.length : Int) = some (r : Int) := hr
 unfold font_find_font_pair_k1 slices_BinarySearchFunc_font_pair_k1
 rw [hr', some_bind]
 by_cases h : r < f.Kerns.length
 ·have e0 : f.Kerns.getD (Int.toNat (r : Int)) z_api_Kern = kk f.Kerns r := rfl
  rw [if_pos (by omega), if_pos ⟨by omega, by omega⟩, order_mk, e0]
  simp only [some_bind]
  by_cases hb : (kk f.Kerns r).Left = p.left ∧ (kk f.Kerns r).Right = p.right
  ·have e : kof f.Kerns p.left p.right = some (kk f.Kerns r) := by
    rw [← kk_at f.Kerns h]
    exact find_some r h (by rw [kk_at f.Kerns h]; simpa using hb) fun k hk hkr => by
     have := hlo k hk hkr
     rw [kk_at f.Kerns hk]
     unfold klt at this
     simp; omega
   rw [e, decide_eq_true ((order_zero _ _).2 hb)]
   simp [h, kk_at f.Kerns h]
  ·have e : kof f.Kerns p.left p.right = none := find_no fun k hk => by
    rw [kk_at f.Kerns hk]
    rcases Nat.lt_or_ge k r with h' | h'
    ·have := hlo k hk h'; unfold klt at this; simp; omega
    ·have h0 := hhi r h (Nat.le_refl _)
     rcases Nat.lt_or_ge r k with h'' | h''
     ·have := hI r k h hk h''; unfold klt at *; simp; omega
     ·have : k = r := by omega
      subst this
      exact decide_eq_false hb
   rw [e, decide_eq_false (fun h => hb ((order_zero _ _).1 h))]
   simp
 ·have e : kof f.Kerns p.left p.right = none := find_no fun k hk => by
   rw [kk_at f.Kerns hk]
   have := hlo k hk (by omega); unfold klt at this; simp; omega
  rw [if_neg (by omega), e]
  simp
def advI (f : api_Font) (a : Int) : Int := ((gof f.Glyphs a).map (·.Advance)).getD 0
def kerI (f : api_Font) (a c : Int) : Int := ((kof f.Kerns a c).map (·.By)).getD 0
theorem advI_ok {f : api_Font} (F : Fok f) (a : Int) : 0 ≤ advI f a ∧ advI f a ≤ 1000 := by
 unfold advI
 cases h : gof f.Glyphs a with
 | none => exact ⟨Int.le_refl _, by decide⟩
 | some g => have := gof_ok F.g h; exact ⟨this.2.2.1, this.2.2.2⟩
theorem kerI_ok {f : api_Font} (F : Fok f) (a c : Int) : -1000 ≤ kerI f a c ∧ kerI f a c ≤ 1000 ∧ 0 ≤ advI f a + kerI f a c := by
 have ha := advI_ok F a
 unfold kerI
 cases h : kof f.Kerns a c with
 | none => exact ⟨by decide, by decide, by simpa using ha.1⟩
 | some k =>
  have hm := List.mem_of_find?_eq_some h
  have hp : k.Left = a ∧ k.Right = c := by simpa using List.find?_some h
  obtain ⟨i, hi, rfl⟩ := List.getElem_of_mem hm
  rw [kk_at f.Kerns hi] at *
  obtain ⟨⟨g, hg, h0⟩, _, h1, _⟩ := F.k i hi
  rw [hp.1] at hg
  have hgo := gof_ok F.g hg
  have e : advI f a = g.Advance := by unfold advI; rw [hg]; rfl
  rw [e]
  show -1000 ≤ (kk f.Kerns i).By ∧ (kk f.Kerns i).By ≤ 1000 ∧ 0 ≤ g.Advance + (kk f.Kerns i).By
  omega
theorem kerI_zero {f : api_Font} (F : Fok f) (c : Int) : kerI f 0 c = 0 := by
 unfold kerI
 cases h : kof f.Kerns 0 c with
 | none => rfl
 | some k =>
  have hm := List.mem_of_find?_eq_some h
  have hp : k.Left = 0 ∧ k.Right = c := by simpa using List.find?_some h
  obtain ⟨i, hi, rfl⟩ := List.getElem_of_mem hm
  rw [kk_at f.Kerns hi] at *
  obtain ⟨⟨g, hg, _⟩, _⟩ := F.k i hi
  rw [hp.1] at hg
  have := gof_ok F.g hg
  omega
theorem glyph_adv {f : api_Font} (hf : Sm f) (F : Fok f) (b : Int) : ∃ g y, font_glyph f b = some (g, y) ∧ g.Advance = advI f b := by
 rw [glyph_mk hf.1 (inc_of F.g)]
 unfold advI
 cases gof f.Glyphs b with
 | none => exact ⟨_, _, rfl, rfl⟩
 | some g => exact ⟨_, _, rfl, rfl⟩
theorem kern_by {f : api_Font} (hf : Sm f) (F : Fok f) (p : font_pair) : ∃ k y, font_find_font_pair_k1 f.Kerns p = some (k, y) ∧ k.By = kerI f p.left p.right := by
 rw [find_kern_mk hf F]
 unfold kerI
 cases kof f.Kerns p.left p.right with
 | none => exact ⟨_, _, rfl, rfl⟩
 | some g => exact ⟨_, _, rfl, rfl⟩
def rawS (f : api_Font) : Int → List UInt8 → Int
 | _, [] => 0
 | a, c :: l => if c.toNat = 126 then rawS f a l else (advI f (c.toNat : Int) + kerI f a (c.toNat : Int)) + rawS f (c.toNat : Int) l
theorem raw_loop2 (f : api_Font) (hf : Sm f) (F : Fok f) (l : List UInt8) (hl : ∀ b ∈ l, 32 ≤ b.toNat ∧ b.toNat ≤ 126) (hs : l.length ≤ 1000000) : ∀ (n i : Nat) (p u : Int), l.length - i = n → i ≤ l.length → -3000 * (i : Int) ≤ u → u ≤ 3000 * (i : Int) →
  ∃ j, font_pairs_1_k1_l30 (rnd (fun (u : Int) (x : font_pair) => font_Raw_r67 f u x)) ⟨l.toArray⟩ p i (u, none) = some (.inr (j, (u + rawS f p (l.drop i), none))) := by
 intro n
 induction n with
 | zero =>
  intro i p u hn hi h1 h2
  rw [font_pairs_1_k1_l30, sz, if_neg (by omega), List.drop_eq_nil_of_le (by omega)]
  unfold rawS
  exact ⟨_, by rw [Int.add_zero]⟩
 | succ n ih =>
  intro i p u hn hi h1 h2
  have hlt : i < l.length := by omega
  have hb := hl _ (List.getElem_mem hlt)
  have e1 : wu8 ((l[i].toNat : Nat) : Int) = ((l[i].toNat : Nat) : Int) := wu8_id (by omega) (by omega)
  rw [font_pairs_1_k1_l30, sz, if_pos hlt, decode_small l hlt (by omega), List.drop_eq_getElem_cons hlt]
  simp only [e1]
  unfold rawS
  by_cases h : l[i].toNat = 126
  ·have h' : ((l[i].toNat : Nat) : Int) = 126 := by omega
   rw [if_pos h', if_pos h]
   exact ih (i + 1) p u (by omega) (by omega) (by omega) (by omega)
  ·have h' : ¬ ((l[i].toNat : Nat) : Int) = 126 := by omega
   have ha := advI_ok F (l[i].toNat : Int); have hk := kerI_ok F p (l[i].toNat : Int)
   have step : rnd (fun (u : Int) (x : font_pair) => font_Raw_r67 f u x) (u, none) ⟨p, ((l[i].toNat : Nat) : Int)⟩ = some ((u + (advI f (l[i].toNat : Int) + kerI f p (l[i].toNat : Int)), none), true) := by
    obtain ⟨g, y, hg, e2⟩ := glyph_adv hf F (l[i].toNat : Int)
    obtain ⟨k, z, hk', e3⟩ := kern_by hf F ⟨p, (l[i].toNat : Int)⟩
    unfold rnd font_Raw_r67
    simp only [hg, hk', some_bind]
    show some ((w64 (u + w64 (_ + _)), none), true) = _
    rw [e2, e3, w64_id (n := advI f (l[i].toNat : Int) + kerI f p (l[i].toNat : Int)) (by omega) (by omega), w64_id (by omega) (by omega)]
   rw [if_neg h', if_neg h, step, some_bind]
   obtain ⟨j, hj⟩ := ih (i + 1) (l[i].toNat : Int) (u + (advI f (l[i].toNat : Int) + kerI f p (l[i].toNat : Int))) (by omega) (by omega) (by omega) (by omega)
   rw [Int.add_assoc] at hj
   exact ⟨j, hj⟩
theorem raw_mk (f : api_Font) (hf : Sm f) (F : Fok f) (hv : font_Valid f = some true) {l : List UInt8} (ho : okS l = true) : font_Raw f ⟨l.toArray⟩ = some (if hasG f l = true then (rawS f 0 l, 0) else (0, 20)) := by
 obtain ⟨h1, h2⟩ := okS_all ho
 obtain ⟨j, hu⟩ := raw_loop2 f hf F l h1 (by omega) _ 0 0 0 rfl (Nat.zero_le _) (Int.le_refl _) (Int.le_refl _)
 have hu' : font_pairs_1_k1_l30 (rnd (fun (u : Int) (x : font_pair) => font_Raw_r67 f u x)) ⟨l.toArray⟩ 0 0 (0, none) = some (.inr (j, (rawS f 0 l, none))) := by
  rw [List.drop_zero, Int.zero_add] at hu; exact hu
 unfold font_Raw font_pairs font_pairs_1_k1
 rw [has_mk f hf F hv ho]
 cases hh : hasG f l
 ·rfl
 ·simp only [some_bind, hu']
  rfl
end Go.Proofs.YtokeiiakkfdmgaaGreatDoor.LG
