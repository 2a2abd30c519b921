/-
 The visual order of a line as the reference has it. Plain Lean; no program in sight.
-/
import Derived.Test.YtokeiiakkfdmgaaGreatDoorVi
set_option linter.unusedVariables false
set_option linter.unusedSimpArgs false
set_option maxRecDepth 100000
namespace Go.Proofs.YtokeiiakkfdmgaaGreatDoor.LG
open Go Go.LG Go.Lib

def re (p : Nat → Bool) : Nat → Nat → Nat
 | 0, i => i
 | m + 1, i => if p i = true then re p m (i + 1) else i
theorem re_ge (p : Nat → Bool) : ∀ (m i : Nat), i ≤ re p m i
 | 0, i => Nat.le_refl _
 | m + 1, i => by
  unfold re
  split
  ·have := re_ge p m (i + 1); omega
  ·exact Nat.le_refl _
theorem re_le (p : Nat → Bool) : ∀ (m i : Nat), re p m i ≤ i + m
 | 0, i => Nat.le_refl _
 | m + 1, i => by
  unfold re
  split
  ·have := re_le p m (i + 1); omega
  ·omega
theorem re_in (p : Nat → Bool) : ∀ (m i j : Nat), i ≤ j → j < re p m i → p j = true
 | 0, i, j, h1, h2 => by unfold re at h2; omega
 | m + 1, i, j, h1, h2 => by
  unfold re at h2
  split at h2
  ·rename_i h
   by_cases e : j = i
   ·rw [e]; exact h
   ·exact re_in p m (i + 1) j (by omega) h2
  ·omega
theorem re_end (p : Nat → Bool) : ∀ (m i : Nat), re p m i < i + m → p (re p m i) = false
 | 0, i, h => by unfold re at h; omega
 | m + 1, i, h => by
  unfold re at h ⊢
  split
  ·rename_i hp
   rw [if_pos hp] at h
   exact re_end p m (i + 1) (by omega)
  ·rename_i hp
   simpa using hp
def Nt (l : List UInt8) (j : Nat) : Bool := decide (3 < cl ((l.getD j 0).toNat : Int))
theorem sbytes_get (l : List UInt8) (i : Nat) : (sbytes ⟨l.toArray⟩).getD (Int.toNat (i : Int)) 0 = ((l.getD i 0).toNat : Int) := by
 unfold sbytes
 rw [Int.toNat_natCast]
 simp only [List.getD_eq_getElem?_getD]
 by_cases h : i < l.length
 ·simp [h]
 ·simp [h]
theorem run_byte_re (l : List UInt8) (hl : l.length ≤ 1000000) : ∀ (n i : Nat), l.length - i = n → i ≤ l.length → bidi_runs_1_byte_k1_l69 (sbytes ⟨l.toArray⟩) (i : Int) = some (re (Nt l) n i : Int) := by
 intro n
 induction n with
 | zero =>
  intro i hn hi
  rw [bidi_runs_1_byte_k1_l69, if_neg (by rw [sbytes_len]; omega)]
  rfl
 | succ n ih =>
  intro i hn hi
  rw [bidi_runs_1_byte_k1_l69, sbytes_len, if_pos (by omega), if_pos ⟨by omega, by omega⟩, sbytes_get]
  unfold bidi_directions_2 re Nt
  rw [class_eq]
  simp only [some_bind]
  by_cases hc : 3 < cl ((l.getD i 0).toNat : Int)
  ·rw [decide_eq_true hc, if_pos rfl, if_pos rfl, w64_id (n := (i : Int) + 1) (by omega) (by omega), add1]
   exact ih (i + 1) (by omega) (by omega)
  ·rw [decide_eq_false hc, if_neg (by decide), if_neg (by decide)]
theorem neutral_eq (l : List UInt8) {i : Nat} (h : i < l.length) : formeref09_Neutral (bt ⟨l.toArray⟩ (i : Int)) = some (Nt l i) := by
 unfold formeref09_Neutral Nt
 rw [refClass_eq, bt_getD l h]
 rfl
theorem ref_run1 (l : List UInt8) (hl : l.length ≤ 1000000) : ∀ (n i : Nat), l.length - i = n → i ≤ l.length → formeref09_directions_l224 ⟨l.toArray⟩ (i : Int) = some (re (Nt l) n i : Int) := by
 intro n
 induction n with
 | zero =>
  intro i hn hi
  rw [formeref09_directions_l224, sz, if_neg (by omega)]
  rfl
 | succ n ih =>
  intro i hn hi
  rw [formeref09_directions_l224, sz, if_pos (by omega), if_pos ⟨by omega, by omega⟩, neutral_eq l (by omega)]
  unfold re
  simp only [some_bind]
  by_cases hc : Nt l i = true
  ·rw [if_pos hc, if_pos hc, w64_id (n := (i : Int) + 1) (by omega) (by omega), add1]
   exact ih (i + 1) (by omega) (by omega)
  ·rw [if_neg hc, if_neg hc]
theorem ref_run2 (l : List UInt8) (hl : l.length ≤ 1000000) : ∀ (n i : Nat), l.length - i = n → i ≤ l.length → formeref09_directions_l427 ⟨l.toArray⟩ (i : Int) = some (re (Nt l) n i : Int) := by
 intro n
 induction n with
 | zero =>
  intro i hn hi
  rw [formeref09_directions_l427, sz, if_neg (by omega)]
  rfl
 | succ n ih =>
  intro i hn hi
  rw [formeref09_directions_l427, sz, if_pos (by omega), if_pos ⟨by omega, by omega⟩, neutral_eq l (by omega)]
  unfold re
  simp only [some_bind]
  by_cases hc : Nt l i = true
  ·rw [if_pos hc, if_pos hc, w64_id (n := (i : Int) + 1) (by omega) (by omega), add1]
   exact ih (i + 1) (by omega) (by omega)
  ·rw [if_neg hc, if_neg hc]
theorem dirs_first (l : List UInt8) (hl : l.length ≤ 1000000) : ∀ (n i : Nat) (v : List Int) (now : Int), l.length - i = n → i ≤ l.length → bidi_directions_l50 ⟨l.toArray⟩ v now (i : Int) = formeref09_directions_l40 ⟨l.toArray⟩ v now (i : Int) := by
 intro n
 induction n with
 | zero =>
  intro i v now hn hi
  rw [bidi_directions_l50, formeref09_directions_l40, sz, List.length_replicate, Int.toNat_natCast, if_neg (by omega), if_neg (by omega)]
 | succ n ih =>
  intro i v now hn hi
  have b : (0 : Int) ≤ (i : Int) ∧ (i : Int) < (l.length : Int) := ⟨by omega, by omega⟩
  rw [bidi_directions_l50, formeref09_directions_l40]
  simp only [sz, List.length_replicate, Int.toNat_natCast, if_pos b, if_pos b.2, class_eq, refClass_eq, some_bind]
  rw [w64_id (n := (i : Int) + 1) (by omega) (by omega), add1]
  by_cases h1 : cl (bt ⟨l.toArray⟩ (i : Int)) = 1
  ·rw [if_pos h1]; simp only [some_bind]
   exact ih (i + 1) _ _ (by omega) (by omega)
  ·by_cases h2 : cl (bt ⟨l.toArray⟩ (i : Int)) = 2
   ·rw [if_neg h1, if_pos h2]; simp only [some_bind]
    exact ih (i + 1) _ _ (by omega) (by omega)
   ·rw [if_neg h1, if_neg h2]; simp only [some_bind]
    exact ih (i + 1) _ _ (by omega) (by omega)
def fillv (v : List Int) (i k : Nat) (x : Int) : List Int := v.take i ++ (List.replicate (k - i) x ++ v.drop k)
theorem fillv_nil (v : List Int) (k : Nat) (x : Int) : fillv v k k x = v := by simp [fillv]
theorem fillv_step (v : List Int) (x : Int) {i k : Nat} (h : i < k) (hk : k ≤ v.length) : fillv (v.set i x) (i + 1) k x = fillv v i k x := by
 unfold fillv
 have e1 : (v.set i x).take (i + 1) = v.take i ++ [x] := by
  rw [List.take_set, List.take_succ_eq_append_getElem (by omega), List.set_append, if_neg (by rw [List.length_take]; omega)]
  simp [Nat.min_eq_left (show i ≤ v.length by omega)]
 have e2 : (v.set i x).drop k = v.drop k := by rw [List.drop_set, if_pos h]
 rw [e1, e2, show k - i = (k - (i + 1)) + 1 by omega, List.replicate_succ, List.append_assoc, List.cons_append]
 rfl
theorem fillv_len (v : List Int) (x : Int) {i k : Nat} (h : i ≤ k) (hk : k ≤ v.length) : (fillv v i k x).length = v.length := by
 unfold fillv; simp; omega
theorem fill_gen (F : List Int → Int → Option (List Int)) (x : Int) (k n : Nat) (hk : k ≤ n) (h1 : ∀ (v : List Int) (j : Nat), v.length = n → j < k → F v (j : Int) = F (v.set j x) ((j + 1 : Nat) : Int)) (h0 : ∀ v, F v (k : Int) = some v) :
  ∀ (m j : Nat) (v : List Int), k - j = m → j ≤ k → v.length = n → F v (j : Int) = some (fillv v j k x) := by
 intro m
 induction m with
 | zero =>
  intro j v hm hj hv
  have e : j = k := by omega
  subst e
  rw [h0, fillv_nil]
 | succ m ih =>
  intro j v hm hj hv
  rw [h1 v j hv (by omega), ih (j + 1) _ (by omega) (by omega) (by rw [List.length_set]; exact hv), fillv_step v x (by omega) (by omega)]
theorem fill_mk (a : List Int) (ha : a.length ≤ 1000000) (x : Int) : bidi_fill_k1 a x = some (List.replicate a.length x) := by
 have h := fill_gen (fun v j => bidi_fill_k1_l33 a x v j) x a.length a.length (Nat.le_refl _)
  (fun v j hv hj => by
   rw [bidi_fill_k1_l33, if_pos (by omega), if_pos ⟨by omega, by omega⟩, w64_id (n := (j : Int) + 1) (by omega) (by omega), add1, Int.toNat_natCast])
  (fun v => by
   rw [bidi_fill_k1_l33, if_neg (by omega)]) _ 0 a rfl (Nat.zero_le _) rfl
 unfold bidi_fill_k1
 have h' : bidi_fill_k1_l33 a x a 0 = some (fillv a 0 a.length x) := h
 rw [h']
 simp [fillv]
def sv (l : List UInt8) (dir : Int) (v : List Int) (i k : Nat) : Int :=
 if (if i = 0 then dir else v.getD (i - 1) 0) = (if k < l.length then v.getD k 0 else dir) then (if i = 0 then dir else v.getD (i - 1) 0) else dir
theorem at_before (l : List UInt8) (hl : l.length ≤ 1000000) (dir : Int) (v : List Int) (hv : v.length = l.length) {i : Nat} (hi : i ≤ l.length) : bidi_directions_1_k1 (w64 ((i : Int) - 1)) v dir = some (if i = 0 then dir else v.getD (i - 1) 0) := by
 unfold bidi_directions_1_k1
 rw [w64_id (by omega) (by omega)]
 by_cases h : i = 0
 ·subst h
  rw [if_pos (by omega), some_bind, if_pos rfl, if_pos rfl]
 ·rw [if_neg (by omega), some_bind, decide_eq_false (by omega), if_neg (by decide), if_pos ⟨by omega, by omega⟩, if_neg h, show Int.toNat ((i : Int) - 1) = i - 1 by omega]
theorem at_behind (l : List UInt8) (dir : Int) (v : List Int) (hv : v.length = l.length) (k : Nat) : bidi_directions_1_k1 (k : Int) v dir = some (if k < l.length then v.getD k 0 else dir) := by
 unfold bidi_directions_1_k1
 rw [if_neg (by omega), some_bind]
 by_cases h : k < l.length
 ·rw [decide_eq_false (by omega), if_neg (by decide), if_pos ⟨by omega, by omega⟩, if_pos h, Int.toNat_natCast]
 ·rw [decide_eq_true (by omega), if_pos rfl, if_neg h]
theorem dirs_round_mk (l : List UInt8) (hl : l.length ≤ 1000000) (dir : Int) (v : List Int) (hv : v.length = l.length) {i k : Nat} (hik : i < k) (hk : k ≤ l.length) :
  bidi_directions_r170 ⟨l.toArray⟩ dir v (i : Int) (k : Int) = some (fillv v i k (sv l dir v i k), none) := by
 have b : (0 : Int) ≤ (i : Int) ∧ ((i : Int) : Int) ≤ (k : Int) ∧ (k : Int) ≤ (l.length : Int) := ⟨by omega, by omega, by omega⟩
 have hc : (cutl v (i : Int) (k : Int)).length = k - i := cutl_len v (by omega) (by omega)
 unfold bidi_directions_r170 sv fillv
 rw [at_before l hl dir v hv (by omega), some_bind, at_behind l dir v hv k, some_bind]
 simp only [sz, List.length_replicate, Int.toNat_natCast, if_pos b, fill_mk _ (show (cutl v (i : Int) (k : Int)).length ≤ 1000000 by omega), hc, some_bind]
 generalize (if i = 0 then dir else v.getD (i - 1) 0) = P
 generalize (if k < l.length then v.getD k 0 else dir) = Q
 by_cases e : P = Q
 ·rw [if_pos e, if_pos e]
 ·rw [if_neg e, if_neg e]
theorem ref_fill1 (l : List UInt8) (hl : l.length ≤ 1000000) (dir : Int) (u : List Int) (a : Int) {k : Nat} (hk : k ≤ l.length) {i : Nat} (hi : i ≤ k) (v : List Int) (hv : v.length = l.length) :
  formeref09_directions_l287 ⟨l.toArray⟩ dir u a (k : Int) v (i : Int) = some (fillv v i k (if u.getD (Int.toNat (w64 (a - 1))) 0 = u.getD k 0 then u.getD (Int.toNat (w64 (a - 1))) 0 else dir)) := by
 refine fill_gen (fun v j => formeref09_directions_l287 ⟨l.toArray⟩ dir u a (k : Int) v j) _ k l.length hk (fun v j hv hj => ?_) (fun v => ?_) _ i v rfl hi hv
 ·conv => lhs; rw [formeref09_directions_l287]
  have b : (0 : Int) ≤ (j : Int) ∧ (j : Int) < (l.length : Int) := ⟨by omega, by omega⟩
  rw [if_pos (by omega), w64_id (n := (j : Int) + 1) (by omega) (by omega), add1]
  simp only [sz, List.length_replicate, Int.toNat_natCast, if_pos b, List.set_set]
  by_cases hc : u.getD (Int.toNat (w64 (a - 1))) 0 = u.getD k 0
  ·rw [if_pos hc, if_pos hc]; rfl
  ·rw [if_neg hc, if_neg hc]; rfl
 ·rw [formeref09_directions_l287, if_neg (by omega)]
theorem ref_fill2 (l : List UInt8) (hl : l.length ≤ 1000000) (dir : Int) (u : List Int) (a : Int) {k : Nat} (hk : k ≤ l.length) {i : Nat} (hi : i ≤ k) (v : List Int) (hv : v.length = l.length) :
  formeref09_directions_l360 ⟨l.toArray⟩ dir u a (k : Int) v (i : Int) = some (fillv v i k (if u.getD (Int.toNat (w64 (a - 1))) 0 = dir then u.getD (Int.toNat (w64 (a - 1))) 0 else dir)) := by
 refine fill_gen (fun v j => formeref09_directions_l360 ⟨l.toArray⟩ dir u a (k : Int) v j) _ k l.length hk (fun v j hv hj => ?_) (fun v => ?_) _ i v rfl hi hv
 ·conv => lhs; rw [formeref09_directions_l360]
  have b : (0 : Int) ≤ (j : Int) ∧ (j : Int) < (l.length : Int) := ⟨by omega, by omega⟩
  rw [if_pos (by omega), w64_id (n := (j : Int) + 1) (by omega) (by omega), add1]
  simp only [sz, List.length_replicate, Int.toNat_natCast, if_pos b, List.set_set]
  by_cases hc : u.getD (Int.toNat (w64 (a - 1))) 0 = dir
  ·rw [if_pos hc, if_pos hc]; rfl
  ·rw [if_neg hc, if_neg hc]; rfl
 ·rw [formeref09_directions_l360, if_neg (by omega)]
theorem ref_fill3 (l : List UInt8) (hl : l.length ≤ 1000000) (dir : Int) (u : List Int) {k : Nat} (hk : k ≤ l.length) {i : Nat} (hi : i ≤ k) (v : List Int) (hv : v.length = l.length) :
  formeref09_directions_l490 ⟨l.toArray⟩ dir u (k : Int) v (i : Int) = some (fillv v i k dir) := by
 refine fill_gen (fun v j => formeref09_directions_l490 ⟨l.toArray⟩ dir u (k : Int) v j) _ k l.length hk (fun v j hv hj => ?_) (fun v => ?_) _ i v rfl hi hv
 ·conv => lhs; rw [formeref09_directions_l490]
  have b : (0 : Int) ≤ (j : Int) ∧ (j : Int) < (l.length : Int) := ⟨by omega, by omega⟩
  rw [if_pos (by omega), w64_id (n := (j : Int) + 1) (by omega) (by omega), add1]
  simp only [sz, List.length_replicate, Int.toNat_natCast, if_pos b, List.set_set, ite_self]
  rfl
 ·rw [formeref09_directions_l490, if_neg (by omega)]
theorem ref_fill4 (l : List UInt8) (hl : l.length ≤ 1000000) (dir : Int) {k : Nat} (hk : k ≤ l.length) {i : Nat} (hi : i ≤ k) (v : List Int) (hv : v.length = l.length) :
  formeref09_directions_l563 ⟨l.toArray⟩ dir (k : Int) v (i : Int) = some (fillv v i k dir) := by
 refine fill_gen (fun v j => formeref09_directions_l563 ⟨l.toArray⟩ dir (k : Int) v j) _ k l.length hk (fun v j hv hj => ?_) (fun v => ?_) _ i v rfl hi hv
 ·conv => lhs; rw [formeref09_directions_l563]
  have b : (0 : Int) ≤ (j : Int) ∧ (j : Int) < (l.length : Int) := ⟨by omega, by omega⟩
  rw [if_pos (by omega), w64_id (n := (j : Int) + 1) (by omega) (by omega), add1]
  simp only [sz, List.length_replicate, Int.toNat_natCast, if_pos b, List.set_set, if_true]
  rfl
 ·rw [formeref09_directions_l563, if_neg (by omega)]
theorem ref_pass (l : List UInt8) (hl : l.length ≤ 1000000) (dir : Int) (v : List Int) {i : Nat} (hi : i < l.length) (h : Nt l i = false ∨ 0 < i ∧ Nt l (i - 1) = true) :
  formeref09_directions_l133 ⟨l.toArray⟩ dir v (i : Int) = formeref09_directions_l133 ⟨l.toArray⟩ dir v ((i + 1 : Nat) : Int) := by
 conv => lhs; rw [formeref09_directions_l133]
 have b : (0 : Int) ≤ (i : Int) ∧ (i : Int) < (l.length : Int) := ⟨by omega, by omega⟩
 simp only [sz]
 rw [if_pos b.2, w64_id (n := (i : Int) + 1) (by omega) (by omega), add1, if_pos b, neutral_eq l hi, some_bind]
 by_cases hn : Nt l i = false
 ·rw [hn]; rfl
 ·have hn' : Nt l i = true := by simpa using hn
  rcases h with h | ⟨h0, h1⟩
  ·exact absurd h hn
  ·rw [hn', w64_id (n := (i : Int) - 1) (by omega) (by omega), show (i : Int) - 1 = ((i - 1 : Nat) : Int) by omega, neutral_eq l (by omega), h1, if_pos (show (0 : Int) < (i : Int) by omega), if_pos (show (0 : Int) ≤ ((i - 1 : Nat) : Int) ∧ ((i - 1 : Nat) : Int) < (l.length : Int) from ⟨by omega, by omega⟩)]
   rfl
theorem ref_stop (l : List UInt8) (dir : Int) (v : List Int) {i : Nat} (hi : l.length ≤ i) : formeref09_directions_l133 ⟨l.toArray⟩ dir v (i : Int) = some v := by
 rw [formeref09_directions_l133, sz, if_neg (by omega)]
theorem ref_skip (l : List UInt8) (hl : l.length ≤ 1000000) (dir : Int) (v : List Int) {i k : Nat} (hk : k ≤ l.length) (hin : ∀ j, i ≤ j → j < k → Nt l j = true) (he : k < l.length → Nt l k = false) :
  ∀ (m j : Nat), k - j = m → i < j → j ≤ k → formeref09_directions_l133 ⟨l.toArray⟩ dir v (j : Int) = formeref09_directions_l133 ⟨l.toArray⟩ dir v ((k + 1 : Nat) : Int) := by
 intro m
 induction m with
 | zero =>
  intro j hm h1 h2
  have e : j = k := by omega
  subst e
  by_cases h : j < l.length
  ·exact ref_pass l hl dir v h (.inl (he h))
  ·rw [ref_stop l dir v (by omega), ref_stop l dir v (by omega)]
 | succ m ih =>
  intro j hm h1 h2
  rw [ref_pass l hl dir v (by omega) (.inr ⟨by omega, hin (j - 1) (by omega) (by omega)⟩)]
  exact ih (j + 1) (by omega) (by omega) (by omega)
theorem ref_begin (l : List UInt8) (hl : l.length ≤ 1000000) (dir : Int) (v : List Int) (hv : v.length = l.length) {i : Nat} (hi : i < l.length) (hn : Nt l i = true) (hb : i = 0 ∨ Nt l (i - 1) = false) :
  formeref09_directions_l133 ⟨l.toArray⟩ dir v (i : Int) = formeref09_directions_l133 ⟨l.toArray⟩ dir (fillv v i (re (Nt l) (l.length - i) i) (sv l dir v i (re (Nt l) (l.length - i) i))) ((i + 1 : Nat) : Int) := by
 have hge := re_ge (Nt l) (l.length - i) i
 have hle := re_le (Nt l) (l.length - i) i
 have b : (0 : Int) ≤ (i : Int) ∧ (i : Int) < (l.length : Int) := ⟨by omega, by omega⟩
 conv => lhs; rw [formeref09_directions_l133]
 simp only [sz]
 rw [if_pos b.2, w64_id (n := (i : Int) + 1) (by omega) (by omega), add1, if_pos b, neutral_eq l hi, some_bind, hn]
 unfold sv
 by_cases h0 : i = 0
 ·subst h0
  simp only [Bool.not_true, Bool.false_eq_true, if_false, if_neg (show ¬ (0 : Int) < ((0 : Nat) : Int) by decide), some_bind]
  rw [ref_run2 l hl _ 0 rfl (Nat.zero_le _), some_bind]
  simp only [if_true]
  by_cases hk : re (Nt l) (l.length - 0) 0 < l.length
  ·rw [if_pos (by omega), if_pos ⟨by omega, by rw [List.length_replicate]; omega⟩, ref_fill3 l hl dir v (Nat.le_of_lt hk) (Nat.zero_le _) v hv, some_bind, some_bind, ite_self]
  ·rw [if_neg (by omega), ref_fill4 l hl dir (by omega) (Nat.zero_le _) v hv, some_bind, some_bind, ite_self]
 ·rcases hb with h | hb
  ·exact absurd h h0
  ·have hp : (0 : Int) < (i : Int) := by omega
   have b1 : (0 : Int) ≤ ((i - 1 : Nat) : Int) ∧ ((i - 1 : Nat) : Int) < (l.length : Int) := ⟨by omega, by omega⟩
   have e1 : w64 ((i : Int) - 1) = ((i - 1 : Nat) : Int) := by rw [w64_id (by omega) (by omega)]; omega
   rw [e1, if_neg h0]
   simp only [Bool.not_true, Bool.false_eq_true, if_false, if_pos hp, if_pos b1, neutral_eq l (show i - 1 < l.length by omega), hb, some_bind, List.length_replicate, Int.toNat_natCast, ref_run1 l hl _ i rfl (Nat.le_of_lt hi)]
   by_cases hk : re (Nt l) (l.length - i) i < l.length
   ·rw [if_pos (by omega), if_pos ⟨by omega, by omega⟩, ref_fill1 l hl dir v _ (Nat.le_of_lt hk) hge v hv, some_bind, some_bind, if_pos hk, e1, Int.toNat_natCast]
   ·rw [if_neg (by omega), ref_fill2 l hl dir v _ (by omega) hge v hv, some_bind, some_bind, if_neg hk, e1, Int.toNat_natCast]
theorem dirs_second (l : List UInt8) (hl : l.length ≤ 1000000) (dir : Int) : ∀ (n i : Nat) (v : List Int), l.length - i = n → v.length = l.length → (i < l.length → i = 0 ∨ Nt l (i - 1) = false) →
  ∃ v', bidi_runs_1_byte_k1_l28 (rnd (fun (u : (List Int)) (x : Int × Int) => bidi_directions_r170 ⟨l.toArray⟩ dir u x.1 x.2)) (sbytes ⟨l.toArray⟩) (i : Int) (v, none) = some (.inr (v', none)) ∧ formeref09_directions_l133 ⟨l.toArray⟩ dir v (i : Int) = some v' := by
 intro n
 induction n using Nat.strongRecOn with
 | _ n ih =>
  intro i v hn hv hb
  by_cases hi : i < l.length
  ·have hge := re_ge (Nt l) (l.length - i) i
   have hle := re_le (Nt l) (l.length - i) i
   have hend : re (Nt l) (l.length - i) i < l.length → Nt l (re (Nt l) (l.length - i) i) = false := fun h => re_end (Nt l) _ i (by omega)
   rw [bidi_runs_1_byte_k1_l28, sbytes_len, if_pos (by omega), run_byte_re l hl _ i rfl (Nat.le_of_lt hi), some_bind]
   have e : w64 (max (i : Int) (re (Nt l) (l.length - i) i : Int) + 1) = ((re (Nt l) (l.length - i) i + 1 : Nat) : Int) := by rw [w64_id (by omega) (by omega)]; omega
   rw [e]
   by_cases hn' : Nt l i = true
   ·have hik : i < re (Nt l) (l.length - i) i := by
     rw [show l.length - i = (l.length - i - 1) + 1 by omega]
     unfold re
     rw [if_pos hn']
     have := re_ge (Nt l) (l.length - i - 1) (i + 1)
     omega
    have step : rnd (fun (u : (List Int)) (x : Int × Int) => bidi_directions_r170 ⟨l.toArray⟩ dir u x.1 x.2) (v, none) ((i : Int), (re (Nt l) (l.length - i) i : Int)) = some ((fillv v i (re (Nt l) (l.length - i) i) (sv l dir v i (re (Nt l) (l.length - i) i)), none), true) := by
     unfold rnd; simp only; rw [dirs_round_mk l hl dir v hv hik (by omega)]; rfl
    rw [if_pos (by omega), step, ref_begin l hl dir v hv hi hn' (hb hi), ref_skip l hl dir _ (by omega) (fun j h1 h2 => re_in (Nt l) _ i j h1 h2) hend _ (i + 1) rfl (by omega) (by omega)]
    simp only [some_bind, Bool.not_true, Bool.false_eq_true, if_false]
    exact ih _ (by omega) _ _ rfl (by rw [fillv_len v _ hge (by omega)]; exact hv) (fun h => .inr (by rw [Nat.add_sub_cancel]; exact hend (by omega)))
   ·have hn2 : Nt l i = false := by simpa using hn'
    have hre : re (Nt l) (l.length - i) i = i := by
     rw [show l.length - i = (l.length - i - 1) + 1 by omega]
     unfold re
     rw [if_neg hn']
    rw [hre, if_neg (by omega), ref_pass l hl dir v hi (.inl hn2)]
    simp only [some_bind, Bool.false_eq_true, if_false]
    exact ih _ (by omega) (i + 1) v rfl hv (fun h => .inr (by rw [Nat.add_sub_cancel]; exact hn2))
  ·refine ⟨v, ?_, ref_stop l dir v (by omega)⟩
   rw [bidi_runs_1_byte_k1_l28, sbytes_len, if_neg (by omega)]
theorem dirs_eq (l : List UInt8) (dir : Int) (hd : dir = 0 ∨ dir = 1) (hl : l.length ≤ 1000000) : ∃ v, bidi_directions ⟨l.toArray⟩ dir = some v ∧ formeref09_directions ⟨l.toArray⟩ dir = some v ∧ Bits l.length v := by
 obtain ⟨v0, h0, hb⟩ := dirs_mk l dir hd hl
 refine ⟨v0, h0, ?_, hb⟩
 have z : Bits l.length (List.replicate l.length (0 : Int)) := ⟨List.length_replicate .., fun x hx => .inl (List.eq_of_mem_replicate hx)⟩
 obtain ⟨v, h1, h2⟩ := dirs_loop l hl _ 0 _ dir rfl (Nat.zero_le _) z hd
 have h1' : bidi_directions_l50 ⟨l.toArray⟩ (List.replicate l.length (0 : Int)) dir 0 = some v := h1
 have h1r : formeref09_directions_l40 ⟨l.toArray⟩ (List.replicate l.length (0 : Int)) dir 0 = some v := (dirs_first l hl _ 0 _ dir rfl (Nat.zero_le _)).symm.trans h1
 obtain ⟨v', h3, h4⟩ := dirs_second l hl dir _ 0 v rfl h2.1 (fun _ => .inl rfl)
 have h3' : bidi_runs_1_byte_k1_l28 (rnd (fun (u : (List Int)) (x : Int × Int) => bidi_directions_r170 ⟨l.toArray⟩ dir u x.1 x.2)) (sbytes ⟨l.toArray⟩) 0 (v, none) = some (.inr (v', none)) := h3
 have h4' : formeref09_directions_l133 ⟨l.toArray⟩ dir v 0 = some v' := h4
 have b : (0 : Int) ≤ (l.length : Int) ∧ (8 : Int) * (l.length : Int) ≤ 281474976710656 ∧ (l.length : Int) ≤ 9223372036854775807 := ⟨by omega, by omega, by omega⟩
 have e : bidi_directions ⟨l.toArray⟩ dir = some v' := by
  unfold bidi_directions bidi_runs_byte_k1 bidi_runs_1_byte_k1
  rw [sz, if_pos b, Int.toNat_natCast, h1', some_bind, some_bind, h3']
  rfl
 have e2 : v0 = v' := Option.some.inj (h0.symm.trans e)
 unfold formeref09_directions
 rw [sz, if_pos b, Int.toNat_natCast, h1r, some_bind, h4', e2]
 rfl
theorem levels_same (l : List UInt8) (dir : Int) (hd : dir = 0 ∨ dir = 1) (hl : l.length ≤ 1000000) (y : List Int) (hy : y.length = l.length) : ∀ (n i : Nat) (v : List Int), l.length - i = n → i ≤ l.length → v.length = l.length → (∀ j (h : j < v.length), i ≤ j → v[j] = 0 ∨ v[j] = 1) →
  bidi_Levels_l66 ⟨l.toArray⟩ dir y v (i : Int) = formeref09_Levels_l56 ⟨l.toArray⟩ dir y v (i : Int) := by
 intro n
 induction n with
 | zero =>
  intro i v hn hi hv hb
  rw [bidi_Levels_l66, formeref09_Levels_l56, sz, if_neg (by omega), if_neg (by omega)]
 | succ n ih =>
  intro i v hn hi hv hb
  have hlt : i < v.length := by omega
  have hi' := hb i hlt (Nat.le_refl _)
  have e0 : v.getD i 0 = v[i] := by simp [List.getD_eq_getElem?_getD, hlt]
  have b1 : (0 : Int) ≤ (i : Int) ∧ (i : Int) < (y.length : Int) := ⟨by omega, by omega⟩
  have b2 : (0 : Int) ≤ dir ∧ dir < 2 := by omega
  have b3 : (0 : Int) ≤ v[i] ∧ v[i] < 2 := by omega
  have b4 : (0 : Int) ≤ (i : Int) ∧ (i : Int) < (l.length : Int) := ⟨by omega, by omega⟩
  have next : ∀ x, bidi_Levels_l66 ⟨l.toArray⟩ dir y (List.set v i x) ((i + 1 : Nat) : Int) = formeref09_Levels_l56 ⟨l.toArray⟩ dir y (List.set v i x) ((i + 1 : Nat) : Int) := fun x =>
   ih (i + 1) _ (by omega) (by omega) (by rw [List.length_set]; exact hv) fun j h hj => by
    rw [List.getElem_set, if_neg (by omega)]
    exact hb j (by rw [List.length_set] at h; exact h) (by omega)
  rw [bidi_Levels_l66, formeref09_Levels_l56, if_pos b1.2, w64_id (n := (i : Int) + 1) (by omega) (by omega), add1]
  simp only [if_pos b1, if_pos b2, e0, if_pos b3, sz, if_pos b4, if_pos b4.2, class_eq, refClass_eq, some_bind, Int.toNat_natCast]
  by_cases hx : v[i] = 1
  ·rw [if_pos hx, if_pos hx]
   by_cases hc : cl (bt ⟨l.toArray⟩ (i : Int)) = 3
   ·simp only [hx, hc, decide_true, some_bind, if_true, not_true_eq_false, decide_false, Bool.false_eq_true, if_false, List.set_set]
    rcases hd with rfl | rfl <;> exact next _
   ·simp only [hx, hc, decide_true, some_bind, if_true, not_false_eq_true, decide_false, Bool.false_eq_true, if_false, List.set_set]
    rcases hd with rfl | rfl <;> exact next _
  ·have hx0 : v[i] = 0 := by rcases hi' with h | h; exact h; exact absurd h hx
   rw [if_neg hx, if_neg hx]
   simp only [hx0, some_bind, Bool.false_eq_true, if_false, decide_true]
   rcases hd with rfl | rfl <;> exact next _
theorem levels_eq (l : List UInt8) (ho : okS l = true) (dir : Int) (hd : dir = 0 ∨ dir = 1) : ∃ v, bidi_Levels ⟨l.toArray⟩ dir = some (v, 0) ∧ formeref09_Levels ⟨l.toArray⟩ dir = some (v, 0) ∧ v.length = l.length := by
 have hl : l.length ≤ 1000000 := by have := (okS_all ho).2; omega
 obtain ⟨y, h1, h2, h3⟩ := dirs_eq l dir hd hl
 obtain ⟨v, h4, h5⟩ := levels_loop l dir hd hl y h3.1 _ 0 y rfl (Nat.zero_le _) h3.1 (fun j h _ => h3.2 _ (List.getElem_mem h))
 have h6 := (levels_same l dir hd hl y h3.1 _ 0 y rfl (Nat.zero_le _) h3.1 (fun j h _ => h3.2 _ (List.getElem_mem h))).symm.trans h4
 have h4' : bidi_Levels_l66 ⟨l.toArray⟩ dir y y 0 = some v := h4
 have h6' : formeref09_Levels_l56 ⟨l.toArray⟩ dir y y 0 = some v := h6
 refine ⟨v, ?_, ?_, h5⟩
 ·unfold bidi_Levels bidi_isLine
  rw [valid_mk, ho, h1]
  rcases hd with rfl | rfl
  ·simp only [some_bind, if_true, Bool.not_true, Bool.false_eq_true, if_false, h4']
  ·simp only [some_bind, if_true, Bool.not_true, Bool.false_eq_true, if_false, h4', show ¬ (1 : Int) = 0 by decide, decide_true]
 ·unfold formeref09_Levels formeref09_Line
  rw [refValid_mk l (by omega), ho, h2]
  rcases hd with rfl | rfl
  ·simp only [some_bind, if_true, Bool.not_true, Bool.false_eq_true, if_false, h6']
  ·simp only [some_bind, if_true, Bool.not_true, Bool.false_eq_true, if_false, h6', show ¬ (1 : Int) = 0 by decide, decide_true]
end Go.Proofs.YtokeiiakkfdmgaaGreatDoor.LG
