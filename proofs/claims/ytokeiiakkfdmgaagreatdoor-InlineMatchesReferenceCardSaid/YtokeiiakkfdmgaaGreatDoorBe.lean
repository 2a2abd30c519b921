/-
 The visual order of a line as the reference has it, second half: runs are turned round. Plain Lean; no program in sight.
-/
import Derived.Test.YtokeiiakkfdmgaaGreatDoorBd
set_option linter.unusedVariables false
set_option linter.unusedSimpArgs false
set_option maxRecDepth 100000
namespace Go.Proofs.YtokeiiakkfdmgaaGreatDoor.LG
open Go Go.LG Go.Lib

theorem rev_exact (a : List Int) (ha : a.length ≤ 1000000) : ∀ (n i j : Nat) (v : List Int), j - i = n → i ≤ a.length → j ≤ a.length → v.length = a.length →
  ∃ v', slices_Reverse_int_k1_l34 a v (i : Int) ((j : Int) - 1) = some v' ∧ v'.length = a.length ∧ ∀ x, x < a.length → v'.getD x 0 = if i ≤ x ∧ x < j then v.getD (i + (j - 1) - x) 0 else v.getD x 0 := by
 intro n
 induction n using Nat.strongRecOn with
 | _ n ih =>
  intro i j v hn hi hj hv
  rw [slices_Reverse_int_k1_l34]
  by_cases h : (i : Int) < (j : Int) - 1
  ·have b1 : (0 : Int) ≤ (i : Int) ∧ (i : Int) < (a.length : Int) := ⟨by omega, by omega⟩
   have b2 : (0 : Int) ≤ (j : Int) - 1 ∧ (j : Int) - 1 < (a.length : Int) := ⟨by omega, by omega⟩
   have e1 : Int.toNat ((j : Int) - 1) = j - 1 := by omega
   have e4 : w64 ((j : Int) - 1 - 1) = ((j - 1 : Nat) : Int) - 1 := by rw [w64_id (by omega) (by omega)]; omega
   have e5 : w64 ((i : Int) + 1) = ((i + 1 : Nat) : Int) := by rw [w64_id (by omega) (by omega)]; omega
   rw [if_pos h]
   simp only [if_pos b1, if_pos b2, e1, Int.toNat_natCast, e4, e5]
   obtain ⟨v', h1, h2, h3⟩ := ih _ (by omega) (i + 1) (j - 1) ((v.set i (v.getD (j - 1) 0)).set (j - 1) (v.getD i 0)) rfl (by omega) (by omega) (by simp [hv])
   refine ⟨v', h1, h2, fun x hx => ?_⟩
   rw [h3 x hx]
   simp only [List.getD_eq_getElem?_getD, List.getElem?_set, List.length_set]
   by_cases c1 : i + 1 ≤ x ∧ x < j - 1
   ·rw [if_pos c1, if_pos (show i ≤ x ∧ x < j from ⟨by omega, by omega⟩), if_neg (by omega), if_neg (by omega), show i + 1 + (j - 1 - 1) - x = i + (j - 1) - x by omega]
   ·rw [if_neg c1]
    by_cases c2 : j - 1 = x
    ·rw [if_pos c2, if_pos (by omega), if_pos (show i ≤ x ∧ x < j from ⟨by omega, by omega⟩), show i + (j - 1) - x = i by omega]
     rfl
    ·rw [if_neg c2]
     by_cases c3 : i = x
     ·rw [if_pos c3, if_pos (by omega), if_pos (show i ≤ x ∧ x < j from ⟨by omega, by omega⟩), show i + (j - 1) - x = j - 1 by omega]
      rfl
     ·rw [if_neg c3, if_neg (by omega)]
  ·rw [if_neg h]
   refine ⟨v, rfl, hv, fun x hx => ?_⟩
   by_cases c : i ≤ x ∧ x < j
   ·rw [if_pos c, show i + (j - 1) - x = x by omega]
   ·rw [if_neg c]
theorem reverse_mk (a : List Int) (ha : a.length ≤ 1000000) : slices_Reverse_int_k1 a = some a.reverse := by
 obtain ⟨v, h1, h2, h3⟩ := rev_exact a ha _ 0 a.length a rfl (Nat.zero_le _) (Nat.le_refl _) rfl
 have h1' : slices_Reverse_int_k1_l34 a a 0 ((a.length : Int) - 1) = some v := h1
 have e : v = a.reverse := by
  refine List.ext_getElem (by rw [h2, List.length_reverse]) fun x g1 g2 => ?_
  have := h3 x (by omega)
  rw [if_pos ⟨Nat.zero_le _, by omega⟩] at this
  simp only [List.getD_eq_getElem?_getD, Nat.zero_add] at this
  rw [List.getElem?_eq_getElem g1, List.getElem?_eq_getElem (show a.length - 1 - x < a.length by omega)] at this
  rw [List.getElem_reverse]
  exact this
 unfold slices_Reverse_int_k1
 rw [w64_id (n := (a.length : Int) - 1) (by omega) (by omega), h1', e]; rfl
def Hi (lv : List Int) (t : Int) (a : List Int) (j : Nat) : Bool := decide (t ≤ lv.getD (Int.toNat (a.getD j 0)) 0)
theorem getD_in {a : List Int} {P : Int → Prop} (h : ∀ x ∈ a, P x) {i : Nat} (hi : i < a.length) : P (a.getD i 0) := by
 rw [List.getD_eq_getElem?_getD, List.getElem?_eq_getElem hi]
 exact h _ (List.getElem_mem hi)
theorem run_int_re (a lv : List Int) (t : Int) (ha : a.length ≤ 1000000) (hv : ∀ x ∈ a, 0 ≤ x ∧ x < (lv.length : Int)) : ∀ (n i : Nat), a.length - i = n → i ≤ a.length → bidi_runs_1_int_k1_l79 a lv t (i : Int) = some (re (Hi lv t a) n i : Int) := by
 intro n
 induction n with
 | zero =>
  intro i hn hi
  rw [bidi_runs_1_int_k1_l79, if_neg (by omega)]
  rfl
 | succ n ih =>
  intro i hn hi
  have hx := getD_in hv (show i < a.length by omega)
  rw [bidi_runs_1_int_k1_l79, if_pos (by omega), if_pos ⟨by omega, by omega⟩, Int.toNat_natCast]
  unfold bidi_turn_1_k1 re Hi
  rw [if_pos hx]
  simp only [some_bind]
  by_cases hc : t ≤ lv.getD (Int.toNat (a.getD i 0)) 0
  ·rw [decide_eq_true hc, if_pos rfl, if_pos rfl, w64_id (n := (i : Int) + 1) (by omega) (by omega), add1]
   exact ih (i + 1) (by omega) (by omega)
  ·rw [decide_eq_false hc, if_neg (by decide), if_neg (by decide)]
theorem ref_run_re (a lv : List Int) (t : Int) (ha : a.length ≤ 1000000) (hv : ∀ x ∈ a, 0 ≤ x ∧ x < (lv.length : Int)) : ∀ (n i : Nat), a.length - i = n → i ≤ a.length → formeref09_turn_k1_l145 a lv t (i : Int) = some (re (Hi lv t a) n i : Int) := by
 intro n
 induction n with
 | zero =>
  intro i hn hi
  rw [formeref09_turn_k1_l145, if_neg (by omega)]
  rfl
 | succ n ih =>
  intro i hn hi
  have hx := getD_in hv (show i < a.length by omega)
  rw [formeref09_turn_k1_l145, if_pos (by omega), if_pos ⟨by omega, by omega⟩, Int.toNat_natCast, if_pos hx]
  unfold re Hi
  simp only [some_bind]
  by_cases hc : t ≤ lv.getD (Int.toNat (a.getD i 0)) 0
  ·rw [decide_eq_true hc, if_pos rfl, if_pos rfl, w64_id (n := (i : Int) + 1) (by omega) (by omega), add1]
   exact ih (i + 1) (by omega) (by omega)
  ·rw [decide_eq_false hc, if_neg (by decide), if_neg (by decide)]
theorem seg_rev (a : List Int) {i k : Nat} (h : i ≤ k) (hk : k < a.length) : ((a.take (k + 1)).drop i).reverse = a.getD k 0 :: ((a.take k).drop i).reverse := by
 rw [List.take_succ_eq_append_getElem hk, List.drop_append_of_le_length (by rw [List.length_take]; omega), List.reverse_append]
 simp [List.getD_eq_getElem?_getD, hk]
theorem push_loop (a : List Int) (ha : a.length ≤ 1000000) (i : Nat) : ∀ (n k : Nat) (out : List Int), k - i = n → i ≤ k → k ≤ a.length → out.length + n ≤ 1000000 → formeref09_turn_k1_l210 a (i : Int) out ((k : Int) - 1) = some (out ++ ((a.take k).drop i).reverse) := by
 intro n
 induction n with
 | zero =>
  intro k out hn hik hk ho
  have e : k = i := by omega
  subst e
  rw [formeref09_turn_k1_l210, if_neg (by omega), List.drop_eq_nil_of_le (by rw [List.length_take]; omega)]
  simp
 | succ n ih =>
  intro k out hn hik hk ho
  have e1 : (k : Int) - 1 = ((k - 1 : Nat) : Int) := by omega
  rw [formeref09_turn_k1_l210, if_pos (by omega), if_pos ⟨by omega, by omega⟩, if_pos (by omega), w64_id (by omega) (by omega), e1, ih (k - 1) _ (by omega) (by omega) (by omega) (by simp; omega), Int.toNat_natCast]
  have e2 := seg_rev a (show i ≤ k - 1 by omega) (show k - 1 < a.length by omega)
  rw [show k - 1 + 1 = k by omega] at e2
  rw [e2, List.append_assoc]
  rfl
theorem drop_getD (a : List Int) {i : Nat} (h : i < a.length) : a.drop i = a.getD i 0 :: a.drop (i + 1) := by
 rw [List.drop_eq_getElem_cons h]
 simp [List.getD_eq_getElem?_getD, h]
theorem turn_same (a0 a lv : List Int) (t : Int) (ha : a.length ≤ 1000000) (h0 : a0.length = a.length) (hv : ∀ x ∈ a, 0 ≤ x ∧ x < (lv.length : Int)) : ∀ (n i : Nat) (out : List Int), a.length - i = n → out.length = min i a.length →
  ∃ w, bidi_runs_1_int_k1_l38 (rnd (fun (u : (List Int)) (x : Int × Int) => bidi_turn_k3_r153 a0 u x.1 x.2)) a lv t (i : Int) (out ++ a.drop i, none) = some (.inr (w, none)) ∧ formeref09_turn_k1_l50 a lv t out (i : Int) = some w ∧ w.length = a.length := by
 intro n
 induction n using Nat.strongRecOn with
 | _ n ih =>
  intro i out hn ho
  by_cases hi : i < a.length
  ·have ho' : out.length = i := by omega
   have hge := re_ge (Hi lv t a) (a.length - i) i
   have hle := re_le (Hi lv t a) (a.length - i) i
   have hend : re (Hi lv t a) (a.length - i) i < a.length → Hi lv t a (re (Hi lv t a) (a.length - i) i) = false := fun h => re_end (Hi lv t a) _ i (by omega)
   have hx := getD_in hv hi
   have b : (0 : Int) ≤ (i : Int) ∧ (i : Int) < (a.length : Int) := ⟨by omega, by omega⟩
   rw [bidi_runs_1_int_k1_l38, if_pos (by omega), run_int_re a lv t ha hv _ i rfl (Nat.le_of_lt hi), some_bind, formeref09_turn_k1_l50, if_pos b.2, if_pos b, Int.toNat_natCast, if_pos hx]
   have e : w64 (max (i : Int) (re (Hi lv t a) (a.length - i) i : Int) + 1) = ((re (Hi lv t a) (a.length - i) i + 1 : Nat) : Int) := by rw [w64_id (by omega) (by omega)]; omega
   rw [e]
   have low : ∀ (o : List Int) (j : Nat), o.length = j → j < a.length → Hi lv t a j = false → formeref09_turn_k1_l50 a lv t o (j : Int) = formeref09_turn_k1_l50 a lv t (o ++ [a.getD j 0]) ((j + 1 : Nat) : Int) := by
    intro o j hoj hj hl
    have hxj := getD_in hv hj
    have hl' : lv.getD (Int.toNat (a.getD j 0)) 0 < t := by
     unfold Hi at hl
     have := of_decide_eq_false hl
     omega
    have bj : (0 : Int) ≤ (j : Int) ∧ (j : Int) < (a.length : Int) := ⟨by omega, by omega⟩
    conv => lhs; rw [formeref09_turn_k1_l50, if_pos bj.2, if_pos bj, Int.toNat_natCast, if_pos hxj, if_pos hl', if_pos bj, if_pos (by omega)]
    simp only [some_bind]
    rw [w64_id (n := (j : Int) + 1) (by omega) (by omega), add1]
   by_cases hc : Hi lv t a i = true
   ·have hik : i < re (Hi lv t a) (a.length - i) i := by
     rw [show a.length - i = (a.length - i - 1) + 1 by omega]
     unfold re
     rw [if_pos hc]
     have := re_ge (Hi lv t a) (a.length - i - 1) (i + 1)
     omega
    generalize hk : re (Hi lv t a) (a.length - i) i = k at *
    have hc' : ¬ lv.getD (Int.toNat (a.getD i 0)) 0 < t := by
     unfold Hi at hc
     have := of_decide_eq_true hc
     omega
    have hvl : (out ++ a.drop i).length = a.length := by simp; omega
    have bk : (0 : Int) ≤ (i : Int) ∧ ((i : Int) : Int) ≤ (k : Int) ∧ (k : Int) ≤ (a0.length : Int) := ⟨by omega, by omega, by omega⟩
    have ecut : cutl (out ++ a.drop i) (i : Int) (k : Int) = (a.take k).drop i := by
     unfold cutl
     rw [Int.toNat_natCast, Int.toNat_natCast]
     rw [List.take_append, List.take_of_length_le (show out.length ≤ k by omega), List.drop_append, List.drop_eq_nil_of_le (show out.length ≤ i by omega), List.nil_append, show i - out.length = 0 by omega, List.drop_zero, List.drop_take, show k - out.length = k - i by omega]
    have step : rnd (fun (u : (List Int)) (x : Int × Int) => bidi_turn_k3_r153 a0 u x.1 x.2) (out ++ a.drop i, none) ((i : Int), (k : Int)) = some (((out ++ ((a.take k).drop i).reverse) ++ a.drop k, none), true) := by
     unfold rnd bidi_turn_k3_r153
     simp only
     rw [if_pos bk, ecut, reverse_mk _ (by simp; omega)]
     simp only [some_bind, Int.toNat_natCast]
     rw [List.take_append_of_le_length (by omega), List.take_of_length_le (by omega), List.drop_append, List.drop_eq_nil_of_le (show out.length ≤ k by omega), List.nil_append, List.drop_drop, show i + (k - out.length) = k by omega, List.append_assoc]
     rfl
    rw [if_pos (by omega), step, if_neg hc', ref_run_re a lv t ha hv _ i rfl (Nat.le_of_lt hi), hk]
    simp only [some_bind, Bool.not_true, Bool.false_eq_true, if_false]
    rw [w64_id (n := (k : Int) - 1) (by omega) (by omega), push_loop a ha i _ k out rfl (by omega) (by omega) (by omega)]
    simp only [some_bind]
    rw [w64_id (by omega) (by omega), show (k : Int) - 1 + 1 = (k : Int) by omega]
    have hol : (out ++ ((a.take k).drop i).reverse).length = k := by simp; omega
    by_cases hkn : k < a.length
    ·rw [low _ k hol hkn (hend hkn), drop_getD a hkn]
     have := ih _ (by omega) (k + 1) (out ++ ((a.take k).drop i).reverse ++ [a.getD k 0]) rfl (by simp at hol ⊢; omega)
     rw [List.append_assoc _ [a.getD k 0]] at this
     exact this
    ·have ek : k = a.length := by omega
     refine ⟨out ++ ((a.take k).drop i).reverse ++ a.drop k, ?_, ?_, ?_⟩
     ·rw [bidi_runs_1_int_k1_l38, if_neg (by omega)]
     ·rw [formeref09_turn_k1_l50, if_neg (by omega), List.drop_eq_nil_of_le (show a.length ≤ k by omega), List.append_nil]
     ·rw [List.length_append, hol]; simp; omega
   ·have hc' : Hi lv t a i = false := by simpa using hc
    have hre : re (Hi lv t a) (a.length - i) i = i := by
     rw [show a.length - i = (a.length - i - 1) + 1 by omega]
     unfold re
     rw [if_neg hc]
    have hl' : lv.getD (Int.toNat (a.getD i 0)) 0 < t := by
     unfold Hi at hc'
     have := of_decide_eq_false hc'
     omega
    rw [hre, if_neg (by omega), if_pos hl', if_pos b, if_pos (by omega)]
    simp only [some_bind, Bool.false_eq_true, if_false]
    rw [w64_id (n := (i : Int) + 1) (by omega) (by omega), add1, drop_getD a hi]
    have := ih _ (by omega) (i + 1) (out ++ [a.getD i 0]) rfl (by simp; omega)
    rw [List.append_assoc] at this
    exact this
  ·refine ⟨out, ?_, ?_, by omega⟩
   ·rw [bidi_runs_1_int_k1_l38, if_neg (by omega), List.drop_eq_nil_of_le (show a.length ≤ i by omega), List.append_nil]
   ·rw [formeref09_turn_k1_l50, if_neg (by omega)]
theorem turn_step (n : Nat) (a lv ts : List Int) (hn : n ≤ 1000000) (ha : a.length = n) (hlv : lv.length = n) (hts : ts.length ≤ 1000000) {i : Nat} (hi : i < ts.length) (v : List Int) (hv : v.Perm (iota n)) :
  ∃ w, bidi_turn_k3_l54 a lv ts v (i : Int) = bidi_turn_k3_l54 a lv ts w ((i + 1 : Nat) : Int) ∧ formeref09_turn_k1 v lv (ts.getD i 0) = some w ∧ w.Perm (iota n) := by
 have hvl : v.length = n := by rw [hv.length_eq, iota_len]
 have hr : ∀ x ∈ v, 0 ≤ x ∧ x < (lv.length : Int) := fun x hx => by have := iota_mem (hv.mem_iff.1 hx); omega
 have hcl : slices_Clone_int_k1 v = some (v, v) := by
  unfold slices_Clone_int_k1
  simp
  try omega
 obtain ⟨w, h1, h2, h3⟩ := turn_same a v lv (ts.getD i 0) (by omega) (by omega) hr _ 0 [] rfl (by simp)
 have h1' : bidi_runs_1_int_k1_l38 (rnd (fun (u : (List Int)) (x : Int × Int) => bidi_turn_k3_r153 a u x.1 x.2)) v lv (ts.getD i 0) 0 (v, none) = some (.inr (w, none)) := h1
 have h2' : formeref09_turn_k1_l50 v lv (ts.getD i 0) [] 0 = some w := h2
 obtain ⟨v2, h4, h5⟩ := runs_int (fun v : List Int => v.Perm (iota n)) v lv (ts.getD i 0) (by omega) hr _ (by rw [hvl]; exact turn_round n a hn ha) _ 0 v rfl hv
 have h4' : bidi_runs_1_int_k1_l38 (rnd (fun (u : (List Int)) (x : Int × Int) => bidi_turn_k3_r153 a u x.1 x.2)) v lv (ts.getD i 0) 0 (v, none) = some (.inr (v2, none)) := h4
 have ew : v2 = w := by
  have := h4'.symm.trans h1'
  injection this with e; injection e with e; injection e
 refine ⟨w, ?_, ?_, ew ▸ h5⟩
 ·conv => lhs; rw [bidi_turn_k3_l54]
  rw [if_pos (by omega), if_pos ⟨by omega, by omega⟩, hcl, some_bind, w64_id (n := (i : Int) + 1) (by omega) (by omega), add1, Int.toNat_natCast]
  unfold bidi_runs_int_k1 bidi_runs_1_int_k1
  simp only [some_bind, h1']
 ·unfold formeref09_turn_k1
  rw [h2']; rfl
theorem iota_succ (n : Nat) : iota (n + 1) = iota n ++ [(n : Int)] := by simp [iota, List.range_succ]
theorem reforder_loop (l : List UInt8) (hl : l.length ≤ 1000000) : ∀ (n i : Nat), l.length - i = n → i ≤ l.length → formeref09_Order_l60 ⟨l.toArray⟩ (iota i) (i : Int) = some (iota l.length) := by
 intro n
 induction n with
 | zero =>
  intro i hn hi
  rw [formeref09_Order_l60, sz, if_neg (by omega), show i = l.length by omega]
 | succ n ih =>
  intro i hn hi
  rw [formeref09_Order_l60, sz, if_pos (by omega), if_pos (by rw [iota_len]; omega), w64_id (n := (i : Int) + 1) (by omega) (by omega), add1, ← iota_succ]
  exact ih (i + 1) (by omega) (by omega)
theorem order_eq (l : List UInt8) (ho : okS l = true) (dir : Int) (hd : dir = 0 ∨ dir = 1) : ∃ y, bidi_Order ⟨l.toArray⟩ dir = some (y, 0) ∧ formeref09_Order ⟨l.toArray⟩ dir = some (y, 0) ∧ y.Perm (iota l.length) := by
 have hl : l.length ≤ 1000000 := by have := (okS_all ho).2; omega
 obtain ⟨lv, h1, h2, h3⟩ := levels_eq l ho dir hd
 have h4 := order_loop l hl _ 0 (List.replicate l.length (0 : Int)) rfl (Nat.zero_le _) (List.length_replicate ..) (fun j _ h => by omega)
 have h4' : bidi_Order_l61 ⟨l.toArray⟩ (List.replicate l.length (0 : Int)) 0 = some (iota l.length) := h4
 have h5 : formeref09_Order_l60 ⟨l.toArray⟩ [] 0 = some (iota l.length) := reforder_loop l hl _ 0 rfl (Nat.zero_le _)
 obtain ⟨w1, a1, b1, c1⟩ := turn_step l.length (iota l.length) lv [2, 1] hl (iota_len _) h3 (by decide) (i := 0) (by decide) (iota l.length) (List.Perm.refl _)
 obtain ⟨w2, a2, b2, c2⟩ := turn_step l.length (iota l.length) lv [2, 1] hl (iota_len _) h3 (by decide) (i := 1) (by decide) w1 c1
 have b1' : formeref09_turn_k1 (iota l.length) lv 2 = some w1 := b1
 have b2' : formeref09_turn_k1 w1 lv 1 = some w2 := b2
 have a1' : bidi_turn_k3_l54 (iota l.length) lv [2, 1] (iota l.length) 0 = bidi_turn_k3_l54 (iota l.length) lv [2, 1] w1 ((1 : Nat) : Int) := a1
 have a2' : bidi_turn_k3_l54 (iota l.length) lv [2, 1] w1 ((1 : Nat) : Int) = bidi_turn_k3_l54 (iota l.length) lv [2, 1] w2 2 := a2
 have a3 : bidi_turn_k3_l54 (iota l.length) lv [2, 1] w2 2 = some w2 := by rw [bidi_turn_k3_l54]; rfl
 refine ⟨w2, ?_, ?_, c2⟩
 ·unfold bidi_Order bidi_turn_k3
  rw [h1, some_bind]
  simp only [not_true_eq_false, if_false, sz, Int.toNat_natCast]
  rw [if_pos ⟨by omega, by omega, by omega⟩, h4', some_bind, a1', a2', a3]
  rfl
 ·unfold formeref09_Order
  rw [h2, some_bind]
  simp only [not_true_eq_false, if_false, h5, some_bind, b1', b2']
theorem refvis_loop (l : List UInt8) (y : List Int) (hl : y.length ≤ 1000000) (hy : ∀ x ∈ y, 0 ≤ x ∧ x < (l.length : Int)) : ∀ (n i : Nat), y.length - i = n → i ≤ y.length →
  formeref09_Visual_l58 ⟨l.toArray⟩ y ((y.take i).map fun x => bt ⟨l.toArray⟩ x) (i : Int) = some (y.map fun x => bt ⟨l.toArray⟩ x) := by
 intro n
 induction n with
 | zero =>
  intro i hn hi
  rw [formeref09_Visual_l58, if_neg (by omega), List.take_of_length_le (by omega)]
 | succ n ih =>
  intro i hn hi
  have hlt : i < y.length := by omega
  have e0 : y.getD i 0 = y[i] := by simp [List.getD_eq_getElem?_getD, hlt]
  have b := hy _ (List.getElem_mem hlt)
  rw [formeref09_Visual_l58, if_pos (by omega), if_pos ⟨by omega, by omega⟩, Int.toNat_natCast, e0, sz, if_pos b, if_pos (by rw [List.length_map, List.length_take]; omega), w64_id (n := (i : Int) + 1) (by omega) (by omega), add1]
  have e : (y.take (i + 1)).map (fun x => bt ⟨l.toArray⟩ x) = (y.take i).map (fun x => bt ⟨l.toArray⟩ x) ++ [bt ⟨l.toArray⟩ y[i]] := by
   rw [List.take_succ_eq_append_getElem hlt, List.map_append]; rfl
  rw [← e]
  exact ih (i + 1) (by omega) (by omega)
theorem visual_eq (l : List UInt8) (ho : okS l = true) (dir : Int) (hd : dir = 0 ∨ dir = 1) : ∃ p : ByteArray, bidi_Visual ⟨l.toArray⟩ dir = some (p, 0) ∧ formeref09_Visual ⟨l.toArray⟩ dir = some (p, 0) := by
 have hl : l.length ≤ 1000000 := by have := (okS_all ho).2; omega
 obtain ⟨y, h1, h2, h3⟩ := order_eq l ho dir hd
 have hyl : y.length = l.length := by rw [h3.length_eq, iota_len]
 have hyr : ∀ x ∈ y, 0 ≤ x ∧ x < (l.length : Int) := fun x hx => iota_mem (h3.mem_iff.1 hx)
 have hV := vis_loop l y (by omega) hyr _ 0 (List.replicate y.length (0 : Int)) rfl (Nat.zero_le _) (List.length_replicate ..) (fun j _ _ h => by omega)
 have hV' : bidi_Visual_l51 ⟨l.toArray⟩ y (List.replicate y.length (0 : Int)) 0 = some (y.map fun x => bt ⟨l.toArray⟩ x) := hV
 have hR : formeref09_Visual_l58 ⟨l.toArray⟩ y [] 0 = some (y.map fun x => bt ⟨l.toArray⟩ x) := refvis_loop l y (by omega) hyr _ 0 rfl (Nat.zero_le _)
 refine ⟨bstr (y.map fun x => bt ⟨l.toArray⟩ x), ?_, ?_⟩
 ·unfold bidi_Visual
  rw [h1, some_bind]
  simp only [Int.toNat_natCast]
  rw [if_pos ⟨by omega, by omega, by omega⟩, hV', some_bind]
 ·unfold formeref09_Visual
  rw [h2, some_bind]
  simp only [not_true_eq_false, if_false, hR, some_bind]
end Go.Proofs.YtokeiiakkfdmgaaGreatDoor.LG
