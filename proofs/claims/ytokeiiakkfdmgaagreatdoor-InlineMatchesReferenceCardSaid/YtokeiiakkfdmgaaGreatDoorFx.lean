/-
 The next line: the last place of those behind the beginning with which the line fits, or the first one. Plain Lean; no program in sight.
-/
import Derived.Test.YtokeiiakkfdmgaaGreatDoorFm
set_option linter.unusedVariables false
set_option linter.unusedSimpArgs false
set_option maxRecDepth 100000
namespace Go.Proofs.YtokeiiakkfdmgaaGreatDoor.LG
open Go Go.LG Go.Lib

def ends (b : api_Breaks) (l : List UInt8) : List (Nat × Bool) := LP b l ++ [(l.length, false)]
theorem up_pw : ∀ {xs : List (Nat × Bool)} {a e : Nat}, Up a xs e → xs.Pairwise (fun x y => x.1 ≤ y.1) ∧ ∀ x ∈ xs, a ≤ x.1 ∧ x.1 ≤ e
 | [], a, e, _ => ⟨List.Pairwise.nil, fun _ h => nomatch h⟩
 | x :: xs, a, e, h => by
  obtain ⟨h1, h2⟩ := up_pw h.2
  have hx : x.1 ≤ e := by
   cases xs with
   | nil => exact h.2
   | cons y ys => have := h2 y (by simp); omega
  refine ⟨List.pairwise_cons.2 ⟨fun y hy => (h2 y hy).1, h1⟩, fun y hy => ?_⟩
  rcases List.mem_cons.1 hy with rfl | hy
  ·exact ⟨h.1, hx⟩
  ·have := h2 y hy; have := h.1; omega
theorem ends_pw (b : api_Breaks) (l : List UInt8) : (ends b l).Pairwise (fun x y => x.1 ≤ y.1) ∧ ∀ x ∈ ends b l, x.1 ≤ l.length := by
 obtain ⟨h1, h2⟩ := up_pw (LP_up b l)
 unfold ends
 refine ⟨List.pairwise_append.2 ⟨h1, List.pairwise_singleton _ _, fun x hx y hy => ?_⟩, fun x hx => ?_⟩
 ·rw [List.mem_singleton.1 hy]; exact (h2 x hx).2
 ·rcases List.mem_append.1 hx with hx | hx
  ·exact (h2 x hx).2
  ·rw [List.mem_singleton.1 hx]; exact Nat.le_refl _
theorem ends_len (b : api_Breaks) (l : List UInt8) : (ends b l).length ≤ l.length + 1 := by
 have := LP_len b l
 unfold ends; simp; exact this
theorem getD_map_brk (E : List (Nat × Bool)) {i : Nat} (h : i < E.length) : (E.map brk).getD (Int.toNat (i : Int)) z_api_Break = brk E[i] := by
 simp [List.getD_eq_getElem?_getD, h]
theorem index_loop (E : List (Nat × Bool)) (hE : E.length ≤ 1000000) (a : Nat) (hl : ∃ x, E.getLast? = some x ∧ a < x.1) : ∀ (n i : Nat), E.length - i = n → i < E.length → (∀ j (h : j < E.length), j < i → E[j].1 ≤ a) →
  ∃ k, ∃ h : k < E.length, slices_IndexFunc_api_Break_k2_l25 (E.map brk) (a : Int) (i : Int) = some (.inl (k : Int)) ∧ a < E[k].1 ∧ ∀ j (h : j < E.length), j < k → E[j].1 ≤ a := by
 intro n
 induction n with
 | zero => intro i hn hi; omega
 | succ n ih =>
  intro i hn hi hb
  rw [slices_IndexFunc_api_Break_k2_l25, List.length_map, if_pos (by omega), if_pos ⟨by omega, by omega⟩, getD_map_brk E hi]
  unfold inline_setter_next_1_k1
  rw [some_bind]
  show ∃ k, ∃ h : k < E.length, (if decide ((a : Int) < (E[i].1 : Int)) = true then _ else _) = _ ∧ _
  by_cases h : a < E[i].1
  ·rw [if_pos (by simpa using h)]
   exact ⟨i, hi, rfl, h, hb⟩
  ·rw [if_neg (by simpa using h), w64_id (by omega) (by omega), add1]
   have hi2 : i + 1 < E.length := by
    rcases Nat.lt_or_ge (i + 1) E.length with h' | h'
    ·exact h'
    ·obtain ⟨x, hx, hax⟩ := hl
     have : i = E.length - 1 := by omega
     rw [List.getLast?_eq_getElem?, ← this, List.getElem?_eq_getElem hi] at hx
     cases hx; omega
   refine ih (i + 1) (by omega) hi2 fun j hj hji => ?_
   rcases Nat.lt_or_ge j i with h' | h'
   ·exact hb j hj h'
   ·have : j = i := by omega
    subst this; omega
def pick (w : Nat × Bool → Int) (room : Int) (D : List (Nat × Bool)) : Nat → Option Nat
 | 0 => none
 | m + 1 => if w (D.getD m (0, false)) ≤ room then some m else pick w room D m
theorem pick_lt {w : Nat × Bool → Int} {room : Int} {D : List (Nat × Bool)} : ∀ {m i : Nat}, pick w room D m = some i → i < m ∧ w (D.getD i (0, false)) ≤ room
 | 0, i, h => nomatch h
 | m + 1, i, h => by
  unfold pick at h
  split at h
  ·cases h; exact ⟨Nat.lt_succ_self _, by assumption⟩
  ·have := pick_lt h; exact ⟨by omega, this.2⟩
def tup (x : api_Line) : Int × Int × Int × Bool := (x.From, x.Until, x.Width, x.Hyphen)
abbrev nx (s : ByteArray) (E : List api_Break) (f : api_Font) (sc a room : Int) : (Int × Int × Int × Bool) → (Int × api_Break) → Option ((Int × Int × Int × Bool) × Option Nat) :=
 fun (u : Int × Int × Int × Bool) (x : Int × api_Break) => inline_setter_next_k1_r97 s E f sc a room u.1 u.2.1 u.2.2.1 u.2.2.2 x.1 x.2
theorem back_loop (f : api_Font) (hf : Sm f) (l : List UInt8) (hs : l.length ≤ 1000000) (E : List api_Break) (sc room : Int) (a : Nat) (D : List (Nat × Bool)) (hD : ∀ x ∈ D, a ≤ x.1 ∧ x.1 ≤ l.length) (hl : D.length ≤ 1000000) (z : Int × Int × Int × Bool) :
  ∀ m : Nat, m ≤ D.length → slices_Backward_1_api_Break_k1_l26 (rnd (nx ⟨l.toArray⟩ E f sc (a : Int) room)) (D.map brk) ((m : Int) - 1) (z, none) =
   some (match pick (W f l sc a) room D m with | some i => .inl (tup (ln f l sc a (D.getD i (0, false))), some 0) | none => .inr (z, none)) := by
 intro m
 induction m with
 | zero => intro _; rw [slices_Backward_1_api_Break_k1_l26, if_neg (by omega)]; rfl
 | succ m ih =>
  intro hm
  have hlt : m < D.length := by omega
  rw [slices_Backward_1_api_Break_k1_l26, List.length_map, if_pos (by omega), if_pos ⟨by omega, by omega⟩]
  have e1 : (((m + 1 : Nat) : Int) - 1) = (m : Int) := by omega
  rw [e1, getD_map_brk D hlt]
  have hx := hD D[m] (List.getElem_mem hlt)
  have e2 : D.getD m (0, false) = D[m] := by simp [List.getD_eq_getElem?_getD, hlt]
  have step : rnd (nx ⟨l.toArray⟩ E f sc (a : Int) room) (z, none) ((m : Int), brk D[m]) = some (if W f l sc a D[m] ≤ room then ((tup (ln f l sc a D[m]), some 0), false) else ((z, none), true)) := by
   unfold rnd
   simp only [nx]
   unfold inline_setter_next_k1_r97
   rw [line_mk f hf l hs E sc hx.1 hx.2, some_bind]
   show ((if W f l sc a D[m] ≤ room then _ else _) >>= _) = _
   by_cases hw : W f l sc a D[m] ≤ room
   ·rw [if_pos hw, if_pos hw]; rfl
   ·rw [if_neg hw, if_neg hw]; rfl
  rw [step, some_bind]
  unfold pick
  rw [e2]
  by_cases hw : W f l sc a D[m] ≤ room
  ·rw [if_pos hw, if_pos hw]
   simp only [e2]
   rfl
  ·rw [if_neg hw, if_neg hw]
   show slices_Backward_1_api_Break_k1_l26 _ _ (w64 ((m : Int) - 1)) (z, none) = _
   rw [w64_id (by omega) (by omega)]
   exact ih (by omega)
def stop (f : api_Font) (l : List UInt8) (sc : Int) (a : Nat) (room : Int) (D : List (Nat × Bool)) : Nat × Bool :=
 match pick (W f l sc a) room D D.length with
 | some i => D.getD i (0, false)
 | none => D.getD 0 (0, false)
theorem next_mk (f : api_Font) (hf : Sm f) (b : api_Breaks) (l : List UInt8) (hs : l.length ≤ 100000) (sc : Int) {a : Nat} (ha : a < l.length) :
  ∃ k, ∃ h : k < (ends b l).length, a < ((ends b l)[k]).1 ∧ (∀ j (h : j < (ends b l).length), j < k → ((ends b l)[j]).1 ≤ a) ∧
   ∀ room, inline_setter_next_k1 ⟨l.toArray⟩ ((ends b l).map brk) f sc (a : Int) room = some (ln f l sc a (stop f l sc a room ((ends b l).drop k))) := by
 have hlen := ends_len b l
 obtain ⟨hpw, hle⟩ := ends_pw b l
 have hl : ∃ x, (ends b l).getLast? = some x ∧ a < x.1 := ⟨(l.length, false), by unfold ends; simp, ha⟩
 have h0 : 0 < (ends b l).length := by unfold ends; simp
 obtain ⟨k, hk, hi, hak, hb⟩ := index_loop (ends b l) (by omega) a hl _ 0 rfl h0 (fun j _ h => by omega)
 refine ⟨k, hk, hak, hb, fun room => ?_⟩
 have hi' : slices_IndexFunc_api_Break_k2_l25 ((ends b l).map brk) (a : Int) 0 = some (.inl (k : Int)) := hi
 have hc : cutl ((ends b l).map brk) (k : Int) (((ends b l).length : Nat) : Int) = ((ends b l).drop k).map brk := by
  unfold cutl
  rw [Int.toNat_natCast, Int.toNat_natCast, List.take_of_length_le (by simp), List.map_drop]
 have hDl : ((ends b l).drop k).length = (ends b l).length - k := List.length_drop ..
 have hD : ∀ x ∈ (ends b l).drop k, a ≤ x.1 ∧ x.1 ≤ l.length := by
  intro x hx
  refine ⟨?_, hle x (List.mem_of_mem_drop hx)⟩
  rw [List.drop_eq_getElem_cons hk] at hx
  rcases List.mem_cons.1 hx with rfl | hx
  ·omega
  ·have h2 := hpw.sublist (List.drop_sublist k _)
   rw [List.drop_eq_getElem_cons hk] at h2
   have := (List.pairwise_cons.1 h2).1 x hx
   omega
 have hD0 : 0 < ((ends b l).drop k).length := by omega
 unfold inline_setter_next_k1 slices_IndexFunc_api_Break_k2 slices_Backward_api_Break slices_Backward_1_api_Break_k1
 rw [hi', some_bind]
 show (some (k : Int) >>= _) = _
 rw [some_bind, List.length_map, if_pos ⟨by omega, by omega⟩, hc, some_bind, List.length_map, w64_id (n := (((ends b l).drop k).length : Int) - 1) (by omega) (by omega)]
 have hB := back_loop f hf l (by omega) ((ends b l).map brk) sc room a _ hD (by omega) (0, 0, 0, false) ((ends b l).drop k).length (Nat.le_refl _)
 unfold nx at hB
 rw [hB, some_bind]
 unfold stop
 cases hp : pick (W f l sc a) room ((ends b l).drop k) ((ends b l).drop k).length with
 | some i => rfl
 | none =>
  show (if (0 : Int) ≤ 0 ∧ (0 : Int) < ((((ends b l).drop k).length : Nat) : Int) then _ else none) = _
  rw [if_pos ⟨by omega, by omega⟩]
  have e := getD_map_brk ((ends b l).drop k) hD0
  have e' : (((ends b l).drop k).map brk).getD (Int.toNat 0) z_api_Break = brk (((ends b l).drop k)[0]) := e
  have hx := hD _ (List.getElem_mem hD0)
  have e3 : ((ends b l).drop k).getD 0 (0, false) = ((ends b l).drop k)[0] := by rw [List.getD_eq_getElem?_getD, List.getElem?_eq_getElem hD0]; rfl
  rw [e', line_mk f hf l (by omega) _ sc hx.1 hx.2, some_bind]
  simp only [e3]
end Go.Proofs.YtokeiiakkfdmgaaGreatDoor.LG
