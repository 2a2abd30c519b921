/-
 All lines of a text. Plain Lean; no program in sight.
-/
import Derived.Test.YtokeiiakkfdmgaaGreatDoorWi
set_option linter.unusedVariables false
set_option linter.unusedSimpArgs false
set_option maxRecDepth 100000
namespace Go.Proofs.YtokeiiakkfdmgaaGreatDoor.LG
open Go Go.LG Go.Lib

def behind (b : api_Breaks) (l : List UInt8) (a : Nat) : List (Nat × Bool) := (ends b l).dropWhile fun p => decide (p.1 ≤ a)
theorem drop_while {α : Type} (p : α → Bool) : ∀ (k : Nat) (E : List α) (h : k < E.length), p E[k] = false → (∀ j (h : j < E.length), j < k → p E[j] = true) → E.dropWhile p = E.drop k
 | 0, x :: E, h, hk, hb => by
  have : p x = false := hk
  simp [List.dropWhile_cons, this]
 | k + 1, x :: E, h, hk, hb => by
  have h0 : p x = true := hb 0 (by simp) (by omega)
  rw [List.dropWhile_cons, if_pos h0, List.drop_succ_cons]
  exact drop_while p k E (by simpa using h) (by simpa using hk) fun j hj hjk => by
   have := hb (j + 1) (by simpa using hj) (by omega)
   simpa using this
def nxl (f : api_Font) (b : api_Breaks) (l : List UInt8) (sc : Int) (a : Nat) (room : Int) : Nat × Bool := stop f l sc a room (behind b l a)
theorem next_at (f : api_Font) (hf : Sm f) (b : api_Breaks) (l : List UInt8) (hs : l.length ≤ 100000) (sc : Int) {a : Nat} (ha : a < l.length) (room : Int) :
  inline_setter_next_k1 ⟨l.toArray⟩ ((ends b l).map brk) f sc (a : Int) room = some (ln f l sc a (nxl f b l sc a room)) ∧ nxl f b l sc a room ∈ ends b l ∧ a < (nxl f b l sc a room).1 ∧ (nxl f b l sc a room).1 ≤ l.length := by
 obtain ⟨k, hk, hak, hb, hx⟩ := next_mk f hf b l hs sc ha
 have e : behind b l a = (ends b l).drop k := drop_while _ k _ hk (by simpa using hak) fun j hj hjk => by simpa using hb j hj hjk
 obtain ⟨hpw, hle⟩ := ends_pw b l
 have hm : nxl f b l sc a room ∈ (ends b l).drop k := by
  have h0 : 0 < ((ends b l).drop k).length := by rw [List.length_drop]; omega
  have key : ∀ i, i < ((ends b l).drop k).length → ((ends b l).drop k).getD i (0, false) ∈ (ends b l).drop k := fun i hi => by
   rw [List.getD_eq_getElem?_getD, List.getElem?_eq_getElem hi]
   exact List.getElem_mem hi
  unfold nxl stop
  rw [e]
  cases hp : pick (W f l sc a) room ((ends b l).drop k) ((ends b l).drop k).length with
  | none => exact key 0 h0
  | some i => exact key i (pick_lt hp).1
 refine ⟨by rw [hx room]; unfold nxl; rw [e], List.mem_of_mem_drop hm, ?_, hle _ (List.mem_of_mem_drop hm)⟩
 have h2 := hpw.sublist (List.drop_sublist k _)
 rw [List.drop_eq_getElem_cons hk] at h2 hm
 rcases List.mem_cons.1 hm with h | h
 ·rw [h]; exact hak
 ·have := (List.pairwise_cons.1 h2).1 _ h
  omega
def lns (f : api_Font) (b : api_Breaks) (l : List UInt8) (sc : Int) (R : Nat → Int) : Nat → Nat → Nat → List api_Line
 | 0, _, _ => []
 | n + 1, a, i => if wc false (l.drop a) = 0 then [] else ln f l sc a (nxl f b l sc a (R i)) :: lns f b l sc R n (nxl f b l sc a (R i)).1 (i + 1)
def roomAt (rooms : List Int) (i : Nat) : Int := rooms.getD (min i (rooms.length - 1)) 0
theorem lines_loop (f : api_Font) (hf : Sm f) (b : api_Breaks) (l : List UInt8) (hs : l.length ≤ 100000) (ho : okS l = true) (sc : Int) (rooms : List Int) (hr : 0 < rooms.length) (hr2 : rooms.length ≤ 1000000) :
  ∀ (n a i : Nat) (acc : List api_Line), l.length - a < n → a ≤ l.length → i ≤ a → acc.length ≤ a →
   inline_setter_lines_1_k1_l50 (rnd (fun (u : (List api_Line)) (x : api_Line) => slices_AppendSeq_api_Line_k2_r63 u x)) ⟨l.toArray⟩ ((ends b l).map brk) f sc rooms (a : Int) (i : Int) (acc, none) = some (acc ++ lns f b l sc (roomAt rooms) n a i, none) := by
 intro n
 induction n with
 | zero => intro a i acc h; omega
 | succ n ih =>
  intro a i acc hn ha hi hacc
  have e0 : sub ⟨l.toArray⟩ (a : Int) (l.length : Int) = ⟨(l.drop a).toArray⟩ := by
   rw [sub_data]
   congr 2
   exact List.take_of_length_le (by simp)
  have hod : okS (l.drop a) = true := by
   have := okS_piece ho a (l.drop a).length
   rwa [List.take_length] at this
  rw [inline_setter_lines_1_k1_l50, sz, if_pos ⟨by omega, by omega⟩, e0, words_mk hod, some_bind]
  unfold lns
  by_cases hw : wc false (l.drop a) = 0
  ·rw [if_pos hw]
   simp [hw]
  ·rw [if_neg hw]
   have hlt : a < l.length := by
    rcases Nat.lt_or_ge a l.length with h | h
    ·exact h
    ·exact absurd (by rw [List.drop_eq_nil_of_le h]; rfl) hw
   have e1 : w64 ((rooms.length : Int) - 1) = (rooms.length : Int) - 1 := w64_id (by omega) (by omega)
   have e2 : min (i : Int) ((rooms.length : Int) - 1) = ((min i (rooms.length - 1) : Nat) : Int) := by omega
   have e3 : w64 ((i : Int) + 1) = ((i + 1 : Nat) : Int) := by rw [w64_id (by omega) (by omega)]; omega
   obtain ⟨hx, hm, hgt, hle⟩ := next_at f hf b l hs sc hlt (roomAt rooms i)
   show (if ((wc false (l.drop a) : Nat) : Int) = 0 then _ else _) = _
   rw [if_neg (by omega), e1, e2, if_pos ⟨by omega, by omega⟩]
   have e4 : rooms.getD (Int.toNat ((min i (rooms.length - 1) : Nat) : Int)) 0 = roomAt rooms i := rfl
   rw [e4, hx, some_bind]
   have step : rnd (fun (u : (List api_Line)) (x : api_Line) => slices_AppendSeq_api_Line_k2_r63 u x) (acc, none) (ln f l sc a (nxl f b l sc a (roomAt rooms i))) = some ((acc ++ [ln f l sc a (nxl f b l sc a (roomAt rooms i))], none), true) := by
    unfold rnd slices_AppendSeq_api_Line_k2_r63
    simp only
    rw [if_pos (by omega)]; rfl
   rw [step, some_bind, e3]
   have := ih (nxl f b l sc a (roomAt rooms i)).1 (i + 1) (acc ++ [ln f l sc a (nxl f b l sc a (roomAt rooms i))]) (by omega) hle (by omega) (by simp; omega)
   rw [List.append_assoc] at this
   exact this
end Go.Proofs.YtokeiiakkfdmgaaGreatDoor.LG
