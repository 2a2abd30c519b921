/-
  All lines of a text. Plain Lean; no program in sight.
-/
import Derived.Test.YtokeiiakkfdmgaaGreatDoorWi
set_option linter.unusedVariables false
set_option linter.unusedSimpArgs false
set_option maxRecDepth 100000
namespace Go.Proofs.YtokeiiakkfdmgaaGreatDoor.LG
open Go Go.LG Go.Lib

def behind (b : api_Breaks) (l : List UInt8) (a : Nat) : List (Nat × Bool) := (ends b l).dropWhile fun p => decide (p.1 ≤ a)
theorem drop_while {α : Type} (p : α → Bool) : ∀ (k : Nat) (E : List α) (h : k < E.length), p E[k] = false → (∀ j (h : j < E.length), j < k → p E[j] = true) → E.dropWhile p = E.drop k
  | 0, x :: E, h, hk, hb => by
    have : p x = false := hk
    simp [List.dropWhile_cons, this]
  | k + 1, x :: E, h, hk, hb => by
    have h0 : p x = true := hb 0 (by simp) (by omega)
    rw [List.dropWhile_cons, if_pos h0, List.drop_succ_cons]
    exact drop_while p k E (by simpa using h) (by simpa using hk) fun j hj hjk => by
      have := hb (j + 1) (by simpa using hj) (by omega)
      simpa using this
def nxl (f : api_Font) (b : api_Breaks) (l : List UInt8) (sc : Int) (a : Nat) (room : Int) : Nat × Bool := stop f l sc a room (behind b l a)
theorem next_at (f : api_Font) (hf : Sm f) (b : api_Breaks) (l : List UInt8) (hs : l.length ≤ 100000) (sc : Int) {a : Nat} (ha : a < l.length) (room : Int) :
    inline_setter_next_k1 ⟨l.toArray⟩ ((ends b l).map brk) f sc (a : Int) room = some (ln f l sc a (nxl f b l sc a room)) ∧ nxl f b l sc a room ∈ ends b l ∧ a < (nxl f b l sc a room).1 ∧ (nxl f b l sc a room).1 ≤ l.length := by
  obtain ⟨k, hk, hak, hb, hx⟩ := next_mk f hf b l hs sc ha
  have e : behind b l a = (ends b l).drop k := drop_while _ k _ hk (by simpa using hak) fun j hj hjk => by simpa using hb j hj hjk
  obtain ⟨hpw, hle⟩ := ends_pw b l
  have hm : nxl f b l sc a room ∈ (ends b l).drop k := by
    have h0 : 0 < ((ends b l).drop k).length := by rw [List.length_drop]; omega
    have key : ∀ i, i < ((ends b l).drop k).length → ((ends b l).drop k).getD i (0, false) ∈ (ends b l).drop k := fun i hi => by
      rw [List.getD_eq_getElem?_getD, List.getElem?_eq_getElem hi]
      exact List.getElem_mem hi
    unfold nxl stop
    rw [e]
    cases hp : pick (W f l sc a) room ((ends b l).drop k) ((ends b l).drop k).length with
    | none => exact key 0 h0
    | some i => exact key i (pick_lt hp).1
  refine ⟨by rw [hx room]; unfold nxl; rw [e], List.mem_of_mem_drop hm, ?_, hle _ (List.mem_of_mem_drop hm)⟩
  have h2 := hpw.sublist (List.drop_sublist k _)
  rw [List.drop_eq_getElem_cons hk] at h2 hm
  rcases List.mem_cons.1 hm with h | h
  · rw [h]; exact hak
  · have := (List.pairwise_cons.1 h2).1 _ h
    omega
end Go.Proofs.YtokeiiakkfdmgaaGreatDoor.LG
