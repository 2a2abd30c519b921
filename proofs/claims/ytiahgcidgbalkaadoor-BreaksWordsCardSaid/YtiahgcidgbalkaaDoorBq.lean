/-
  BreaksMatchesReference: the plain law. Plain Lean; no program in sight.
-/
import Derived.Test.YtiahgcidgbalkaaDoorBp
set_option linter.unusedVariables false
set_option linter.unusedSimpArgs false
set_option maxRecDepth 100000
namespace Go.Proofs.YtiahgcidgbalkaaDoor.LG
open Go Go.LG Go.Lib

theorem as_list (s : ByteArray) : ∃ l : List UInt8, s = ⟨l.toArray⟩ := ⟨s.data.toList, (Lib.mk_data s).symm⟩
theorem list_at {b : api_Breaks} {l : List UInt8} (hk : b.Keep.length ≤ 1000000) {xs : List api_Break} {e : Int} (h : (if (vb b && okS l) = true then ((LP b l).map brk, (0 : Int)) else ([], 1)) = (xs, e)) :
    breaks_List b ⟨l.toArray⟩ = some (xs, e) := by rw [list_mk b l hk, h]
theorem least_at {b : api_Breaks} {l : List UInt8} (hk : b.Keep.length ≤ 1000000) {xs : List ByteArray} {e : Int} (h : (if (vb b && okS l) = true then (LS b l, (0 : Int)) else ([], 1)) = (xs, e)) :
    breaks_Least b ⟨l.toArray⟩ = some (xs, e) := by rw [least_mk b l hk, h]
def exB : api_Breaks := ⟨2, 2, [⟨#[99, 107]⟩]⟩
theorem head_true : formelaw08_head = some true := by
  have k1 : exB.Keep.length ≤ 1000000 := by decide
  have k0 : (⟨0, 0, []⟩ : api_Breaks).Keep.length ≤ 1000000 := by decide
  have h1 : breaks_List exB (⟨#[97, 98, 45, 99, 100, 32, 101, 102]⟩ : ByteArray) = some ([⟨3, false⟩, ⟨6, false⟩], 0) := list_at (l := [97, 98, 45, 99, 100, 32, 101, 102]) k1 (by decide +kernel)
  have h2 : breaks_List exB (⟨#[97, 98, 126, 99, 100]⟩ : ByteArray) = some ([⟨3, true⟩], 0) := list_at (l := [97, 98, 126, 99, 100]) k1 (by decide +kernel)
  have h3 : breaks_List exB (⟨#[97, 126, 98, 99, 100]⟩ : ByteArray) = some ([], 0) := list_at (l := [97, 126, 98, 99, 100]) k1 (by decide +kernel)
  have h4 : breaks_List exB (⟨#[98, 97, 99, 126, 107, 97, 98]⟩ : ByteArray) = some ([], 0) := list_at (l := [98, 97, 99, 126, 107, 97, 98]) k1 (by decide +kernel)
  have h5 : breaks_Least exB (⟨#[97, 98, 126, 99, 100, 32, 101, 102]⟩ : ByteArray) = some ([⟨#[97, 98, 45]⟩, ⟨#[99, 100]⟩, ⟨#[101, 102]⟩], 0) := least_at (l := [97, 98, 126, 99, 100, 32, 101, 102]) k1 (by decide +kernel)
  have h6 : breaks_List (⟨0, 0, []⟩ : api_Breaks) (⟨#[97, 98]⟩ : ByteArray) = some ([], 1) := list_at (l := [97, 98]) k0 (by decide +kernel)
  have h7 : breaks_Valid exB = some true := by rw [valid8 exB k1]; decide +kernel
  unfold formelaw08_head
  rw [show (⟨2, 2, ([(⟨#[99, 107]⟩ : ByteArray)] : List ByteArray)⟩ : api_Breaks) = exB from rfl]
  simp only [h1, h2, h3, h4, h5, h6, some_bind, if_true, if_false, decide_true, List.length_nil]
  simp only [h7, same_self _ (show ([(⟨3, false⟩ : api_Break), (⟨6, false⟩ : api_Break)] : List api_Break).length ≤ 1000000 by decide), same_self _ (show ([(⟨3, true⟩ : api_Break)] : List api_Break).length ≤ 1000000 by decide),
    sameT_self _ (show ([(⟨#[97, 98, 45]⟩ : ByteArray), (⟨#[99, 100]⟩ : ByteArray), (⟨#[101, 102]⟩ : ByteArray)] : List ByteArray).length ≤ 1000000 by decide), some_bind]
  rfl
theorem matches_true (b : api_Breaks) (s : ByteArray) (hs : s.size ≤ 9223372036854775807) : formelaw08_BreaksMatchesReference b s = some true := by
  obtain ⟨l, rfl⟩ := as_list s
  rw [sz] at hs
  unfold formelaw08_BreaksMatchesReference
  rw [head_true, some_bind, sz]
  by_cases h1 : (30 : Int) < (b.Keep.length : Int)
  · rw [if_pos h1]; rfl
  · rw [if_neg h1]
    by_cases h2 : (300 : Int) < (l.length : Int) ∧ (l.length : Int) ≤ 2000
    · rw [if_pos h2.1, some_bind, some_bind, if_pos (by simpa using h2.2)]
    · have e : (if (300 : Int) < (l.length : Int) then some (decide ((l.length : Int) ≤ 2000)) else some false) = some false := by
        by_cases h3 : (300 : Int) < (l.length : Int)
        · have : ¬ (l.length : Int) ≤ 2000 := fun h => h2 ⟨h3, h⟩
          simp [h3, this]
        · simp [h3]
      have hk : b.Keep.length ≤ 1000000 := by omega
      rw [e, some_bind, some_bind, if_neg (by simp)]
      simp only [list_mk b l hk, refList_mk b l hk hs, valid8 b hk, refvalid8 b hk, least_mk b l hk, refLeast_mk b l hk hs, some_bind]
      cases hv : (vb b && okS l)
      · simp only [Bool.false_eq_true, if_false, same_self [] (Nat.zero_le _), sameT_self [] (Nat.zero_le _), some_bind, if_true, decide_true]
      · have ho : okS l = true := by
          rw [Bool.and_eq_true] at hv; exact hv.2
        have hl := (okS_all ho).2
        have l1 := LP_len b l
        have l2 := LS_len b l
        simp only [if_true, same_self ((LP b l).map brk) (by simp; omega), sameT_self (LS b l) (by omega), some_bind, decide_true]
end Go.Proofs.YtiahgcidgbalkaaDoor.LG
