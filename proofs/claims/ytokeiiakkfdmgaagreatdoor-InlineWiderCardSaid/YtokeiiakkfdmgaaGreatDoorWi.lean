/-
  InlineWider: the plain law. Plain Lean; no program in sight.
-/
import Derived.Test.YtokeiiakkfdmgaaGreatDoorFu
set_option linter.unusedVariables false
set_option linter.unusedSimpArgs false
set_option maxRecDepth 100000
namespace Go.Proofs.YtokeiiakkfdmgaaGreatDoor.LG
open Go Go.LG Go.Lib

theorem within_mk (x lo hi : Int) : inline_within_int x lo hi = some (decide (lo ≤ x ∧ x ≤ hi)) := by
  have key : ∀ a b : Int, cmp_Compare_int a b = some (if a < b then -1 else if b < a then 1 else 0) := by
    intro a b
    unfold cmp_Compare_int cmp_isNaN_int
    simp
    split
    · rfl
    · split <;> rfl
  unfold inline_within_int
  rw [key, some_bind]
  by_cases h1 : x < lo
  · have : ¬ (lo ≤ x ∧ x ≤ hi) := by omega
    simp [h1, this]
  · rw [if_neg h1]
    have h0 : (0 : Int) ≤ (if lo < x then 1 else 0) := by split <;> decide
    rw [if_pos h0, key, some_bind, some_bind]
    congr 1
    by_cases h2 : x < hi
    · have : lo ≤ x ∧ x ≤ hi := by omega
      simp [h2, this]
    · rw [if_neg h2]
      by_cases h3 : hi < x
      · have : ¬ (lo ≤ x ∧ x ≤ hi) := by omega
        simp [h3, this]
      · have : lo ≤ x ∧ x ≤ hi := by omega
        simp [h3, this]
theorem indexH_loop (E : List (Nat × Bool)) (hE : E.length ≤ 1000000) : ∀ (n i : Nat), E.length - i = n → Tot (slices_IndexFunc_api_Break_k1_l22 (E.map brk) (i : Int)) := by
  intro n
  induction n with
  | zero => intro i hn; rw [slices_IndexFunc_api_Break_k1_l22, List.length_map, if_neg (by omega)]; exact Tot.val
  | succ n ih =>
    intro i hn
    rw [slices_IndexFunc_api_Break_k1_l22, List.length_map, if_pos (by omega), if_pos ⟨by omega, by omega⟩, w64_id (n := (i : Int) + 1) (by omega) (by omega)]
    unfold inline_prepare_1
    exact Tot.bind Tot.val fun _ _ => Tot.ite (fun _ => Tot.val) fun _ => ih (i + 1) (by omega)
theorem hyph_tot (E : List (Nat × Bool)) (hE : E.length ≤ 1000000) : Tot (slices_ContainsFunc_api_Break_k1 (E.map brk)) := by
  unfold slices_ContainsFunc_api_Break_k1 slices_IndexFunc_api_Break_k1
  refine Tot.bind (Tot.bind (indexH_loop E hE _ 0 rfl) fun o _ => ?_) fun _ _ => Tot.val
  cases o <;> exact Tot.val
theorem prepare17 (f : api_Font) (hf : Sm f) (b : api_Breaks) (l : List UInt8) (hk : b.Keep.length ≤ 1000000) (hs : l.length ≤ 100000) (hv : vb b = true) (ho : okS l = true) (sc : Int) :
    inline_prepare f b ⟨l.toArray⟩ sc = some (.inl (⟨#[]⟩, [])) ∨ inline_prepare f b ⟨l.toArray⟩ sc = some (.inr (.inl (⟨#[]⟩, []))) ∨ inline_prepare f b ⟨l.toArray⟩ sc = some (.inr (.inr (⟨l.toArray⟩, (ends b l).map brk, f, sc))) := by
  obtain ⟨y, hy⟩ := fvalid_tot f hf.1 hf.2
  obtain ⟨c, hc⟩ := hyph_tot (LP b l) (by have := LP_len b l; omega)
  obtain ⟨⟨h1, g1⟩, e1⟩ := has_tot f hf l
  obtain ⟨⟨h2, g2⟩, e2⟩ := has_tot f hf [45]
  have e2' : font_Has f (⟨#[45]⟩ : ByteArray) = some (h2, g2) := e2
  have hl : ((LP b l).map brk).length + 1 ≤ 8796093022208 := by
    have := LP_len b l
    rw [List.length_map]; omega
  have he : (LP b l).map brk ++ [(⟨(l.length : Int), false⟩ : api_Break)] = (ends b l).map brk := by
    unfold ends; rw [List.map_append]; rfl
  unfold inline_prepare
  rw [list_mk b l hk, hv, ho]
  simp only [Bool.and_self, if_true, some_bind, hy, within_mk, hc, e1, e2', sz, if_pos hl, he]
  by_cases hsc : 50 ≤ sc ∧ sc ≤ 300
  · cases y
    · left; simp
    · cases c
      · cases h1
        · right; left; simp [hsc]
        · right; right; simp [hsc]
      · cases h1
        · right; left; simp [hsc]
        · cases h2
          · right; left; simp [hsc]
          · right; right; simp [hsc]
  · left
    cases y <;> simp [hsc]
theorem next17 (f : api_Font) (hf : Sm f) (b : api_Breaks) (l : List UInt8) (hk : b.Keep.length ≤ 1000000) (hs : l.length ≤ 100000) (hv : vb b = true) (ho : okS l = true) (a sc : Int) :
    (∃ e, ¬ e = 0 ∧ ∀ room, 0 ≤ room → room ≤ 1000000000 → inline_Next f b ⟨l.toArray⟩ a sc room = some (⟨0, 0, 0, false⟩, e)) ∨
    (∃ n : Nat, a = (n : Int) ∧ n < l.length ∧ ∃ k, ∃ h : k < (ends b l).length, n < ((ends b l)[k]).1 ∧ (∀ j (h : j < (ends b l).length), j < k → ((ends b l)[j]).1 ≤ n) ∧
      ∀ room, 0 ≤ room → room ≤ 1000000000 → inline_Next f b ⟨l.toArray⟩ a sc room = some (ln f l sc n (stop f l sc n room ((ends b l).drop k)), 0)) := by
  have e1 : w64 ((l.length : Int) - 1) = (l.length : Int) - 1 := w64_id (by omega) (by omega)
  by_cases ha : 0 ≤ a ∧ a ≤ (l.length : Int) - 1
  · have base : ∀ room, 0 ≤ room → room ≤ 1000000000 → inline_Next f b ⟨l.toArray⟩ a sc room = (inline_prepare f b ⟨l.toArray⟩ sc >>= fun o66 => match o66 with | (Sum.inl (y71, y72)) => some ((⟨0, 0, 0, false⟩ : api_Line), (1 : Int)) | (Sum.inr (Sum.inl (y99, y100))) => some ((⟨0, 0, 0, false⟩ : api_Line), (20 : Int)) | (Sum.inr (Sum.inr (y127, y128, y137, y148))) => (inline_setter_next_k1 y127 y128 y137 y148 a room >>= fun y173 => some (y173, (0 : Int)))) := by
      intro room h0 h1
      have hr : (0 ≤ room ∧ room ≤ 1000000000) := ⟨h0, h1⟩
      unfold inline_Next
      rw [sz, e1, within_mk, within_mk, some_bind]
      simp only [ha, hr, and_self, decide_true, Bool.not_true, Bool.false_eq_true, if_false, some_bind]
      rfl
    rcases prepare17 f hf b l hk hs hv ho sc with hp | hp | hp
    · left; exact ⟨1, by decide, fun room h0 h1 => by rw [base room h0 h1, hp]; rfl⟩
    · left; exact ⟨20, by decide, fun room h0 h1 => by rw [base room h0 h1, hp]; rfl⟩
    · right
      have hn : a = ((a.toNat : Nat) : Int) := by omega
      have hlt : a.toNat < l.length := by omega
      obtain ⟨k, hk', hak, hb, hx⟩ := next_mk f hf b l hs sc hlt
      refine ⟨a.toNat, hn, hlt, k, hk', hak, hb, fun room h0 h1 => ?_⟩
      rw [base room h0 h1, hp, some_bind]
      show (inline_setter_next_k1 ⟨l.toArray⟩ ((ends b l).map brk) f sc a room >>= _) = _
      have := hx room
      rw [← hn] at this
      rw [this, some_bind]
  · left
    refine ⟨1, by decide, fun room h0 h1 => ?_⟩
    unfold inline_Next
    rw [sz, e1, within_mk, some_bind]
    simp only [ha, decide_false, Bool.not_false, if_true, some_bind]
theorem wider_true (f : api_Font) (b : api_Breaks) (s : ByteArray) (a sc room more : Int) (hs : s.size ≤ 9223372036854775807) (hm : 0 ≤ more ∧ more ≤ 4294967295) :
    formelaw17_InlineWider f b s a sc room more = some true := by
  obtain ⟨l, rfl⟩ : ∃ l : List UInt8, s = ⟨l.toArray⟩ := ⟨s.data.toList, (Lib.mk_data s).symm⟩
  rw [sz] at hs
  obtain ⟨u, hu, hU⟩ := usable_mk f b l sc hs
  unfold formelaw17_InlineWider
  rw [head_true, some_bind, hu, some_bind]
  cases u
  · simp
  · have U := hU rfl
    have e0 : w64 more = more := w64_id (by omega) (by omega)
    rw [e0]
    by_cases h1 : room < 0
    · simp [h1]
    · by_cases h2 : 1000000000 < room
      · simp [h1, h2]
      · have e1 : w64 (room + more) = room + more := w64_id (by omega) (by omega)
        rw [e1]
        by_cases h3 : 1000000000 < room + more
        · simp [h1, h2, h3]
        · simp only [h1, h2, h3, Bool.not_true, Bool.false_eq_true, if_false, decide_false, some_bind]
          rcases next17 f U.hf b l (by have := U.hk; omega) (by have := U.hl; omega) U.hv U.ho a sc with ⟨e, he, hx⟩ | ⟨n, hn, hlt, k, hk, hak, hb, hx⟩
          · rw [hx room (by omega) (by omega), hx (room + more) (by omega) (by omega)]
            simp [he]
          · rw [hx room (by omega) (by omega), hx (room + more) (by omega) (by omega)]
            have hD : ((ends b l).drop k).Pairwise (fun x y => x.1 ≤ y.1) := (ends_pw b l).1.sublist (List.drop_sublist k _)
            have hmo := stop_mono f l sc n (show room ≤ room + more by omega) hD
            have h5 : ((ln f l sc n (stop f l sc n room ((ends b l).drop k))).Until) ≤ ((ln f l sc n (stop f l sc n (room + more) ((ends b l).drop k))).Until) := by
              unfold ln; simp only; omega
            have h6 : (ln f l sc n (stop f l sc n room ((ends b l).drop k))).From = a := hn.symm
            have h7 : (ln f l sc n (stop f l sc n (room + more) ((ends b l).drop k))).From = a := hn.symm
            simp only [some_bind, if_true, decide_true, not_true_eq_false, if_false, h5, h6, h7]
theorem wf_u32 {n : Int} (h : (Lit.int .u32 n).wf = true) : 0 ≤ n ∧ n ≤ 4294967295 := by
  simp only [Lit.wf, Bool.and_eq_true, decide_eq_true_eq] at h
  exact ⟨h.1, h.2⟩
end Go.Proofs.YtokeiiakkfdmgaaGreatDoor.LG
