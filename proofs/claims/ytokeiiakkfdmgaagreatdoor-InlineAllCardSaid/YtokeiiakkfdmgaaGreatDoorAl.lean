/-
  InlineAll: the plain law. Plain Lean; no program in sight.
-/
import Derived.Test.YtokeiiakkfdmgaaGreatDoorFl
set_option linter.unusedVariables false
set_option linter.unusedSimpArgs false
set_option maxRecDepth 100000
namespace Go.Proofs.YtokeiiakkfdmgaaGreatDoor.LG
open Go Go.LG Go.Lib

theorem rooms_loop (r : List Int) (hr : r.length ≤ 1000000) : ∀ (n i : Nat), r.length - i = n → Tot (slices_IndexFunc_int_k1_l22 r (i : Int)) := by
  intro n
  induction n with
  | zero => intro i hn; rw [slices_IndexFunc_int_k1_l22, if_neg (by omega)]; exact Tot.val
  | succ n ih =>
    intro i hn
    rw [slices_IndexFunc_int_k1_l22, if_pos (by omega), if_pos ⟨by omega, by omega⟩, w64_id (n := (i : Int) + 1) (by omega) (by omega)]
    unfold inline_Lines_1
    rw [within_mk]
    exact Tot.bind (Tot.bind Tot.val fun _ _ => Tot.val) fun _ _ => Tot.ite (fun _ => Tot.val) fun _ => ih (i + 1) (by omega)
theorem rooms_tot (r : List Int) (hr : r.length ≤ 1000000) : Tot (slices_ContainsFunc_int_k1 r) := by
  unfold slices_ContainsFunc_int_k1 slices_IndexFunc_int_k1
  refine Tot.bind (Tot.bind (rooms_loop r hr _ 0 rfl) fun o _ => ?_) fun _ _ => Tot.val
  cases o <;> exact Tot.val
theorem lines17 (f : api_Font) (hf : Sm f) (b : api_Breaks) (l : List UInt8) (hk : b.Keep.length ≤ 1000000) (hs : l.length ≤ 100000) (hv : vb b = true) (ho : okS l = true) (sc : Int) (rooms : List Int) (hr : rooms.length ≤ 1000000) :
    (∃ e, ¬ e = 0 ∧ inline_Lines f b ⟨l.toArray⟩ sc rooms = some ([], e)) ∨ (0 < rooms.length ∧ inline_Lines f b ⟨l.toArray⟩ sc rooms = some (lns f b l sc (roomAt rooms) (l.length + 1) 0 0, 0)) := by
  obtain ⟨c, hc⟩ := rooms_tot rooms hr
  by_cases h0 : (rooms.length : Int) = 0
  · left
    refine ⟨1, by decide, ?_⟩
    unfold inline_Lines
    rw [if_pos h0, some_bind, if_pos rfl]
  · cases c
    · rcases prepare17 f hf b l hk hs hv ho sc with hp | hp | hp
      · left
        refine ⟨1, by decide, ?_⟩
        unfold inline_Lines
        rw [if_neg h0, hc]
        simp only [some_bind, Bool.false_eq_true, if_false, hp]
      · left
        refine ⟨20, by decide, ?_⟩
        unfold inline_Lines
        rw [if_neg h0, hc]
        simp only [some_bind, Bool.false_eq_true, if_false, hp]
      · right
        refine ⟨by omega, ?_⟩
        have hL := lines_loop f hf b l hs ho sc rooms (by omega) hr (l.length + 1) 0 0 [] (by omega) (by omega) (Nat.le_refl _) (Nat.le_refl _)
        have hL' : inline_setter_lines_1_k1_l50 (rnd (fun (u : (List api_Line)) (x : api_Line) => slices_AppendSeq_api_Line_k2_r63 u x)) ⟨l.toArray⟩ ((ends b l).map brk) f sc rooms 0 0 ([], none) = some (lns f b l sc (roomAt rooms) (l.length + 1) 0 0, none) := hL
        unfold inline_Lines
        rw [if_neg h0, hc]
        simp only [some_bind, Bool.false_eq_true, if_false, hp]
        unfold inline_setter_lines_k1 slices_Collect_api_Line_k1 slices_AppendSeq_api_Line_k2 inline_setter_lines_1_k1
        simp only [some_bind]
        rw [hL']
        rfl
    · left
      refine ⟨1, by decide, ?_⟩
      unfold inline_Lines
      rw [if_neg h0, hc]
      simp only [some_bind, if_true]
theorem getD_pre2 {α : Type} (pre : List α) (k : α) (ks : List α) (d : α) : (pre ++ k :: ks).getD (Int.toNat (pre.length : Int)) d = k := by
  simp [List.getD_eq_getElem?_getD]
theorem all_inner (xs : List api_Line) (E : List (Nat × Bool)) (hE : E.length ≤ 1000000) (i : Nat) (hi : i < xs.length) (p : Nat × Bool) (hu : (xs.getD (Int.toNat (i : Int)) z_api_Line).Until = (p.1 : Int)) (hh : (xs.getD (Int.toNat (i : Int)) z_api_Line).Hyphen = p.2) :
    ∀ (n k : Nat) (v : Bool), E.length - k = n → ∃ r, formelaw17_InlineAll_l254 xs (E.map brk) (i : Int) v (k : Int) = some r ∧ (v = true ∨ p ∈ E.drop k → r = true) := by
  intro n
  induction n with
  | zero =>
    intro k v hn
    rw [formelaw17_InlineAll_l254, List.length_map, if_neg (by omega)]
    refine ⟨v, rfl, fun h => ?_⟩
    rcases h with h | h
    · exact h
    · rw [List.drop_eq_nil_of_le (by omega)] at h; cases h
  | succ n ih =>
    intro k v hn
    have hk : k < E.length := by omega
    have hi' : (0 : Int) ≤ (i : Int) ∧ (i : Int) < (xs.length : Int) := ⟨by omega, by omega⟩
    have hk' : (0 : Int) ≤ (k : Int) ∧ (k : Int) < ((E.map brk).length : Int) := by rw [List.length_map]; exact ⟨by omega, by omega⟩
    rw [formelaw17_InlineAll_l254, if_pos hk'.2]
    simp only [if_pos hk', if_pos hi', getD_map_brk E hk, hu, hh]
    have e3 : w64 ((k : Int) + 1) = ((k + 1 : Nat) : Int) := by rw [w64_id (by omega) (by omega)]; omega
    rw [e3]
    obtain ⟨v2, hv2, hv3⟩ : ∃ v2, (if v = true then some true else if (brk E[k]).At = (p.1 : Int) then some (decide ((brk E[k]).Hyphen = p.2)) else some false) = some v2 ∧ (v = true ∨ p = E[k] → v2 = true) := by
      cases v
      · by_cases h1 : (brk E[k]).At = (p.1 : Int)
        · rw [if_neg (by decide), if_pos h1]
          refine ⟨_, rfl, fun h => ?_⟩
          rcases h with h | h
          · cases h
          · rw [h]; exact decide_eq_true rfl
        · rw [if_neg (by decide), if_neg h1]
          refine ⟨_, rfl, fun h => ?_⟩
          rcases h with h | h
          · cases h
          · rw [h] at h1; exact absurd rfl h1
      · exact ⟨true, rfl, fun _ => rfl⟩
    rw [hv2, some_bind]
    obtain ⟨r, hr, hr2⟩ := ih (k + 1) v2 (by omega)
    refine ⟨r, hr, fun h => hr2 ?_⟩
    rcases h with h | h
    · exact .inl (hv3 (.inl h))
    · rw [List.drop_eq_getElem_cons hk] at h
      rcases List.mem_cons.1 h with h | h
      · exact .inl (hv3 (.inr h))
      · exact .inr h
theorem rest_mk (l : List UInt8) (a : Nat) : sub ⟨l.toArray⟩ (a : Int) (l.length : Int) = ⟨(l.drop a).toArray⟩ := by
  rw [sub_data]
  congr 2
  exact List.take_of_length_le (by simp)
theorem rest_ok {l : List UInt8} (ho : okS l = true) (a : Nat) : okS (l.drop a) = true := by
  have := okS_piece ho a (l.drop a).length
  rwa [List.take_length] at this
theorem all_loop (f : api_Font) (hf : Sm f) (b : api_Breaks) (l : List UInt8) (hs : l.length ≤ 100000) (ho : okS l = true) (sc : Int) (R : Nat → Int) (xs : List api_Line) (hx : xs.length ≤ 1000000) :
    ∀ (n a i : Nat) (pre : List api_Line), l.length - a < n → a ≤ l.length → xs = pre ++ lns f b l sc R n a i →
      ∃ at_ : Nat, formelaw17_InlineAll_l139 ⟨l.toArray⟩ xs ((LP b l).map brk) (a : Int) (pre.length : Int) = some (.inr (at_ : Int)) ∧ at_ ≤ l.length ∧ wc false (l.drop at_) = 0 := by
  intro n
  induction n with
  | zero => intro a i pre h; omega
  | succ n ih =>
    intro a i pre hn ha he
    by_cases hw : wc false (l.drop a) = 0
    · have : xs = pre := by rw [he]; unfold lns; rw [if_pos hw, List.append_nil]
      rw [formelaw17_InlineAll_l139, if_neg (by rw [this]; omega)]
      exact ⟨a, rfl, ha, hw⟩
    · have hlt : a < l.length := by
        rcases Nat.lt_or_ge a l.length with h | h
        · exact h
        · exact absurd (by rw [List.drop_eq_nil_of_le h]; rfl) hw
      obtain ⟨_, hm, hgt, hle⟩ := next_at f hf b l hs sc hlt (R i)
      have he2 : xs = pre ++ ln f l sc a (nxl f b l sc a (R i)) :: lns f b l sc R n (nxl f b l sc a (R i)).1 (i + 1) := by
        rw [he]; conv => lhs; unfold lns
        rw [if_neg hw]
      have hlen : pre.length < xs.length := by rw [he2]; simp
      have hg : xs.getD (Int.toNat (pre.length : Int)) z_api_Line = ln f l sc a (nxl f b l sc a (R i)) := by rw [he2]; exact getD_pre2 _ _ _ _
      have hi' : (0 : Int) ≤ (pre.length : Int) ∧ (pre.length : Int) < (xs.length : Int) := ⟨by omega, by omega⟩
      have hLP := LP_len b l
      obtain ⟨r, hr, hr2⟩ := all_inner xs (LP b l) (by omega) pre.length hlen (nxl f b l sc a (R i)) (by rw [hg]; rfl) (by rw [hg]; rfl) _ 0 (decide (((nxl f b l sc a (R i)).1 : Int) = (l.length : Int)) && !(nxl f b l sc a (R i)).2) rfl
      have hrt : r = true := by
        refine hr2 ?_
        unfold ends at hm
        rcases List.mem_append.1 hm with h | h
        · exact .inr h
        · rw [List.mem_singleton.1 h]; exact .inl (by simp)
      have hr' : formelaw17_InlineAll_l254 xs ((LP b l).map brk) (pre.length : Int) (decide (((nxl f b l sc a (R i)).1 : Int) = (l.length : Int)) && !(nxl f b l sc a (R i)).2) 0 = some true := by rw [← hrt]; exact hr
      have e3 : w64 ((pre.length : Int) + 1) = ((pre ++ [ln f l sc a (nxl f b l sc a (R i))]).length : Int) := by rw [w64_id (by omega) (by omega)]; simp
      rw [formelaw17_InlineAll_l139, if_pos hi'.2]
      simp only [if_pos hi', hg]
      have f1 : (ln f l sc a (nxl f b l sc a (R i))).From = (a : Int) := rfl
      have f2 : (ln f l sc a (nxl f b l sc a (R i))).Until = ((nxl f b l sc a (R i)).1 : Int) := rfl
      have f3 : (ln f l sc a (nxl f b l sc a (R i))).Hyphen = (nxl f b l sc a (R i)).2 := rfl
      have g1 : ¬ ((nxl f b l sc a (R i)).1 : Int) ≤ (a : Int) := by omega
      have g2 : ¬ (l.length : Int) < ((nxl f b l sc a (R i)).1 : Int) := by omega
      have g3 : ¬ ((wc false (l.drop a) : Nat) : Int) = 0 := by omega
      have g4 : (0 : Int) ≤ (a : Int) ∧ (a : Int) ≤ (l.length : Int) := ⟨by omega, by omega⟩
      have v0 : (if ((nxl f b l sc a (R i)).1 : Int) = (l.length : Int) then some (!(nxl f b l sc a (R i)).2) else some false) = some (decide (((nxl f b l sc a (R i)).1 : Int) = (l.length : Int)) && !(nxl f b l sc a (R i)).2) := by
        by_cases h : ((nxl f b l sc a (R i)).1 : Int) = (l.length : Int)
        · simp [h]
        · simp [h]
      simp only [f1, f2, f3, sz, not_true_eq_false, if_false, g1, g2, decide_false, some_bind, Bool.false_eq_true, if_pos g4, rest_mk, words_mk (rest_ok ho a), v0, hr', g3, Bool.not_true, e3]
      obtain ⟨t, ht, ht2⟩ := ih (nxl f b l sc a (R i)).1 (i + 1) (pre ++ [ln f l sc a (nxl f b l sc a (R i))]) (by omega) hle (by rw [he2]; simp)
      exact ⟨t, ht, ht2⟩
theorem lns_len (f : api_Font) (b : api_Breaks) (l : List UInt8) (sc : Int) (R : Nat → Int) : ∀ (n a i : Nat), (lns f b l sc R n a i).length ≤ n := by
  intro n
  induction n with
  | zero => intro a i; exact Nat.le_refl _
  | succ n ih =>
    intro a i
    unfold lns
    split
    · simp
    · have := ih (nxl f b l sc a (R i)).1 (i + 1)
      simp; exact this
theorem all_true (f : api_Font) (b : api_Breaks) (s : ByteArray) (sc : Int) (rooms : List Int) (hs : s.size ≤ 9223372036854775807) : formelaw17_InlineAll f b s sc rooms = some true := by
  obtain ⟨l, rfl⟩ : ∃ l : List UInt8, s = ⟨l.toArray⟩ := ⟨s.data.toList, (Lib.mk_data s).symm⟩
  rw [sz] at hs
  obtain ⟨u, hu, hU⟩ := usable_mk f b l sc hs
  unfold formelaw17_InlineAll
  rw [head_true, some_bind, hu, some_bind]
  cases u
  · simp
  · have U := hU rfl
    by_cases h1 : 60 < (rooms.length : Int)
    · simp [h1]
    · have hl := U.hl
      have hk := U.hk
      simp only [h1, Bool.not_true, Bool.false_eq_true, if_false, decide_false, some_bind, list_mk b l (by omega), U.hv, U.ho, Bool.and_self, if_true]
      rcases lines17 f U.hf b l (by omega) (by omega) U.hv U.ho sc rooms (by omega) with ⟨e, he, hx⟩ | ⟨h0, hx⟩
      · rw [hx]
        simp [he]
      · rw [hx, some_bind]
        have hll := lns_len f b l sc (roomAt rooms) (l.length + 1) 0 0
        obtain ⟨t, ht, ht2, ht3⟩ := all_loop f U.hf b l (by omega) U.ho sc (roomAt rooms) (lns f b l sc (roomAt rooms) (l.length + 1) 0 0) (by omega) (l.length + 1) 0 0 [] (by omega) (by omega) rfl
        have ht' : formelaw17_InlineAll_l139 ⟨l.toArray⟩ (lns f b l sc (roomAt rooms) (l.length + 1) 0 0) ((LP b l).map brk) 0 0 = some (.inr (t : Int)) := ht
        have g4 : (0 : Int) ≤ (t : Int) ∧ (t : Int) ≤ (l.length : Int) := ⟨by omega, by omega⟩
        simp only [not_true_eq_false, if_false, ht', some_bind, sz, if_pos g4, rest_mk, words_mk (rest_ok U.ho t), ht3, decide_true, if_true]
        rfl
end Go.Proofs.YtokeiiakkfdmgaaGreatDoor.LG
