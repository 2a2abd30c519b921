/-
  InlineOne: the plain law. Plain Lean; no program in sight.
-/
import Derived.Test.YtokeiiakkfdmgaaGreatDoorFk
import Derived.Test.YtokeiiakkfdmgaaGreatDoorFi
set_option linter.unusedVariables false
set_option linter.unusedSimpArgs false
set_option maxRecDepth 100000
namespace Go.Proofs.YtokeiiakkfdmgaaGreatDoor.LG
open Go Go.LG Go.Lib

theorem nxl_all (f : api_Font) (hf : Sm f) (b : api_Breaks) (l : List UInt8) (hs : l.length ≤ 100000) (sc : Int) {a : Nat} (ha : a < l.length) {room : Int} (hw : W f l sc a (l.length, false) ≤ room) : nxl f b l sc a room = (l.length, false) := by
  obtain ⟨k, hk, hak, hb, hx⟩ := next_mk f hf b l hs sc ha
  have e : behind b l a = (ends b l).drop k := drop_while _ k _ hk (by simpa using hak) fun j hj hjk => by simpa using hb j hj hjk
  have hk' : k ≤ (LP b l).length := by unfold ends at hk; rw [List.length_append, List.length_singleton] at hk; omega
  have e2 : (ends b l).drop k = (LP b l).drop k ++ [(l.length, false)] := by unfold ends; rw [List.drop_append_of_le_length hk']
  have e3 : ((LP b l).drop k ++ [(l.length, false)]).length = ((LP b l).drop k).length + 1 := by simp
  have e4 : ((LP b l).drop k ++ [(l.length, false)]).getD ((LP b l).drop k).length (0, false) = (l.length, false) := by simp [List.getD_eq_getElem?_getD]
  unfold nxl stop
  rw [e, e2, e3]
  unfold pick
  rw [e4, if_pos hw]
  exact e4
theorem same_one (x : api_Line) : formeref17_Same [x] [x] = some true := by
  unfold formeref17_Same
  rw [formeref17_Same_l34]
  have e1 : w64 (0 + 1) = 1 := by decide
  simp only [List.length_singleton, not_true_eq_false, if_false, e1]
  rw [formeref17_Same_l34]
  simp
theorem one_true (f : api_Font) (b : api_Breaks) (s : ByteArray) (sc more : Int) (hs : s.size ≤ 9223372036854775807) (hm : 0 ≤ more ∧ more ≤ 65535) : formelaw17_InlineOne f b s sc more = some true := by
  obtain ⟨l, rfl⟩ : ∃ l : List UInt8, s = ⟨l.toArray⟩ := ⟨s.data.toList, (Lib.mk_data s).symm⟩
  rw [sz] at hs
  obtain ⟨u, hu, hU⟩ := usable_mk f b l sc hs
  unfold formelaw17_InlineOne
  rw [head_true, some_bind, hu, some_bind]
  cases u
  · simp
  · have U := hU rfl
    have hl := U.hl
    have hk := U.hk
    obtain ⟨y, hy, hy2, hF⟩ := fvalid_mk f U.hf
    have hy3 := usable_v hu U.hf
    rw [hy2] at hy3
    cases hy3
    have F := hF rfl
    have hP := part_okS U.ho (show l.length ≤ 1000 by omega) 0 l.length false
    have e1 : formeref08_Part ⟨l.toArray⟩ 0 (l.length : Int) false = some ⟨(part l 0 l.length false).toArray⟩ := refPart_mk U.ho (Nat.zero_le _) (Nat.le_refl _) false
    have e0 : w64 more = more := w64_id (by omega) (by omega)
    have hPl : (part l 0 l.length false).length ≤ 1000 := by
      have h3 : (part l 0 l.length false).length ≤ l.length := by
        unfold part
        rw [if_neg (by decide), List.append_nil]
        exact Nat.le_trans (trim_len _) (Nat.le_trans (shown_len _) (piece_len l 0 l.length))
      omega
    simp only [Bool.not_true, Bool.false_eq_true, if_false, sz, e1, some_bind, width_e f U.hf F hy hP U.hs, words_mk U.ho, e0]
    cases hg : hasG f (part l 0 l.length false)
    · simp
    · have hw := wd_ok f U.hf F hy hP hPl U.hs hg
      generalize hW : Wd f (part l 0 l.length false) sc = w at *
      have e2 : w64 (w + more) = w + more := w64_id (by omega) (by omega)
      have hb : badR [w + more, 0] = false := by
        have h1 : 0 ≤ w + more ∧ w + more ≤ 1000000000 := by omega
        simp [badR, h1]
      simp only [if_true, not_true_eq_false, if_false, decide_false, some_bind, Bool.false_eq_true, e2,
        lines_v f U.hf F hy b l (show b.Keep.length ≤ 1000000 by omega) (show l.length ≤ 100000 by omega) U.hv U.ho sc U.hs [w + more, 0] (by simp), hb]
      cases hp : okP f b l
      · simp
      · simp only [if_true, not_true_eq_false, if_false, some_bind]
        by_cases hwc : wc false l = 0
        · have e3 : lns f b l sc (roomAt [w + more, 0]) (l.length + 1) 0 0 = [] := by
            unfold lns
            rw [List.drop_zero, if_pos hwc]
          have h0 : ((wc false l : Nat) : Int) = 0 := by omega
          rw [e3, if_pos h0]
          simp
        · have h0 : ¬ ((wc false l : Nat) : Int) = 0 := by omega
          have hpos : 0 < l.length := by
            rcases Nat.eq_zero_or_pos l.length with h | h
            · rw [List.eq_nil_of_length_eq_zero h] at hwc; exact absurd rfl hwc
            · exact h
          have hWf : W f l sc 0 (l.length, false) = w := hW
          have e4 : nxl f b l sc 0 (roomAt [w + more, 0] 0) = (l.length, false) := by
            refine nxl_all f U.hf b l (by omega) sc hpos ?_
            rw [hWf]
            show w ≤ w + more
            omega
          have e3 : lns f b l sc (roomAt [w + more, 0]) (l.length + 1) 0 0 = [(⟨0, (l.length : Int), w, false⟩ : api_Line)] := by
            unfold lns
            rw [List.drop_zero, if_neg hwc, e4]
            have e5 : lns f b l sc (roomAt [w + more, 0]) l.length l.length (0 + 1) = [] := by
              obtain ⟨m, hm'⟩ : ∃ m, l.length = m + 1 := ⟨l.length - 1, by omega⟩
              rw [hm']
              unfold lns
              rw [← hm', List.drop_length]
              rfl
            rw [e5]
            unfold ln
            rw [hWf]; rfl
          rw [e3, if_neg h0, same_one]
          rfl
theorem wf_u16 {n : Int} (h : (Lit.int .u16 n).wf = true) : 0 ≤ n ∧ n ≤ 65535 := by
  simp only [Lit.wf, Bool.and_eq_true, decide_eq_true_eq] at h
  exact ⟨h.1, h.2⟩
end Go.Proofs.YtokeiiakkfdmgaaGreatDoor.LG
