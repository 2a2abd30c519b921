/-
 Inline answers what the reference answers. Plain Lean; no program in sight.
-/
import Derived.Test.YtokeiiakkfdmgaaGreatDoorRm
set_option linter.unusedVariables false
set_option linter.unusedSimpArgs false
set_option maxRecDepth 100000
namespace Go.Proofs.YtokeiiakkfdmgaaGreatDoor.LG
open Go Go.LG Go.Lib

theorem Next_eq (f : api_Font) (hf : Sm f) (b : api_Breaks) (l : List UInt8) (hk : b.Keep.length ≤ 1000000) (hl : l.length ≤ 9223372036854775807) {v : Bool} (h1 : font_Valid f = some v) (h2 : formeref07_Valid f = some v) (hF : v = true → Fok f) (a sc room : Int) :
  ∃ x e, inline_Next f b ⟨l.toArray⟩ a sc room = some (x, e) ∧ formeref17_Next f b ⟨l.toArray⟩ a sc room = some (x, e) := by
 unfold inline_Next formeref17_Next
 rw [sz, w64_id (n := (l.length : Int) - 1) (by omega) (by omega), within_mk, within_mk, some_bind, rroom_mk, some_bind]
 by_cases hr : 0 ≤ room ∧ room ≤ 1000000000
 ·by_cases ha : 0 ≤ a ∧ a ≤ (l.length : Int) - 1
  ·have n1 : ¬ a < 0 := by omega
   have n2 : ¬ (l.length : Int) ≤ a := by omega
   simp only [ha, hr, and_self, decide_true, Bool.not_true, Bool.false_eq_true, if_false, some_bind, n1, n2, decide_false, prepare_all f hf b l hk sc h1 hF, check_mk f hf b l hk hl sc h1 h2 hF]
   unfold chk
   cases hc : (v && (vb b && okS l) && decide (50 ≤ sc ∧ sc ≤ 300))
   ·exact ⟨_, _, rfl, rfl⟩
   ·cases hp : okP f b l
    ·exact ⟨_, _, rfl, rfl⟩
    ·have ho : okS l = true := by
      rw [Bool.and_eq_true, Bool.and_eq_true, Bool.and_eq_true] at hc
      exact hc.1.2.2
     have hlen := (okS_all ho).2
     have hn : a = ((a.toNat : Nat) : Int) := by omega
     have hx := (next_at f hf b l (by omega) sc (show a.toNat < l.length by omega) room).1
     have hy := rnext_mk f hf b ho h1 h2 hF sc room (show a.toNat < l.length by omega)
     rw [← hn] at hx hy
     simp only [if_true, some_bind, hx, hy, not_true_eq_false, if_false]
     exact ⟨_, _, rfl, rfl⟩
  ·simp only [ha, hr, and_self, decide_true, decide_false, Bool.not_true, Bool.not_false, Bool.false_eq_true, if_false, if_true, some_bind]
   by_cases n1 : a < 0
   ·simp only [n1, decide_true, if_true, some_bind]
    exact ⟨_, _, rfl, rfl⟩
   ·have n2 : (l.length : Int) ≤ a := by omega
    simp only [n1, n2, decide_true, decide_false, Bool.false_eq_true, if_false, if_true, some_bind]
    exact ⟨_, _, rfl, rfl⟩
 ·by_cases ha : 0 ≤ a ∧ a ≤ (l.length : Int) - 1
  ·simp only [ha, hr, and_self, decide_true, decide_false, Bool.not_true, Bool.not_false, Bool.false_eq_true, if_false, if_true, some_bind]
   first | exact ⟨_, _, rfl, rfl⟩ | exact ⟨_, _, rfl⟩
  ·simp only [ha, hr, decide_false, Bool.not_true, Bool.not_false, Bool.false_eq_true, if_false, if_true, some_bind]
   exact ⟨_, _, rfl, rfl⟩
theorem rrooms_loop (r : List Int) (hr : r.length ≤ 1000000) : ∀ (n i : Nat), r.length - i = n → i ≤ r.length →
  formeref17_Lines_l46 r (i : Int) = some (if (r.drop i).any (fun x => !decide (0 ≤ x ∧ x ≤ 1000000000)) = true then .inl () else .inr ()) := by
 intro n
 induction n with
 | zero =>
  intro i hn hi
  rw [formeref17_Lines_l46, if_neg (by omega), List.drop_eq_nil_of_le (by omega)]
  rfl
 | succ n ih =>
  intro i hn hi
  have hlt : i < r.length := by omega
  rw [formeref17_Lines_l46, if_pos (by omega), if_pos ⟨by omega, by omega⟩, rroom_mk, some_bind, w64_id (n := (i : Int) + 1) (by omega) (by omega), add1, ih (i + 1) (by omega) (by omega), List.drop_eq_getElem_cons hlt, List.any_cons, Int.toNat_natCast, List.getD_eq_getElem?_getD, List.getElem?_eq_getElem hlt, Option.getD_some]
  by_cases h : 0 ≤ r[i] ∧ r[i] ≤ 1000000000
  ·rw [decide_eq_true h]; simp
  ·rw [decide_eq_false h]; simp
theorem rlines_loop (f : api_Font) (hf : Sm f) (b : api_Breaks) {l : List UInt8} (ho : okS l = true) {v : Bool} (h1 : font_Valid f = some v) (h2 : formeref07_Valid f = some v) (hF : v = true → Fok f) (sc : Int) (rooms : List Int) (hr : 0 < rooms.length) (hr2 : rooms.length ≤ 1000000) :
  ∀ (n a : Nat) (acc : List api_Line), l.length - a < n → a ≤ l.length → acc.length ≤ a →
   formeref17_Lines_l155 f ⟨l.toArray⟩ sc rooms ((LP b l).map brk) acc (a : Int) = some (acc ++ lns f b l sc (roomAt rooms) n a acc.length) := by
 have hlen := (okS_all ho).2
 intro n
 induction n with
 | zero => intro a acc h; omega
 | succ n ih =>
  intro a acc hn ha hacc
  rw [formeref17_Lines_l155, sz]
  unfold lns
  by_cases hlt : a < l.length
  ·rw [if_pos (by omega), if_pos ⟨by omega, by omega⟩, rest_mk, refWords_eq (by rw [List.length_drop]; omega), words_mk (rest_ok ho a), some_bind]
   by_cases hw : wc false (l.drop a) = 0
   ·rw [if_pos hw]; simp [hw]
   ·rw [if_neg hw]
    have e1 : w64 ((rooms.length : Int) - 1) = (rooms.length : Int) - 1 := w64_id (by omega) (by omega)
    have e2 : min (acc.length : Int) ((rooms.length : Int) - 1) = ((min acc.length (rooms.length - 1) : Nat) : Int) := by omega
    have e4 : rooms.getD (Int.toNat ((min acc.length (rooms.length - 1) : Nat) : Int)) 0 = roomAt rooms acc.length := rfl
    obtain ⟨_, hm, hgt, hle⟩ := next_at f hf b l (by omega) sc hlt (roomAt rooms acc.length)
    show (if ((wc false (l.drop a) : Nat) : Int) = 0 then _ else _) = _
    rw [if_neg (by omega), e1, e2, if_pos ⟨by omega, by omega⟩, e4, rnext_mk f hf b ho h1 h2 hF sc _ hlt, some_bind, if_pos (by omega)]
    have := ih (nxl f b l sc a (roomAt rooms acc.length)).1 (acc ++ [ln f l sc a (nxl f b l sc a (roomAt rooms acc.length))]) (by omega) hle (by simp; omega)
    rw [List.append_assoc, List.length_append, List.length_singleton] at this
    exact this
  ·rw [if_neg (by omega), List.drop_eq_nil_of_le (by omega)]
   simp [wc]
theorem Lines_eq (f : api_Font) (hf : Sm f) (b : api_Breaks) (l : List UInt8) (hk : b.Keep.length ≤ 1000000) (hl : l.length ≤ 9223372036854775807) {v : Bool} (h1 : font_Valid f = some v) (h2 : formeref07_Valid f = some v) (hF : v = true → Fok f) (sc : Int) (rooms : List Int) (hr : rooms.length ≤ 1000000) :
  ∃ x e, inline_Lines f b ⟨l.toArray⟩ sc rooms = some (x, e) ∧ formeref17_Lines f b ⟨l.toArray⟩ sc rooms = some (x, e) ∧ x.length ≤ 1000000 := by
 have hb := bad_mk rooms hr
 have hR := rrooms_loop rooms hr _ 0 rfl (Nat.zero_le _)
 have hR' : formeref17_Lines_l46 rooms 0 = some (if rooms.any (fun x => !decide (0 ≤ x ∧ x ≤ 1000000000)) = true then .inl () else .inr ()) := hR
 unfold inline_Lines formeref17_Lines
 rw [hb, some_bind, hR', some_bind]
 cases hbad : badR rooms
 ·unfold badR at hbad
  rw [Bool.or_eq_false_iff] at hbad
  have hne : rooms ≠ [] := by simpa using hbad.1
  have hpos : 0 < rooms.length := List.length_pos_iff.2 hne
  have n1 : ¬ (rooms.length : Int) = 0 := by omega
  rw [hbad.2]
  simp only [Bool.false_eq_true, if_false, some_bind, n1, prepare_all f hf b l hk sc h1 hF, check_mk f hf b l hk hl sc h1 h2 hF]
  unfold chk
  cases hc : (v && (vb b && okS l) && decide (50 ≤ sc ∧ sc ≤ 300))
  ·exact ⟨_, _, rfl, rfl, by simp⟩
  ·cases hp : okP f b l
   ·exact ⟨_, _, rfl, rfl, by simp⟩
   ·have ho : okS l = true := by
     rw [Bool.and_eq_true, Bool.and_eq_true, Bool.and_eq_true] at hc
     exact hc.1.2.2
    have hlen := (okS_all ho).2
    have hL := lines_loop f hf b l (by omega) ho sc rooms hpos hr (l.length + 1) 0 0 [] (by omega) (by omega) (Nat.le_refl _) (Nat.le_refl _)
    have hL' : inline_setter_lines_1_k1_l50 (rnd (fun (u : (List api_Line)) (x : api_Line) => slices_AppendSeq_api_Line_k2_r63 u x)) ⟨l.toArray⟩ ((ends b l).map brk) f sc rooms 0 0 ([], none) = some (lns f b l sc (roomAt rooms) (l.length + 1) 0 0, none) := hL
    have hM : formeref17_Lines_l155 f ⟨l.toArray⟩ sc rooms ((LP b l).map brk) [] 0 = some (lns f b l sc (roomAt rooms) (l.length + 1) 0 0) := rlines_loop f hf b ho h1 h2 hF sc rooms hpos hr (l.length + 1) 0 [] (by omega) (Nat.zero_le _) (Nat.le_refl _)
    refine ⟨lns f b l sc (roomAt rooms) (l.length + 1) 0 0, 0, ?_, ?_, ?_⟩
    ·simp only [if_true, some_bind]
     unfold inline_setter_lines_k1 slices_Collect_api_Line_k1 slices_AppendSeq_api_Line_k2 inline_setter_lines_1_k1
     simp only [some_bind]
     rw [hL']
     rfl
    ·simp only [if_true, some_bind, hM, not_true_eq_false, if_false]
    ·have := lns_len f b l sc (roomAt rooms) (l.length + 1) 0 0; omega
 ·refine ⟨[], 1, rfl, ?_, by simp⟩
  unfold badR at hbad
  cases ha : rooms.any (fun x => !decide (0 ≤ x ∧ x ≤ 1000000000))
  ·rw [ha, Bool.or_false] at hbad
   have : rooms = [] := by simpa using hbad
   subst this
   rfl
  ·rfl
theorem same_loop (xs : List api_Line) (hx : xs.length ≤ 1000000) : ∀ (n i : Nat), xs.length - i = n → formeref17_Same_l34 xs xs (i : Int) = some (.inr ()) := by
 intro n
 induction n with
 | zero => intro i hn; rw [formeref17_Same_l34, if_neg (by omega)]
 | succ n ih =>
  intro i hn
  rw [formeref17_Same_l34, if_pos (by omega), if_pos ⟨by omega, by omega⟩, if_pos ⟨by omega, by omega⟩, if_neg (by simp), w64_id (n := (i : Int) + 1) (by omega) (by omega), add1]
  exact ih (i + 1) (by omega)
theorem same_refl (xs : List api_Line) (hx : xs.length ≤ 1000000) : formeref17_Same xs xs = some true := by
 unfold formeref17_Same
 have h : formeref17_Same_l34 xs xs 0 = some (.inr ()) := same_loop xs hx _ 0 rfl
 rw [if_neg (by simp), h]
 rfl
theorem floor_mk {x : Int} (h1 : -9223372036854775808 ≤ x) (h2 : x ≤ 9223372036854775807) : formeref01_Floor x 2 = some (Int.fdiv x (2 ^ 1)) := by
 have e : Int.fdiv x (2 ^ 1) = x / 2 := by rw [Int.fdiv_eq_ediv_of_nonneg _ (by decide)]; rfl
 unfold formeref01_Floor
 rw [e, if_pos (by decide), if_pos (by decide)]
 rcases Int.lt_or_le x 0 with h | h
 ·have hn : x = -(-x) := by omega
  have t1 : Int.tdiv x 2 = -((-x) / 2) := by
   conv => lhs; rw [hn]
   rw [Int.neg_tdiv, Int.tdiv_eq_ediv_of_nonneg (by omega)]
  have t2 : Int.tmod x 2 = -((-x) % 2) := by
   conv => lhs; rw [hn]
   rw [Int.neg_tmod, Int.tmod_eq_emod_of_nonneg (by omega)]
  rw [t1, t2]
  by_cases hm : -((-x) % 2) < 0
  ·rw [if_pos hm, w64_id (n := -((-x) / 2)) (by omega) (by omega), w64_id (by omega) (by omega)]
   congr 1; omega
  ·rw [if_neg hm, w64_id (by omega) (by omega)]
   congr 1; omega
 ·rw [Int.tmod_eq_emod_of_nonneg h, Int.tdiv_eq_ediv_of_nonneg h, if_neg (by omega), w64_id (by omega) (by omega)]
theorem w64_range (n : Int) : -9223372036854775808 ≤ w64 n ∧ w64 n ≤ 9223372036854775807 := by
 unfold w64 IntKind.wrap
 simp only [IntKind.bits, IntKind.signed]
 by_cases h : n % 2 ^ 64 ≥ 2 ^ (64 - 1)
 ·simp only [h, decide_true, Bool.and_self, if_true]
  omega
 ·simp only [h, decide_false, Bool.and_false, Bool.false_eq_true, if_false]
  omega
theorem Place_eq (f : api_Font) (hf : Sm f) (l : List UInt8) (hl : l.length ≤ 9223372036854775807) {v : Bool} (h1 : font_Valid f = some v) (h2 : formeref07_Valid f = some v) (hF : v = true → Fok f) (x : api_Line) (sc room al dir : Int) :
  ∃ t i e, inline_Place f ⟨l.toArray⟩ x sc room al dir = some (t, i, e) ∧ formeref17_Place f ⟨l.toArray⟩ x sc room al dir = some (t, i, e) := by
 by_cases hc : (v = true ∧ okS l = true ∧ (50 ≤ sc ∧ sc ≤ 300) ∧ (0 ≤ room ∧ room ≤ 1000000000) ∧ (0 ≤ al ∧ al ≤ 2) ∧ (0 ≤ dir ∧ dir ≤ 1)) ∧ ¬ x.From < 0 ∧ ¬ x.Until ≤ x.From ∧ ¬ (l.length : Int) < x.Until
 ·obtain ⟨⟨hv, ho, hsc, hr, ha, hd⟩, g0, g1, g2⟩ := hc
  subst hv
  have hlen := (okS_all ho).2
  have n1 : ¬ al < 0 := by omega
  have n2 : ¬ 2 < al := by omega
  have n3 : ¬ dir < 0 := by omega
  have n4 : ¬ 1 < dir := by omega
  have ef : x.From = ((x.From.toNat : Nat) : Int) := by omega
  have eu : x.Until = ((x.Until.toNat : Nat) : Int) := by omega
  have hae : x.From.toNat ≤ x.Until.toNat := by omega
  have hel : x.Until.toNat ≤ l.length := by omega
  have hs := seen_mk l (show l.length ≤ 1000000 by omega) hae hel x.Hyphen
  have hp := refPart_mk ho hae hel x.Hyphen
  rw [← ef, ← eu] at hs hp
  generalize hpart : part l x.From.toNat x.Until.toNat x.Hyphen = p at hs hp
  have hP : p.length ≤ 9223372036854775807 := by
   rw [← hpart, part_hy, List.length_append]
   have h3 : (part l x.From.toNat x.Until.toNat false).length ≤ l.length := by
    unfold part
    rw [if_neg (by decide), List.append_nil]
    exact Nat.le_trans (trim_len _) (Nat.le_trans (shown_len _) (piece_len l x.From.toNat x.Until.toNat))
   cases x.Hyphen <;> simp <;> omega
  obtain ⟨w, e, q1, q2, q3⟩ := width_eq f hf hP h1 h2 hF sc
  unfold inline_Place formeref17_Place
  simp only [within_mk, rscaled_mk, rroom_mk, hsc, hr, ha, hd, and_self, decide_true, if_true, some_bind, Bool.not_true, Bool.false_eq_true, if_false, h1, h2, valid_mk, refValid_mk l hl, ho, g0, g1, g2, n1, n2, n3, n4, decide_false, sz, hs, hp, q1, q2]
  by_cases he : e = 0
  ·obtain ⟨y, v1, v2⟩ := visual_eq p (q3 he) dir (by omega)
   simp only [he, not_true_eq_false, if_false, v1, v2, some_bind]
   by_cases hw : w = x.Width
   ·have hfl := floor_mk (w64_range (room - w)).1 (w64_range (room - w)).2
    subst hw
    simp only [not_true_eq_false, if_false, hfl, some_bind]
    by_cases c1 : al = 2
    ·rw [if_neg (show ¬ al = dir by omega), if_pos c1, if_pos c1]
     exact ⟨_, _, _, rfl, rfl⟩
    ·rw [if_neg c1, if_neg c1]
     by_cases c2 : al = dir
     ·rw [if_pos c2]
      exact ⟨_, _, _, rfl, rfl⟩
     ·rw [if_neg c2]
      exact ⟨_, _, _, rfl, rfl⟩
   ·rw [if_pos hw, if_pos hw]
    exact ⟨_, _, _, rfl, rfl⟩
  ·rw [if_pos he, if_pos he]
   exact ⟨_, _, _, rfl, rfl⟩
 ·refine ⟨⟨#[]⟩, 0, 1, ?_, ?_⟩
  ·unfold inline_Place
   simp only [within_mk, some_bind, h1, valid_mk, sz]
   have : (v = true ∧ okS l = true ∧ (50 ≤ sc ∧ sc ≤ 300) ∧ (0 ≤ room ∧ room ≤ 1000000000) ∧ (0 ≤ al ∧ al ≤ 2) ∧ (0 ≤ dir ∧ dir ≤ 1)) → ¬ x.From < 0 → ¬ x.Until ≤ x.From → (l.length : Int) < x.Until := fun a b c => Decidable.byContradiction fun d => hc ⟨a, b, c, d⟩
   clear hc
   by_cases c1 : 50 ≤ sc ∧ sc ≤ 300
   ·by_cases c2 : 0 ≤ room ∧ room ≤ 1000000000
    ·by_cases c3 : 0 ≤ al ∧ al ≤ 2
     ·by_cases c4 : 0 ≤ dir ∧ dir ≤ 1
      ·cases v
       ·simp [c1, c2, c3, c4]
       ·cases ho : okS l
        ·simp [c1, c2, c3, c4]
        ·by_cases c5 : x.From < 0
         ·simp [c1, c2, c3, c4, c5]
         ·by_cases c6 : x.Until ≤ x.From
          ·simp [c1, c2, c3, c4, c5, c6]
          ·have c7 := this ⟨rfl, ho, c1, c2, c3, c4⟩ c5 c6
           simp [c1, c2, c3, c4, c5, c6, c7]
      ·simp [c1, c2, c3, c4]
     ·simp [c1, c2, c3]
    ·simp [c1, c2]
   ·simp [c1]
  ·unfold formeref17_Place
   simp only [some_bind, h2, refValid_mk l hl, sz, rscaled_mk, rroom_mk]
   have : (v = true ∧ okS l = true ∧ (50 ≤ sc ∧ sc ≤ 300) ∧ (0 ≤ room ∧ room ≤ 1000000000) ∧ (0 ≤ al ∧ al ≤ 2) ∧ (0 ≤ dir ∧ dir ≤ 1)) → ¬ x.From < 0 → ¬ x.Until ≤ x.From → (l.length : Int) < x.Until := fun a b c => Decidable.byContradiction fun d => hc ⟨a, b, c, d⟩
   clear hc
   cases v
   ·simp
   ·cases ho : okS l
    ·simp
    ·by_cases c1 : 50 ≤ sc ∧ sc ≤ 300
     ·by_cases c2 : 0 ≤ room ∧ room ≤ 1000000000
      ·by_cases a1 : al < 0
       ·simp [c1, c2, a1]
       ·by_cases a2 : 2 < al
        ·simp [c1, c2, a1, a2]
        ·by_cases a3 : dir < 0
         ·simp [c1, c2, a1, a2, a3]
         ·by_cases a4 : 1 < dir
          ·simp [c1, c2, a1, a2, a3, a4]
          ·by_cases c5 : x.From < 0
           ·simp [c1, c2, a1, a2, a3, a4, c5]
           ·by_cases c6 : x.Until ≤ x.From
            ·simp [c1, c2, a1, a2, a3, a4, c5, c6]
            ·have c7 := this ⟨rfl, ho, c1, c2, by omega, by omega⟩ c5 c6
             simp [c1, c2, a1, a2, a3, a4, c5, c6, c7]
      ·simp [c1, c2]
     ·simp [c1]
theorem matches_true (f : api_Font) (b : api_Breaks) (s : ByteArray) (a sc : Int) (rooms : List Int) (x : api_Line) (al dir : Int) (hs : s.size ≤ 9223372036854775807) : formelaw17_InlineMatchesReference f b s a sc rooms x al dir = some true := by
 obtain ⟨l, rfl⟩ : ∃ l : List UInt8, s = ⟨l.toArray⟩ := ⟨s.data.toList, (Lib.mk_data s).symm⟩
 rw [sz] at hs
 obtain ⟨r, hr, hR⟩ := few_mk f b l
 unfold formelaw17_InlineMatchesReference
 rw [head_true, some_bind, hr, some_bind]
 cases r
 ·rfl
 ·obtain ⟨k1, k2, k3⟩ := hR rfl
  have hf : Sm f := ⟨by omega, by omega⟩
  by_cases h60 : 60 < (rooms.length : Int)
  ·simp [h60]
  ·obtain ⟨v, hv, hv2, hF⟩ := fvalid_mk f hf
   have main : ∀ room : Int, (inline_Next f b ⟨l.toArray⟩ a sc room >>= fun (y90, y91) => (formeref17_Next f b ⟨l.toArray⟩ a sc room >>= fun (y105, y106) => ((if true = true then some (decide (y90 = y105)) else some false) >>= fun v115 => ((if v115 = true then some (decide (y91 = y106)) else some false) >>= fun v122 => (inline_Lines f b ⟨l.toArray⟩ sc rooms >>= fun (y136, y143) => (formeref17_Lines f b ⟨l.toArray⟩ sc rooms >>= fun (y151, y158) => ((if v122 = true then (formeref17_Same y136 y151 >>= fun y173 => some y173) else some false) >>= fun v161 => ((if v161 = true then some (decide (y143 = y158)) else some false) >>= fun v188 => (inline_Place f ⟨l.toArray⟩ x sc room al dir >>= fun (y202, y203, y204) => (formeref17_Place f ⟨l.toArray⟩ x sc room al dir >>= fun (y212, y213, y214) => ((if v188 = true then some (decide (y202 = y212)) else some false) >>= fun v217 => ((if v217 = true then some (decide (y203 = y213)) else some false) >>= fun v224 => ((if v224 = true then some (decide (y204 = y214)) else some false) >>= fun v231 => (some v231 : Option Bool)))))))))))))) = some true := by
    intro room
    obtain ⟨p1, p2, p3, p4⟩ := Next_eq f hf b l (by omega) hs hv hv2 hF a sc room
    obtain ⟨q1, q2, q3, q4, q5⟩ := Lines_eq f hf b l (by omega) hs hv hv2 hF sc rooms (by omega)
    obtain ⟨r1, r2, r3, r4, r5⟩ := Place_eq f hf l hs hv hv2 hF x sc room al dir
    simp only [p3, p4, q3, q4, r4, r5, some_bind, decide_true, if_true, same_refl q1 q5]
   simp only [Bool.not_true, Bool.false_eq_true, if_false, h60, decide_false, some_bind]
   by_cases h0 : 0 < (rooms.length : Int)
   ·rw [if_pos h0, if_pos ⟨by omega, h0⟩]
    exact main _
   ·rw [if_neg h0]
    exact main 0
end Go.Proofs.YtokeiiakkfdmgaaGreatDoor.LG
