/-
 The reference's lines are inline's. Plain Lean; no program in sight.
-/
import Derived.Test.YtokeiiakkfdmgaaGreatDoorRf
set_option linter.unusedVariables false
set_option linter.unusedSimpArgs false
set_option maxRecDepth 100000
namespace Go.Proofs.YtokeiiakkfdmgaaGreatDoor.LG
open Go Go.LG Go.Lib

theorem rroom_mk (n : Int) : formeref17_room n = some (decide (0 ≤ n ∧ n ≤ 1000000000)) := by
 unfold formeref17_room
 by_cases h1 : 0 ≤ n
 ·simp [h1]
 ·simp [h1]
theorem rscaled_mk (n : Int) : formeref17_scaled n = some (decide (50 ≤ n ∧ n ≤ 300)) := by
 unfold formeref17_scaled
 by_cases h1 : 50 ≤ n
 ·simp [h1]
 ·simp [h1]
theorem rhyph_loop (E : List (Nat × Bool)) (hE : E.length ≤ 1000000) (y : Bool) : ∀ (n i : Nat), E.length - i = n → i ≤ E.length →
  formeref17_check_l128 (E.map brk) y (i : Int) = some (if ((E.drop i).any (·.2) && !y) = true then .inl () else .inr ()) := by
 intro n
 induction n with
 | zero =>
  intro i hn hi
  rw [formeref17_check_l128, List.length_map, if_neg (by omega), List.drop_eq_nil_of_le (by omega)]
  rfl
 | succ n ih =>
  intro i hn hi
  have hlt : i < E.length := by omega
  have e : (E.drop i).any (·.2) = (E[i].2 || (E.drop (i + 1)).any (·.2)) := by rw [List.drop_eq_getElem_cons hlt]; rfl
  rw [formeref17_check_l128, List.length_map, if_pos (by omega), if_pos ⟨by omega, by omega⟩, getD_map_brk E hlt, w64_id (n := (i : Int) + 1) (by omega) (by omega), add1, ih (i + 1) (by omega) (by omega), e]
  show ((if E[i].2 = true then some (!y) else some false) >>= _) = _
  cases E[i].2
  ·rfl
  ·cases y
   ·rfl
   ·simp
def chk (f : api_Font) (b : api_Breaks) (l : List UInt8) (sc : Int) (v : Bool) : List api_Break × Int :=
 if (v && (vb b && okS l) && decide (50 ≤ sc ∧ sc ≤ 300)) = true then (if okP f b l = true then ((LP b l).map brk, 0) else ([], 20)) else ([], 1)
theorem check_mk (f : api_Font) (hf : Sm f) (b : api_Breaks) (l : List UInt8) (hk : b.Keep.length ≤ 1000000) (hl : l.length ≤ 9223372036854775807) (sc : Int) {v : Bool} (h1 : font_Valid f = some v) (h2 : formeref07_Valid f = some v) (hF : v = true → Fok f) :
  formeref17_check f b ⟨l.toArray⟩ sc = some (chk f b l sc v) := by
 unfold formeref17_check chk
 rw [h2, some_bind, refList_mk b l hk hl, some_bind, rscaled_mk]
 cases v
 ·cases (vb b && okS l) <;> rfl
 ·cases hvo : (vb b && okS l)
  ·rfl
  ·rw [Bool.and_eq_true] at hvo
   by_cases hsc : 50 ≤ sc ∧ sc ≤ 300
   ·have ho := hvo.2
    have hlen := (okS_all ho).2
    have e2 : formeref07_Has f (⟨#[45]⟩ : ByteArray) = some (hasG f [45], 0) := rhas_mk f hf h2 (l := [45]) (by decide)
    have e3 := rhyph_loop (LP b l) (by have := LP_len b l; omega) (hasG f [45]) _ 0 rfl (Nat.zero_le _)
    have e3' : formeref17_check_l128 ((LP b l).map brk) (hasG f [45]) 0 = some (if ((LP b l).any (·.2) && !(hasG f [45])) = true then .inl () else .inr ()) := e3
    simp only [rhas_mk f hf h2 ho, e2, e3', hsc, some_bind, if_true, Bool.and_self, decide_true, and_self, Bool.not_true, Bool.false_eq_true, if_false, not_true_eq_false, decide_false]
    unfold okP
    cases hasG f l
    ·rfl
    ·cases (LP b l).any (·.2) <;> cases hasG f [45] <;> rfl
   ·simp only [some_bind, if_true, hsc, decide_false, Bool.not_true, Bool.not_false, Bool.false_eq_true, if_false, not_true_eq_false, Bool.and_false]
theorem prepare_all (f : api_Font) (hf : Sm f) (b : api_Breaks) (l : List UInt8) (hk : b.Keep.length ≤ 1000000) (sc : Int) {v : Bool} (h1 : font_Valid f = some v) (hF : v = true → Fok f) :
  inline_prepare f b ⟨l.toArray⟩ sc = some (if (v && (vb b && okS l) && decide (50 ≤ sc ∧ sc ≤ 300)) = true then (if okP f b l = true then .inr (.inr (⟨l.toArray⟩, (ends b l).map brk, f, sc)) else .inr (.inl (⟨#[]⟩, []))) else .inl (⟨#[]⟩, [])) := by
 cases hvo : (vb b && okS l)
 ·unfold inline_prepare
  rw [list_mk b l hk, hvo]
  simp only [Bool.false_eq_true, if_false, some_bind, show ¬ (1 : Int) = 0 by decide, not_false_eq_true, if_true, Bool.and_false, Bool.false_and]
 ·cases v
  ·unfold inline_prepare
   rw [list_mk b l hk, hvo]
   simp only [if_true, some_bind, not_true_eq_false, if_false, h1, Bool.not_false, Bool.false_and, Bool.false_eq_true]
  ·by_cases hsc : 50 ≤ sc ∧ sc ≤ 300
   ·have hb := hvo
    rw [Bool.and_eq_true] at hb
    have hlen := (okS_all hb.2).2
    rw [prepare_v f hf (hF rfl) h1 b l hk (by omega) hb.1 hb.2 sc hsc]
    simp [hsc]
   ·unfold inline_prepare
    rw [list_mk b l hk, hvo]
    simp only [if_true, some_bind, not_true_eq_false, if_false, h1, Bool.not_true, Bool.false_eq_true, within_mk, hsc, decide_false, Bool.not_false, Bool.and_false]
theorem rline_mk (f : api_Font) (hf : Sm f) {l : List UInt8} (ho : okS l = true) {v : Bool} (h1 : font_Valid f = some v) (h2 : formeref07_Valid f = some v) (hF : v = true → Fok f) (sc : Int) {a : Nat} {p : Nat × Bool} (hae : a ≤ p.1) (he : p.1 ≤ l.length) :
  formeref17_Line f ⟨l.toArray⟩ (a : Int) (p.1 : Int) p.2 sc = some (ln f l sc a p) := by
 have hlen := (okS_all ho).2
 have hP : (part l a p.1 p.2).length ≤ 9223372036854775807 := by
  rw [part_hy, List.length_append]
  have h3 : (part l a p.1 false).length ≤ l.length := by
   unfold part
   rw [if_neg (by decide), List.append_nil]
   exact Nat.le_trans (trim_len _) (Nat.le_trans (shown_len _) (piece_len l a p.1))
  cases p.2 <;> simp <;> omega
 obtain ⟨w, e, g1, g2, _⟩ := width_eq f hf hP h1 h2 hF sc
 unfold formeref17_Line ln W
 rw [refPart_mk ho hae he, some_bind, g2, g1]
 rfl
theorem pick_append (w : Nat × Bool → Int) (room : Int) (D : List (Nat × Bool)) (x : Nat × Bool) : ∀ m, m ≤ D.length → pick w room (D ++ [x]) m = pick w room D m
 | 0, _ => rfl
 | m + 1, h => by
  unfold pick
  have e : (D ++ [x]).getD m (0, false) = D.getD m (0, false) := by
   rw [List.getD_eq_getElem?_getD, List.getD_eq_getElem?_getD, List.getElem?_append_left (by omega)]
  rw [e, pick_append w room D x m (by omega)]
theorem rnext_loop (f : api_Font) (hf : Sm f) {l : List UInt8} (ho : okS l = true) {v : Bool} (h1 : font_Valid f = some v) (h2 : formeref07_Valid f = some v) (hF : v = true → Fok f) (sc room : Int) (a : Nat) (P : List (Nat × Bool)) (hP : P.length ≤ 1000000) (k : Nat) (hk : k ≤ P.length)
  (hlo : ∀ j (h : j < P.length), j < k → (P[j]).1 ≤ a) (hD : ∀ x ∈ P.drop k, a < x.1 ∧ x.1 ≤ l.length) : ∀ (m : Nat), m ≤ (P.drop k).length → ∀ (fnd : Bool) (x y : api_Line),
  ∃ fnd' x' y', formeref17_next_l85 f (P.map brk) ⟨l.toArray⟩ (a : Int) sc room fnd (((k + m : Nat) : Int) - 1) x.From x.Until x.Width x.Hyphen y.From y.Until y.Width y.Hyphen = some (fnd', x'.From, x'.Until, x'.Width, x'.Hyphen, y'.From, y'.Until, y'.Width, y'.Hyphen) ∧
   (fnd = true → fnd' = true ∧ x' = x) ∧ (fnd = false → match pick (W f l sc a) room (P.drop k) m with
    | some i => fnd' = true ∧ x' = ln f l sc a ((P.drop k).getD i (0, false))
    | none => fnd' = false ∧ y' = if m = 0 then y else ln f l sc a ((P.drop k).getD 0 (0, false))) := by
 intro m
 induction m with
 | zero =>
  intro hm fnd x y
  refine ⟨fnd, x, y, ?_, fun h => ⟨h, rfl⟩, fun h => ⟨h, rfl⟩⟩
  rw [formeref17_next_l85]
  by_cases h0 : k = 0
  ·rw [if_neg (by omega)]
  ·have e1 : (((k + 0 : Nat) : Int) - 1) = ((k - 1 : Nat) : Int) := by omega
   have hlt : k - 1 < P.length := by omega
   have := hlo (k - 1) hlt (by omega)
   rw [e1, if_pos (by omega), List.length_map, if_pos ⟨by omega, by omega⟩, getD_map_brk P hlt, if_pos (show (brk P[k - 1]).At ≤ (a : Int) by show ((P[k - 1]).1 : Int) ≤ _; omega)]
   rfl
 | succ m ih =>
  intro hm fnd x y
  have hl' : (P.drop k).length = P.length - k := List.length_drop ..
  have e1 : (((k + (m + 1) : Nat) : Int) - 1) = ((k + m : Nat) : Int) := by omega
  have hlt : k + m < P.length := by omega
  have hlt2 : m < (P.drop k).length := by omega
  have eD : (P.drop k)[m] = P[k + m] := List.getElem_drop ..
  have hx := hD _ (List.getElem_mem hlt2)
  rw [eD] at hx
  have eG : (P.drop k).getD m (0, false) = P[k + m] := by rw [List.getD_eq_getElem?_getD, List.getElem?_eq_getElem hlt2, eD]; rfl
  have b : (0 : Int) ≤ ((k + m : Nat) : Int) ∧ ((k + m : Nat) : Int) < (P.length : Int) := ⟨by omega, by omega⟩
  have hn : ¬ (brk P[k + m]).At ≤ (a : Int) := by show ¬ ((P[k + m]).1 : Int) ≤ _; omega
  have hL : formeref17_Line f ⟨l.toArray⟩ (a : Int) (brk P[k + m]).At (brk P[k + m]).Hyphen sc = some (ln f l sc a P[k + m]) := rline_mk f hf ho h1 h2 hF sc (Nat.le_of_lt hx.1) hx.2
  have e2 : w64 (((k + m : Nat) : Int) - 1) = ((k + m : Nat) : Int) - 1 := w64_id (by omega) (by omega)
  rw [e1, formeref17_next_l85, if_pos b.1]
  simp only [List.length_map, if_pos b, getD_map_brk P hlt, if_neg hn, hL, some_bind]
  have pk : pick (W f l sc a) room (P.drop k) (m + 1) = if W f l sc a P[k + m] ≤ room then some m else pick (W f l sc a) room (P.drop k) m := by
   conv => lhs; unfold pick
   rw [eG]
  have wd : (ln f l sc a P[k + m]).Width = W f l sc a P[k + m] := rfl
  rw [wd, pk]
  cases fnd
  ·simp only [Bool.not_false, if_true, some_bind]
   by_cases hw : W f l sc a P[k + m] ≤ room
   ·simp only [hw, decide_true, if_true, some_bind, e2]
    obtain ⟨fnd', x', y', g1, g2, g3⟩ := ih (by omega) true (ln f l sc a P[k + m]) (ln f l sc a P[k + m])
    refine ⟨fnd', x', y', g1, fun h => (by cases h), fun _ => ?_⟩
    rw [eG]
    exact g2 rfl
   ·simp only [hw, decide_false, if_false, Bool.false_eq_true, some_bind, e2]
    obtain ⟨fnd', x', y', g1, g2, g3⟩ := ih (by omega) false x (ln f l sc a P[k + m])
    refine ⟨fnd', x', y', g1, fun h => (by cases h), fun _ => ?_⟩
    have := g3 rfl
    revert this
    cases hp : pick (W f l sc a) room (P.drop k) m with
    | some i => exact fun h => h
    | none =>
     intro h
     refine ⟨h.1, ?_⟩
     rw [if_neg (by omega), h.2]
     by_cases h0 : m = 0
     ·subst h0; rw [if_pos rfl, eG]
     ·rw [if_neg h0]
  ·simp only [Bool.not_true, Bool.false_eq_true, if_false, some_bind, e2]
   obtain ⟨fnd', x', y', g1, g2, g3⟩ := ih (by omega) true x (ln f l sc a P[k + m])
   exact ⟨fnd', x', y', g1, fun _ => g2 rfl, fun h => by cases h⟩
theorem rnext_mk (f : api_Font) (hf : Sm f) (b : api_Breaks) {l : List UInt8} (ho : okS l = true) {v : Bool} (h1 : font_Valid f = some v) (h2 : formeref07_Valid f = some v) (hF : v = true → Fok f) (sc room : Int) {a : Nat} (ha : a < l.length) :
  formeref17_next f ((LP b l).map brk) ⟨l.toArray⟩ (a : Int) sc room = some (ln f l sc a (nxl f b l sc a room)) := by
 have hlen := (okS_all ho).2
 have hLP := LP_len b l
 obtain ⟨k, hk, hak, hb, _⟩ := next_mk f hf b l (by omega) sc ha
 have e : behind b l a = (ends b l).drop k := drop_while _ k _ hk (by simpa using hak) fun j hj hjk => by simpa using hb j hj hjk
 obtain ⟨hpw, hle⟩ := ends_pw b l
 have hel : (ends b l).length = (LP b l).length + 1 := by unfold ends; simp
 have hk2 : k ≤ (LP b l).length := by omega
 have hDx : (ends b l).drop k = (LP b l).drop k ++ [(l.length, false)] := by unfold ends; rw [List.drop_append_of_le_length hk2]
 have hlo : ∀ j (h : j < (LP b l).length), j < k → ((LP b l)[j]).1 ≤ a := fun j h hj => by
  have := hb j (by omega) hj
  have e2 : (ends b l)[j]'(by omega) = (LP b l)[j] := by simp only [ends]; rw [List.getElem_append_left h]
  rwa [e2] at this
 have hD : ∀ x ∈ (LP b l).drop k, a < x.1 ∧ x.1 ≤ l.length := by
  intro x hx
  have hx' : x ∈ (ends b l).drop k := by rw [hDx]; exact List.mem_append_left _ hx
  refine ⟨?_, hle x (List.mem_of_mem_drop hx')⟩
  rw [List.drop_eq_getElem_cons hk] at hx'
  rcases List.mem_cons.1 hx' with rfl | hx'
  ·exact hak
  ·have h2 := hpw.sublist (List.drop_sublist k _)
   rw [List.drop_eq_getElem_cons hk] at h2
   have := (List.pairwise_cons.1 h2).1 x hx'
   omega
 have hdl : ((LP b l).drop k).length = (LP b l).length - k := List.length_drop ..
 have hL0 : formeref17_Line f ⟨l.toArray⟩ (a : Int) (l.length : Int) false sc = some (ln f l sc a (l.length, false)) := rline_mk f hf ho h1 h2 hF sc (p := (l.length, false)) (Nat.le_of_lt ha) (Nat.le_refl _)
 obtain ⟨fnd', x', y', g1, g2, g3⟩ := rnext_loop f hf ho h1 h2 hF sc room a (LP b l) (by omega) k hk2 hlo hD _ (Nat.le_refl _) (decide (W f l sc a (l.length, false) ≤ room)) (ln f l sc a (l.length, false)) (ln f l sc a (l.length, false))
 have e3 : (((k + ((LP b l).drop k).length : Nat) : Int) - 1) = w64 (((LP b l).length : Int) - 1) := by rw [w64_id (by omega) (by omega)]; omega
 rw [e3] at g1
 have wd : (ln f l sc a (l.length, false)).Width = W f l sc a (l.length, false) := rfl
 unfold formeref17_next
 rw [sz, hL0, some_bind, wd, List.length_map]
 rw [wd] at g1
 rw [g1, some_bind]
 have est : nxl f b l sc a room = match pick (W f l sc a) room ((LP b l).drop k ++ [(l.length, false)]) (((LP b l).drop k).length + 1) with
   | some i => ((LP b l).drop k ++ [(l.length, false)]).getD i (0, false)
   | none => ((LP b l).drop k ++ [(l.length, false)]).getD 0 (0, false) := by
  unfold nxl stop
  rw [e, hDx, List.length_append, List.length_singleton]
  rfl
 have eL : ((LP b l).drop k ++ [(l.length, false)]).getD ((LP b l).drop k).length (0, false) = (l.length, false) := by
  rw [List.getD_eq_getElem?_getD, List.getElem?_append_right (Nat.le_refl _), Nat.sub_self]; rfl
 have pk : pick (W f l sc a) room ((LP b l).drop k ++ [(l.length, false)]) (((LP b l).drop k).length + 1) = if W f l sc a (l.length, false) ≤ room then some ((LP b l).drop k).length else pick (W f l sc a) room ((LP b l).drop k) ((LP b l).drop k).length := by
  conv => lhs; unfold pick
  rw [eL, pick_append _ _ _ _ _ (Nat.le_refl _)]
 have gA : ∀ i, i < ((LP b l).drop k).length → ((LP b l).drop k ++ [(l.length, false)]).getD i (0, false) = ((LP b l).drop k).getD i (0, false) := fun i hi => by
  rw [List.getD_eq_getElem?_getD, List.getD_eq_getElem?_getD, List.getElem?_append_left hi]
 by_cases hw : W f l sc a (l.length, false) ≤ room
 ·obtain ⟨q1, q2⟩ := g2 (decide_eq_true hw)
  rw [est, pk, if_pos hw, q1, q2]
  simp only [eL, Bool.not_true, Bool.false_eq_true, if_false]
 ·have q := g3 (decide_eq_false hw)
  rw [est, pk, if_neg hw]
  cases hp : pick (W f l sc a) room ((LP b l).drop k) ((LP b l).drop k).length with
  | some i =>
   rw [hp] at q
   obtain ⟨q1, q2⟩ := q
   rw [q1, q2]
   simp only [Bool.not_true, Bool.false_eq_true, if_false, gA i (pick_lt hp).1]
  | none =>
   rw [hp] at q
   obtain ⟨q1, q2⟩ := q
   rw [q1, q2]
   by_cases h0 : ((LP b l).drop k).length = 0
   ·rw [if_pos h0]
    have : (LP b l).drop k = [] := List.length_eq_zero_iff.1 h0
    rw [this]
    simp only [Bool.not_false, if_true]
    rfl
   ·rw [if_neg h0, gA 0 (by omega)]
    simp only [Bool.not_false, if_true]
end Go.Proofs.YtokeiiakkfdmgaaGreatDoor.LG
