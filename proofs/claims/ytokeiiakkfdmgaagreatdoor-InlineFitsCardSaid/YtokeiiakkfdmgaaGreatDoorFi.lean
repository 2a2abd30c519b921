/-
  InlineFits: the plain law. Plain Lean; no program in sight.
-/
import Derived.Test.YtokeiiakkfdmgaaGreatDoorFh
set_option linter.unusedVariables false
set_option linter.unusedSimpArgs false
set_option maxRecDepth 100000
namespace Go.Proofs.YtokeiiakkfdmgaaGreatDoor.LG
open Go Go.LG Go.Lib

theorem bad_loop (r : List Int) (hr : r.length ≤ 1000000) : ∀ (n i : Nat), r.length - i = n → i ≤ r.length →
    ∃ o, slices_IndexFunc_int_k1_l22 r (i : Int) = some o ∧ ((r.drop i).any (fun x => !decide (0 ≤ x ∧ x ≤ 1000000000)) = true → ∃ k : Nat, o = .inl (k : Int)) ∧ ((r.drop i).any (fun x => !decide (0 ≤ x ∧ x ≤ 1000000000)) = false → o = .inr ()) := by
  intro n
  induction n with
  | zero =>
    intro i hn hi
    rw [slices_IndexFunc_int_k1_l22, if_neg (by omega), List.drop_eq_nil_of_le (by omega)]
    exact ⟨_, rfl, fun h => (by cases h), fun _ => rfl⟩
  | succ n ih =>
    intro i hn hi
    have hlt : i < r.length := by omega
    obtain ⟨o, h1, h2, h3⟩ := ih (i + 1) (by omega) (by omega)
    rw [slices_IndexFunc_int_k1_l22, if_pos (by omega), if_pos ⟨by omega, by omega⟩, getD_at r _ hlt, w64_id (n := (i : Int) + 1) (by omega) (by omega), add1, List.drop_eq_getElem_cons hlt, List.any_cons]
    unfold inline_Lines_1
    rw [within_mk]
    simp only [some_bind]
    by_cases hh : 0 ≤ r[i] ∧ r[i] ≤ 1000000000
    · rw [decide_eq_true hh, if_neg (by decide)]
      exact ⟨o, h1, by simpa using h2, by simpa using h3⟩
    · rw [decide_eq_false hh, if_pos (show (!false) = true from rfl)]
      exact ⟨_, rfl, fun _ => ⟨i, rfl⟩, fun h => by simp at h⟩
def badR (rooms : List Int) : Bool := decide (rooms = []) || rooms.any fun x => !decide (0 ≤ x ∧ x ≤ 1000000000)
theorem bad_mk (r : List Int) (hr : r.length ≤ 1000000) : ((if (r.length : Int) = 0 then some true else (slices_ContainsFunc_int_k1 r >>= fun y50 => some y50)) : Option Bool) = some (badR r) := by
  obtain ⟨o, h1, h2, h3⟩ := bad_loop r hr _ 0 rfl (Nat.zero_le _)
  have h1' : slices_IndexFunc_int_k1_l22 r 0 = some o := h1
  rw [List.drop_zero] at h2 h3
  unfold badR slices_ContainsFunc_int_k1 slices_IndexFunc_int_k1
  rw [h1', some_bind]
  by_cases h0 : r = []
  · subst h0; rfl
  · have h0' : ¬ (r.length : Int) = 0 := fun h => h0 (List.eq_nil_of_length_eq_zero (by omega))
    rw [if_neg h0', decide_eq_false h0, Bool.false_or]
    cases hh : r.any (fun x => !decide (0 ≤ x ∧ x ≤ 1000000000))
    · rw [h3 hh]; rfl
    · obtain ⟨k, rfl⟩ := h2 hh
      have : (0 : Int) ≤ (k : Int) := by omega
      simp [this]
theorem lines_v (f : api_Font) (hf : Sm f) (F : Fok f) (hfv : font_Valid f = some true) (b : api_Breaks) (l : List UInt8) (hk : b.Keep.length ≤ 1000000) (hs : l.length ≤ 100000) (hv : vb b = true) (ho : okS l = true) (sc : Int) (hsc : 50 ≤ sc ∧ sc ≤ 300) (rooms : List Int) (hr : rooms.length ≤ 1000000) :
    inline_Lines f b ⟨l.toArray⟩ sc rooms = some (if badR rooms = true then ([], 1) else if okP f b l = true then (lns f b l sc (roomAt rooms) (l.length + 1) 0 0, 0) else ([], 20)) := by
  unfold inline_Lines
  rw [bad_mk rooms hr, some_bind, prepare_v f hf F hfv b l hk hs hv ho sc hsc]
  cases hb : badR rooms
  · have hne : rooms ≠ [] := fun h => by subst h; simp [badR] at hb
    have hpos : 0 < rooms.length := List.length_pos_iff.2 hne
    cases hp : okP f b l
    · rfl
    · have hL := lines_loop f hf b l hs ho sc rooms hpos hr (l.length + 1) 0 0 [] (by omega) (by omega) (Nat.le_refl _) (Nat.le_refl _)
      have hL' : inline_setter_lines_1_k1_l50 (rnd (fun (u : (List api_Line)) (x : api_Line) => slices_AppendSeq_api_Line_k2_r63 u x)) ⟨l.toArray⟩ ((ends b l).map brk) f sc rooms 0 0 ([], none) = some (lns f b l sc (roomAt rooms) (l.length + 1) 0 0, none) := hL
      simp only [Bool.false_eq_true, if_false, if_true, some_bind]
      unfold inline_setter_lines_k1 slices_Collect_api_Line_k1 slices_AppendSeq_api_Line_k2 inline_setter_lines_1_k1
      simp only [some_bind]
      rw [hL']
      rfl
  · rfl
theorem pick_after {w : Nat × Bool → Int} {room : Int} {D : List (Nat × Bool)} : ∀ {m i : Nat}, pick w room D m = some i → ∀ j, i < j → j < m → room < w (D.getD j (0, false))
  | 0, i, h => nomatch h
  | m + 1, i, h => by
    intro j hij hj
    unfold pick at h
    split at h
    · cases h; omega
    · rename_i hw
      rcases Nat.lt_or_ge j m with h' | h'
      · exact pick_after h j hij h'
      · have : j = m := by omega
        subst this; omega
theorem pick_none {w : Nat × Bool → Int} {room : Int} {D : List (Nat × Bool)} : ∀ {m : Nat}, pick w room D m = none → ∀ j, j < m → room < w (D.getD j (0, false))
  | 0, h, j, hj => by omega
  | m + 1, h, j, hj => by
    unfold pick at h
    split at h
    · cases h
    · rename_i hw
      rcases Nat.lt_or_ge j m with h' | h'
      · exact pick_none h j h'
      · have : j = m := by omega
        subst this; omega
theorem nxl_spec (f : api_Font) (hf : Sm f) (b : api_Breaks) (l : List UInt8) (hs : l.length ≤ 100000) (sc : Int) {a : Nat} (ha : a < l.length) (room : Int) :
    (∀ q ∈ ends b l, (nxl f b l sc a room).1 < q.1 → room < W f l sc a q) ∧ (room < W f l sc a (nxl f b l sc a room) → ∀ q ∈ ends b l, a < q.1 → (nxl f b l sc a room).1 ≤ q.1) := by
  obtain ⟨k, hk, hak, hb, hx⟩ := next_mk f hf b l hs sc ha
  have e : behind b l a = (ends b l).drop k := drop_while _ k _ hk (by simpa using hak) fun j hj hjk => by simpa using hb j hj hjk
  obtain ⟨hpw, hle⟩ := ends_pw b l
  have hD : ((ends b l).drop k).Pairwise (fun x y => x.1 ≤ y.1) := hpw.sublist (List.drop_sublist k _)
  have h0 : 0 < ((ends b l).drop k).length := by rw [List.length_drop]; omega
  have gd : ∀ i (h : i < ((ends b l).drop k).length), ((ends b l).drop k).getD i (0, false) = ((ends b l).drop k)[i] := fun i h => by
    rw [List.getD_eq_getElem?_getD, List.getElem?_eq_getElem h]; rfl
  have key : ∀ i j (hi : i < ((ends b l).drop k).length) (hj : j < ((ends b l).drop k).length), i ≤ j → (((ends b l).drop k)[i]).1 ≤ (((ends b l).drop k)[j]).1 := by
    intro i j hi hj hij
    rcases Nat.lt_or_ge i j with h | h
    · exact List.pairwise_iff_getElem.1 hD i j hi hj h
    · have : i = j := by omega
      subst this; exact Nat.le_refl _
  have low : ∀ q ∈ ends b l, a < q.1 → ∃ j, ∃ h : j < ((ends b l).drop k).length, ((ends b l).drop k)[j] = q := by
    intro q hq haq
    obtain ⟨j, hj, rfl⟩ := List.getElem_of_mem hq
    have hjk : k ≤ j := by
      rcases Nat.lt_or_ge j k with h | h
      · have := hb j hj h; omega
      · exact h
    exact ⟨j - k, by rw [List.length_drop]; omega, by simp [List.getElem_drop, Nat.add_sub_cancel' hjk]⟩
  have hgt := (next_at f hf b l hs sc ha room).2.2.1
  revert hgt
  unfold nxl stop
  rw [e]
  cases hp : pick (W f l sc a) room ((ends b l).drop k) ((ends b l).drop k).length with
  | none =>
    intro hgt
    simp only [gd 0 h0] at hgt ⊢
    refine ⟨fun q hq hlt => ?_, fun _ q hq haq => ?_⟩
    · obtain ⟨j, hj, rfl⟩ := low q hq (by omega)
      have := pick_none hp j hj
      rwa [gd j hj] at this
    · obtain ⟨j, hj, rfl⟩ := low q hq haq
      exact key 0 j h0 hj (Nat.zero_le _)
  | some i =>
    have hi := pick_lt hp
    intro hgt
    simp only [gd i hi.1] at hgt ⊢
    refine ⟨fun q hq hlt => ?_, fun hw => ?_⟩
    · obtain ⟨j, hj, rfl⟩ := low q hq (by omega)
      have hij : i < j := by
        rcases Nat.lt_or_ge i j with h | h
        · exact h
        · have := key j i hj hi.1 h; omega
      have := pick_after hp j hij hj
      rwa [gd j hj] at this
    · have := hi.2
      rw [gd i hi.1] at this
      omega
theorem ends_hyph {b : api_Breaks} {l : List UInt8} {f : api_Font} (h : okP f b l = true) : hasG f l = true ∧ ∀ q ∈ ends b l, q.2 = true → hasG f [45] = true := by
  unfold okP at h
  rw [Bool.and_eq_true] at h
  refine ⟨h.1, fun q hq hy => ?_⟩
  unfold ends at hq
  rcases List.mem_append.1 hq with hq | hq
  · have : (LP b l).any (·.2) = true := List.any_eq_true.2 ⟨q, hq, hy⟩
    rw [this] at h
    simpa using h.2
  · rw [List.mem_singleton.1 hq] at hy; cases hy
theorem W_mk (f : api_Font) (hf : Sm f) (F : Fok f) (hfv : font_Valid f = some true) (b : api_Breaks) (l : List UInt8) (hl : l.length ≤ 1000) (ho : okS l = true) {sc : Int} (hsc : 50 ≤ sc ∧ sc ≤ 300) (hp : okP f b l = true) (a : Nat) {q : Nat × Bool} (hq : q ∈ ends b l) :
    font_Width f ⟨(part l a q.1 q.2).toArray⟩ sc = some (W f l sc a q, 0) := by
  obtain ⟨h1, h2⟩ := ends_hyph hp
  have h := width_e f hf F hfv (part_okS ho hl a q.1 q.2) hsc
  rw [if_pos (part_hasG h1 a q.1 q.2 (h2 q hq))] at h
  rw [h]; rfl
theorem fits_inner (f : api_Font) (hf : Sm f) (F : Fok f) (hfv : font_Valid f = some true) (b : api_Breaks) (l : List UInt8) (hl : l.length ≤ 1000) (ho : okS l = true) {sc : Int} (hsc : 50 ≤ sc ∧ sc ≤ 300) (hp : okP f b l = true) (rooms : List Int) (hr : rooms.length ≤ 1000000)
    (xs : List api_Line) (i : Nat) (hi : i < xs.length) (a : Nat) (p : Nat × Bool) (ha : a ≤ l.length) (hx : xs.getD (Int.toNat (i : Int)) z_api_Line = ln f l sc a p) (hr0 : 0 < rooms.length)
    (hfar : ∀ q ∈ ends b l, p.1 < q.1 → roomAt rooms i < W f l sc a q) :
    ∀ (n k : Nat) (v : Bool), (ends b l).length - k = n → k ≤ (ends b l).length → ∃ v', formelaw17_InlineFits_l296 f ⟨l.toArray⟩ sc rooms xs ((LP b l).map brk) (i : Int) v (k : Int) = some (.inr v') ∧ ((∀ q ∈ (ends b l).drop k, a < q.1 → p.1 ≤ q.1) → v' = v) := by
  have he : (([] : List api_Break) ++ (LP b l).map brk) ++ [(⟨(((⟨l.toArray⟩ : ByteArray).size : Nat) : Int), false⟩ : api_Break)] = (ends b l).map brk := by
    unfold ends; rw [List.map_append, List.nil_append, sz]; rfl
  have hlen := ends_len b l
  have hmem := (ends_pw b l).2
  intro n
  induction n with
  | zero =>
    intro k v hn hk
    rw [formelaw17_InlineFits_l296, he, List.length_map, if_neg (by omega)]
    exact ⟨v, rfl, fun _ => rfl⟩
  | succ n ih =>
    intro k v hn hk
    have hlt : k < (ends b l).length := by omega
    have hq : (ends b l)[k] ∈ ends b l := List.getElem_mem hlt
    have hql := hmem _ hq
    have b1 : (0 : Int) ≤ (k : Int) ∧ (k : Int) < ((ends b l).length : Int) := ⟨by omega, by omega⟩
    have b2 : (0 : Int) ≤ (i : Int) ∧ (i : Int) < (xs.length : Int) := ⟨by omega, by omega⟩
    have f1 : (ln f l sc a p).From = (a : Int) := rfl
    have f2 : (ln f l sc a p).Until = (p.1 : Int) := rfl
    have q1 : (brk (ends b l)[k]).At = (((ends b l)[k]).1 : Int) := rfl
    have q2 : (brk (ends b l)[k]).Hyphen = ((ends b l)[k]).2 := rfl
    have e3 : w64 ((k : Int) + 1) = ((k + 1 : Nat) : Int) := by rw [w64_id (by omega) (by omega)]; omega
    have e4 : w64 ((rooms.length : Int) - 1) = (rooms.length : Int) - 1 := w64_id (by omega) (by omega)
    have e5 : rooms.getD (Int.toNat (min (i : Int) ((rooms.length : Int) - 1))) (0 : Int) = roomAt rooms i := by
      have : Int.toNat (min (i : Int) ((rooms.length : Int) - 1)) = min i (rooms.length - 1) := by omega
      rw [this]; rfl
    have hcons : (ends b l).drop k = (ends b l)[k] :: (ends b l).drop (k + 1) := List.drop_eq_getElem_cons hlt
    have hdrop : ∀ {P : Nat × Bool → Prop}, (∀ q ∈ (ends b l).drop k, P q) → P (ends b l)[k] ∧ ∀ q ∈ (ends b l).drop (k + 1), P q := fun h =>
      ⟨h _ (by rw [hcons]; exact List.mem_cons_self ..), fun q hq => h q (by rw [hcons]; exact List.mem_cons_of_mem _ hq)⟩
    rw [formelaw17_InlineFits_l296]
    simp only [he, List.length_map, if_pos b1, if_pos b1.2, if_pos b2, getD_map_brk _ hlt, hx, f1, f2, q1, q2, e3, e4, e5]
    by_cases c1 : ((ends b l)[k]).1 ≤ a
    · rw [if_pos (show (((ends b l)[k]).1 : Int) ≤ (a : Int) by omega)]
      simp only [some_bind, if_true]
      obtain ⟨v', h1, h2⟩ := ih (k + 1) v (by omega) (by omega)
      exact ⟨v', h1, fun h => h2 (hdrop h).2⟩
    · rw [if_neg (show ¬ (((ends b l)[k]).1 : Int) ≤ (a : Int) by omega)]
      by_cases c2 : ((ends b l)[k]).1 = p.1
      · rw [decide_eq_true (show (((ends b l)[k]).1 : Int) = (p.1 : Int) by omega)]
        simp only [some_bind, if_true]
        obtain ⟨v', h1, h2⟩ := ih (k + 1) v (by omega) (by omega)
        exact ⟨v', h1, fun h => h2 (hdrop h).2⟩
      · rw [decide_eq_false (show ¬ (((ends b l)[k]).1 : Int) = (p.1 : Int) by omega)]
        simp only [some_bind, Bool.false_eq_true, if_false]
        by_cases c3 : ((ends b l)[k]).1 < p.1
        · rw [if_pos (show (((ends b l)[k]).1 : Int) < (p.1 : Int) by omega)]
          simp only [some_bind]
          obtain ⟨v', h1, h2⟩ := ih (k + 1) false (by omega) (by omega)
          refine ⟨v', h1, fun h => ?_⟩
          have := (hdrop h).1 (by omega)
          omega
        · rw [if_neg (show ¬ (((ends b l)[k]).1 : Int) < (p.1 : Int) by omega), refPart_mk ho (by omega) hql, some_bind, W_mk f hf F hfv b l hl ho hsc hp a hq]
          have hw := hfar _ hq (by omega)
          have hw' : ¬ W f l sc a (ends b l)[k] ≤ roomAt rooms i := by omega
          simp only [some_bind, not_true_eq_false, if_false, hw', decide_false, Bool.false_eq_true]
          obtain ⟨v', h1, h2⟩ := ih (k + 1) v (by omega) (by omega)
          exact ⟨v', h1, fun h => h2 (hdrop h).2⟩
theorem fits_loop (f : api_Font) (hf : Sm f) (F : Fok f) (hfv : font_Valid f = some true) (b : api_Breaks) (l : List UInt8) (hl : l.length ≤ 1000) (ho : okS l = true) {sc : Int} (hsc : 50 ≤ sc ∧ sc ≤ 300) (hp : okP f b l = true) (rooms : List Int) (hr : rooms.length ≤ 1000000) (hr0 : 0 < rooms.length) (xs : List api_Line) (hx : xs.length ≤ 1000000) :
    ∀ (n a i : Nat) (pre : List api_Line), l.length - a < n → a ≤ l.length → i = pre.length → xs = pre ++ lns f b l sc (roomAt rooms) n a i → formelaw17_InlineFits_l150 f ⟨l.toArray⟩ sc rooms xs ((LP b l).map brk) (pre.length : Int) = some (.inr ()) := by
  intro n
  induction n with
  | zero => intro a i pre h; omega
  | succ n ih =>
    intro a i pre hn ha hi he
    by_cases hw : wc false (l.drop a) = 0
    · have : xs = pre := by rw [he]; unfold lns; rw [if_pos hw, List.append_nil]
      rw [formelaw17_InlineFits_l150, if_neg (by rw [this]; omega)]
    · have hlt : a < l.length := by
        rcases Nat.lt_or_ge a l.length with h | h
        · exact h
        · exact absurd (by rw [List.drop_eq_nil_of_le h]; rfl) hw
      obtain ⟨_, hm, hgt, hle⟩ := next_at f hf b l (by omega) sc hlt (roomAt rooms i)
      obtain ⟨s1, s2⟩ := nxl_spec f hf b l (by omega) sc hlt (roomAt rooms i)
      have he2 : xs = pre ++ ln f l sc a (nxl f b l sc a (roomAt rooms i)) :: lns f b l sc (roomAt rooms) n (nxl f b l sc a (roomAt rooms i)).1 (i + 1) := by
        rw [he]; conv => lhs; unfold lns
        rw [if_neg hw]
      generalize hP : nxl f b l sc a (roomAt rooms i) = p at *
      have hlen : pre.length < xs.length := by rw [he2]; simp
      have hg : xs.getD (Int.toNat (pre.length : Int)) z_api_Line = ln f l sc a p := by rw [he2]; exact getD_pre2 _ _ _ _
      obtain ⟨v', h1, h2⟩ := fits_inner f hf F hfv b l hl ho hsc hp rooms hr xs pre.length hlen a p (by omega) hg hr0 (by rw [← hi]; exact s1) _ 0 true rfl (Nat.zero_le _)
      have h1' : formelaw17_InlineFits_l296 f ⟨l.toArray⟩ sc rooms xs ((LP b l).map brk) (pre.length : Int) true 0 = some (.inr v') := h1
      have b2 : (0 : Int) ≤ (pre.length : Int) ∧ (pre.length : Int) < (xs.length : Int) := ⟨by omega, by omega⟩
      have f1 : (ln f l sc a p).From = (a : Int) := rfl
      have f2 : (ln f l sc a p).Until = (p.1 : Int) := rfl
      have f3 : (ln f l sc a p).Hyphen = p.2 := rfl
      have f4 : (ln f l sc a p).Width = W f l sc a p := rfl
      have e3 : w64 ((pre.length : Int) + 1) = ((pre ++ [ln f l sc a p]).length : Int) := by rw [w64_id (by omega) (by omega)]; simp
      have e4 : w64 ((rooms.length : Int) - 1) = (rooms.length : Int) - 1 := w64_id (by omega) (by omega)
      have e5 : rooms.getD (Int.toNat (min (pre.length : Int) ((rooms.length : Int) - 1))) (0 : Int) = roomAt rooms i := by
        have : Int.toNat (min (pre.length : Int) ((rooms.length : Int) - 1)) = min i (rooms.length - 1) := by omega
        rw [this]; rfl
      have b3 : (0 : Int) ≤ min (pre.length : Int) ((rooms.length : Int) - 1) ∧ min (pre.length : Int) ((rooms.length : Int) - 1) < (rooms.length : Int) := ⟨by omega, by omega⟩
      have g0 : ¬ (a : Int) < 0 := by omega
      have g1 : ¬ (p.1 : Int) ≤ (a : Int) := by omega
      have g2 : ¬ (l.length : Int) < (p.1 : Int) := by omega
      rw [formelaw17_InlineFits_l150, if_pos b2.2]
      simp only [if_pos b2, hg, f1, f2, f3, f4, sz, g0, g1, g2, if_false, decide_false, some_bind, Bool.false_eq_true, e3, e4, e5, if_pos b3, refPart_mk ho (show a ≤ p.1 by omega) hle, W_mk f hf F hfv b l hl ho hsc hp a hm, h1', not_true_eq_false]
      have hlast : ((if roomAt rooms i < W f l sc a p then some (!v') else some false) : Option Bool) = some false := by
        by_cases hw2 : roomAt rooms i < W f l sc a p
        · rw [if_pos hw2]
          have := h2 (by rw [List.drop_zero]; exact s2 hw2)
          rw [this]; rfl
        · rw [if_neg hw2]
      rw [hlast]
      simp only [some_bind, Bool.false_eq_true, if_false]
      exact ih p.1 (i + 1) (pre ++ [ln f l sc a p]) (by omega) hle (by simp [hi]) (by rw [he2]; simp)
theorem fits_true (f : api_Font) (b : api_Breaks) (s : ByteArray) (sc : Int) (rooms : List Int) (hs : s.size ≤ 9223372036854775807) : formelaw17_InlineFits f b s sc rooms = some true := by
  obtain ⟨l, rfl⟩ : ∃ l : List UInt8, s = ⟨l.toArray⟩ := ⟨s.data.toList, (Lib.mk_data s).symm⟩
  rw [sz] at hs
  obtain ⟨u, hu, hU⟩ := usable_mk f b l sc hs
  unfold formelaw17_InlineFits
  rw [head_true, some_bind, hu, some_bind]
  cases u
  · simp
  · have U := hU rfl
    by_cases h1 : 60 < (rooms.length : Int)
    · simp [h1]
    · have hl := U.hl
      have hk := U.hk
      obtain ⟨y, hy, hy2, hF⟩ := fvalid_mk f U.hf
      have hy3 := usable_v hu U.hf
      rw [hy2] at hy3
      cases hy3
      have F := hF rfl
      have hlp := LP_len b l
      simp only [h1, Bool.not_true, Bool.false_eq_true, if_false, decide_false, some_bind, list_mk b l (show b.Keep.length ≤ 1000000 by omega), U.hv, U.ho, Bool.and_self, if_true,
        lines_v f U.hf F hy b l (show b.Keep.length ≤ 1000000 by omega) (show l.length ≤ 100000 by omega) U.hv U.ho sc U.hs rooms (by omega)]
      cases hb : badR rooms
      · have hne : rooms ≠ [] := fun h => by subst h; simp [badR] at hb
        have hpos : 0 < rooms.length := List.length_pos_iff.2 hne
        cases hp : okP f b l
        · simp
        · have hll := lns_len f b l sc (roomAt rooms) (l.length + 1) 0 0
          have hL := fits_loop f U.hf F hy b l (by omega) U.ho U.hs hp rooms (by omega) hpos (lns f b l sc (roomAt rooms) (l.length + 1) 0 0) (by omega) (l.length + 1) 0 0 [] (by omega) (by omega) rfl rfl
          have hL' : formelaw17_InlineFits_l150 f ⟨l.toArray⟩ sc rooms (lns f b l sc (roomAt rooms) (l.length + 1) 0 0) ((LP b l).map brk) 0 = some (.inr ()) := hL
          have c1 : ([] : List api_Break).length + ((LP b l).map brk).length ≤ 8796093022208 := by simp; omega
          have c2 : (([] : List api_Break) ++ (LP b l).map brk).length + 1 ≤ 8796093022208 := by simp; omega
          simp only [Bool.false_eq_true, if_false, if_true, not_true_eq_false, if_pos c1, if_pos c2, hL', some_bind, decide_true]
      · simp
end Go.Proofs.YtokeiiakkfdmgaaGreatDoor.LG
