/-
  The laws of package text on what is trimmed. Plain Lean; no program in sight.
-/
import Derived.Test.YtpefcdchjokggaaDoorPn
set_option linter.unusedVariables false
set_option linter.unusedSimpArgs false
namespace Go.Proofs.YtpefcdchjokggaaDoor.LG
open Go Go.LG Go.Lib

theorem tl_split : ∀ l : List UInt8, ∃ p, l = p ++ tl l ∧ ∀ b ∈ p, b = bl
  | [] => ⟨[], rfl, by simp⟩
  | b :: l => by
    rw [tl_cons]
    split
    · rename_i h
      obtain ⟨p, hp, hb⟩ := tl_split l
      refine ⟨b :: p, ?_, ?_⟩
      · rw [List.cons_append, ← hp]
      · intro c hc
        rcases List.mem_cons.1 hc with rfl | hc
        · exact h
        · exact hb c hc
    · exact ⟨[], rfl, by simp⟩
theorem tr_split : ∀ l : List UInt8, ∃ q, l = tr l ++ q ∧ ∀ b ∈ q, b = bl
  | [] => ⟨[], rfl, by simp⟩
  | b :: l => by
    obtain ⟨q, hq, hb⟩ := tr_split l
    rw [tr_cons]
    split
    · rename_i h
      rw [h] at hq
      split
      · rename_i hbb
        refine ⟨b :: l, rfl, ?_⟩
        intro c hc
        rcases List.mem_cons.1 hc with rfl | hc
        · exact hbb
        · exact hb c (by rw [← show l = q from hq]; exact hc)
      · exact ⟨l, rfl, fun c hc => hb c (by rw [← show l = q from hq]; exact hc)⟩
    · exact ⟨q, by rw [List.cons_append, ← hq], hb⟩
theorem tl_head : ∀ {l t : List UInt8} {b : UInt8}, tl l = b :: t → b ≠ bl
  | [], _, _, h => by cases h
  | c :: l, t, b, h => by
    rw [tl_cons] at h
    split at h
    · exact tl_head h
    · rename_i hc; cases h; exact hc
theorem tr_last : ∀ {l t : List UInt8} {b : UInt8}, tr l = t ++ [b] → b ≠ bl
  | [], t, b, h => by simp [tr_nil] at h
  | c :: l, t, b, h => by
    rw [tr_cons] at h
    split at h
    · split at h
      · simp at h
      · rename_i hc
        cases t with
        | nil => simp at h; subst h; exact hc
        | cons x t => simp at h
    · rename_i hne
      cases t with
      | nil =>
        simp only [List.nil_append, List.cons.injEq] at h
        exact absurd h.2 hne
      | cons x t =>
        simp only [List.cons_append, List.cons.injEq] at h
        exact tr_last h.2
theorem trim_head {l t : List UInt8} {b : UInt8} (h : trim l = b :: t) : b ≠ bl := tl_head h
theorem trim_last {l t : List UInt8} {b : UInt8} (h : trim l = t ++ [b]) : b ≠ bl := by
  unfold trim at h
  rw [tl_tr] at h
  exact tr_last h
theorem trim_split (l : List UInt8) : ∃ p q, l = p ++ trim l ++ q ∧ (∀ b ∈ p, b = bl) ∧ ∀ b ∈ q, b = bl := by
  obtain ⟨q, hq, hqb⟩ := tr_split l
  obtain ⟨p, hp, hpb⟩ := tl_split (tr l)
  exact ⟨p, q, by unfold trim; rw [← hp]; exact hq, hpb, hqb⟩
theorem tl_pre : ∀ (p x : List UInt8), (∀ b ∈ p, b = bl) → tl (p ++ x) = tl x
  | [], _, _ => rfl
  | b :: p, x, h => by rw [List.cons_append, tl_cons, if_pos (h b (by simp)), tl_pre p x fun c hc => h c (by simp [hc])]
theorem tr_post (x q : List UInt8) (h : ∀ b ∈ q, b = bl) : tr (x ++ q) = tr x := by
  induction q generalizing x with
  | nil => simp
  | cons b q ih =>
    rw [show x ++ b :: q = (x ++ [b]) ++ q by simp, ih (x ++ [b]) fun c hc => h c (by simp [hc]), tr_snoc, if_pos (h b (by simp))]
theorem tl_id {x : List UInt8} (h : ∀ b t, x = b :: t → b ≠ bl) : tl x = x := by
  cases x with
  | nil => rfl
  | cons b t => rw [tl_cons, if_neg (h b t rfl)]
theorem tr_id {x : List UInt8} (h : ∀ b t, x = t ++ [b] → b ≠ bl) : tr x = x := by
  rcases List.eq_nil_or_concat x with h0 | ⟨t, b, h0⟩
  · rw [h0]; rfl
  · have h0' : x = t ++ [b] := by simpa using h0
    rw [h0', tr_snoc, if_neg (h b t h0')]
/-- What stands between blanks is what is trimmed. -/
theorem trim_of {p x q : List UInt8} (hp : ∀ b ∈ p, b = bl) (hq : ∀ b ∈ q, b = bl) (h1 : ∀ b t, x = b :: t → b ≠ bl) (h2 : ∀ b t, x = t ++ [b] → b ≠ bl) : trim (p ++ x ++ q) = x := by
  unfold trim
  rw [tr_post _ _ hq, tl_tr, tl_pre _ _ hp, tl_id h1, tr_id h2]
theorem trim_trim (l : List UInt8) : trim (trim l) = trim l := by
  have := trim_of (p := []) (x := trim l) (q := []) (by simp) (by simp) (fun b t h => trim_head h) (fun b t h => trim_last h)
  simpa using this
theorem trim_sub (l : List UInt8) : ∀ b ∈ trim l, b ∈ l := by
  obtain ⟨p, q, h, _, _⟩ := trim_split l
  intro b hb
  rw [h]; simp [hb]
theorem trim_len (l : List UInt8) : (trim l).length ≤ l.length := by
  obtain ⟨p, q, h, _, _⟩ := trim_split l
  have := congrArg List.length h
  simp only [List.length_append] at this
  omega
theorem okS_trim {l : List UInt8} (h : okS l = true) : okS (trim l) = true := by
  obtain ⟨h1, h2⟩ := okS_all h
  exact okS_of (fun b hb => h1 b (trim_sub l b hb)) (by have := trim_len l; omega)
theorem wc_blanks : ∀ (q : List UInt8) (o : Bool), (∀ b ∈ q, b = bl) → wc o q = 0
  | [], o, _ => rfl
  | b :: q, o, h => by
    have hb := bl_iff.1 (h b (by simp))
    rw [wc, if_neg (by omega), if_pos hb, wc_blanks q false fun c hc => h c (by simp [hc])]
theorem st_blanks : ∀ (q : List UInt8), (∀ b ∈ q, b = bl) → st false q = false
  | [], _ => rfl
  | b :: q, h => by
    have hb := bl_iff.1 (h b (by simp))
    rw [st, if_neg (by omega), if_pos hb, st_blanks q fun c hc => h c (by simp [hc])]
theorem wc_trim (l : List UInt8) : wc false (trim l) = wc false l := by
  obtain ⟨p, q, h, hp, hq⟩ := trim_split l
  conv => rhs; rw [h]
  rw [wc_append, wc_append, wc_blanks p false hp, st_blanks p hp, wc_blanks q _ hq]
  omega
theorem count_blanks : ∀ (q : List UInt8), (∀ b ∈ q, b = bl) → q.count 32 = q.length
  | [], _ => rfl
  | b :: q, h => by
    have hb : b = 32 := h b (by simp)
    rw [List.count_cons, count_blanks q fun c hc => h c (by simp [hc]), hb]
    simp
theorem prefix_no {x : List UInt8} {c : UInt8} (h : ∀ b t, x = b :: t → b ≠ c) : Lib.hasPrefix x [c] = false := by
  unfold Lib.hasPrefix
  cases x with
  | nil => rfl
  | cons b t =>
    have := h b t rfl
    simp [List.isPrefixOf]
    exact fun e => this e.symm
theorem suffix_no {x : List UInt8} {c : UInt8} (h : ∀ b t, x = t ++ [b] → b ≠ c) : Lib.hasSuffix x [c] = false := by
  unfold Lib.hasSuffix List.isSuffixOf
  rcases List.eq_nil_or_concat x with h0 | ⟨t, b, h0⟩
  · rw [h0]; rfl
  · have h0' : x = t ++ [b] := by simpa using h0
    have := h b t h0'
    rw [h0']
    simp [List.isPrefixOf]
    exact fun e => this e.symm
theorem prefix_iff {x : List UInt8} {c : UInt8} : Lib.hasPrefix x [c] = true ↔ ∃ t, x = c :: t := by
  unfold Lib.hasPrefix
  cases x with
  | nil => simp [List.isPrefixOf]
  | cons b t =>
    simp only [List.isPrefixOf, Bool.and_true, beq_iff_eq, List.cons.injEq]
    exact ⟨fun e => ⟨t, e.symm, rfl⟩, fun ⟨_, e, _⟩ => e.symm⟩
theorem suffix_iff {x : List UInt8} {c : UInt8} : Lib.hasSuffix x [c] = true ↔ ∃ t, x = t ++ [c] := by
  rcases List.eq_nil_or_concat x with h0 | ⟨t, b, h0⟩
  · rw [h0]
    exact ⟨(fun h => by cases h), fun ⟨t, h⟩ => by simp at h⟩
  · have h0' : x = t ++ [b] := by simpa using h0
    by_cases hb : b = c
    · subst hb
      refine ⟨fun _ => ⟨t, h0'⟩, fun _ => ?_⟩
      rw [h0']; unfold Lib.hasSuffix List.isSuffixOf; simp [List.isPrefixOf]
    · rw [suffix_no (fun b' t' h => by
        rw [h0'] at h
        have := (List.append_inj' h rfl).2
        simp at this
        rw [← this]; exact hb)]
      refine ⟨(fun h => by cases h), fun ⟨t', h⟩ => ?_⟩
      rw [h0'] at h
      have := (List.append_inj' h rfl).2
      simp at this
      exact absurd this hb
/-- Where what is trimmed stands. -/
theorem index_trim (l : List UInt8) : ∃ p q, l = p ++ trim l ++ q ∧ (∀ b ∈ p, b = bl) ∧ (∀ b ∈ q, b = bl) ∧ Lib.index l (trim l) = (p.length : Int) := by
  obtain ⟨p, q, h, hp, hq⟩ := trim_split l
  cases hx : trim l with
  | nil =>
    rw [hx] at h
    refine ⟨[], l, by simp, by simp, ?_, ?_⟩
    · intro b hb
      rw [h] at hb
      simp only [List.append_nil, List.mem_append] at hb
      rcases hb with hb | hb
      · exact hp b hb
      · exact hq b hb
    · exact Lib.index_first (Nat.zero_le _) (by rw [Lib.occAt_iff_take _ _ _ (by simp)]; simp) (fun j hj => absurd hj (Nat.not_lt_zero _))
  | cons b t =>
    refine ⟨p, q, by rw [← hx]; exact h, hp, hq, ?_⟩
    have hl := congrArg List.length h
    simp only [List.length_append] at hl
    rw [hx] at hl h
    refine Lib.index_first (by omega) ?_ (fun j hj => ?_)
    · rw [Lib.occAt_iff_take _ _ _ (by omega)]
      rw [h, List.append_assoc, List.drop_left, List.take_left]
      simp
    · cases ho : Lib.occAt l (b :: t) j with
      | false => rfl
      | true =>
        have h1 := Lib.occAt_head rfl ho
        rw [h, List.append_assoc, List.getElem?_append_left hj, List.getElem?_eq_getElem hj] at h1
        have h2 : p[j] = b := Option.some.inj h1
        have h3 := hp p[j] (by simp)
        rw [h2] at h3
        exact absurd h3 (trim_head hx)
theorem trims_true (s : ByteArray) (hs : s.size ≤ 9223372036854775807) : formelaw06_TextTrims s = some true := by
  obtain ⟨l, rfl⟩ := as_list s
  unfold formelaw06_TextTrims
  rw [sz] at hs
  rw [head_true, some_bind, refValid_mk l hs, some_bind]
  cases h : okS l
  · rfl
  · obtain ⟨h1, h2⟩ := okS_all h
    obtain ⟨p, q, hl, hp, hq, hi⟩ := index_trim l
    have hlen := congrArg List.length hl
    simp only [List.length_append] at hlen
    have e1 : strings_HasPrefix ⟨(trim l).toArray⟩ (⟨#[32]⟩ : ByteArray) = some false := by
      unfold strings_HasPrefix
      rw [if_pos (by rw [sz]; omega)]
      exact congrArg some (prefix_no fun b t e => trim_head e)
    have e2 : strings_HasSuffix ⟨(trim l).toArray⟩ (⟨#[32]⟩ : ByteArray) = some false := by
      unfold strings_HasSuffix
      rw [if_pos (by rw [sz]; omega)]
      exact congrArg some (suffix_no fun b t e => trim_last e)
    have e3 : strings_Index ⟨l.toArray⟩ ⟨(trim l).toArray⟩ = some (p.length : Int) := by
      unfold strings_Index
      rw [if_pos (by rw [sz]; omega)]
      exact congrArg some hi
    have e4 : strings_Count (sub ⟨l.toArray⟩ ((0 : Nat) : Int) (p.length : Int)) (⟨#[32]⟩ : ByteArray) = some (p.length : Int) := by
      rw [sub_data]
      have : List.take (p.length - 0) (List.drop 0 l) = p := by
        rw [hl]; simp
      simp only [this]
      show some _ = some _
      congr 1
      exact congrArg Int.ofNat (count_blanks p hp)
    have e5 : strings_Count (sub ⟨l.toArray⟩ ((p.length + (trim l).length : Nat) : Int) ((l.length : Nat) : Int)) (⟨#[32]⟩ : ByteArray) = some (q.length : Int) := by
      rw [sub_data]
      have : List.take (l.length - (p.length + (trim l).length)) (List.drop (p.length + (trim l).length) l) = q := by
        have e : List.drop (p.length + (trim l).length) l = q := by
          have : List.drop (p ++ trim l).length (p ++ trim l ++ q) = q := List.drop_left
          rw [← hl, List.length_append] at this
          exact this
        rw [e]
        exact List.take_of_length_le (by omega)
      simp only [this]
      show some _ = some _
      congr 1
      exact congrArg Int.ofNat (count_blanks q hq)
    rw [if_neg (by simp), trim_mk h, some_bind]
    simp only []
    rw [trim_mk (okS_trim h), some_bind]
    simp only []
    rw [words_mk h, some_bind]
    simp only []
    rw [words_mk (okS_trim h), some_bind, wc_trim, trim_trim, e1, e2, e3, sz, sz]
    simp only [some_bind]
    rw [w64_id (n := (p.length : Int) + ((trim l).length : Int)) (by omega) (by omega), w64_id (n := (l.length : Int) - (p.length : Int)) (by omega) (by omega), w64_id (by omega) (by omega)]
    rw [show (p.length : Int) + ((trim l).length : Int) = ((p.length + (trim l).length : Nat) : Int) by omega, e5]
    rw [show sub ⟨l.toArray⟩ 0 (p.length : Int) = sub ⟨l.toArray⟩ ((0 : Nat) : Int) (p.length : Int) from rfl, e4]
    have f1 : (0 : Int) ≤ (p.length : Int) ∧ (p.length : Int) ≤ (l.length : Int) := by omega
    have f2 : (0 : Int) ≤ ((p.length + (trim l).length : Nat) : Int) ∧ ((p.length + (trim l).length : Nat) : Int) ≤ (l.length : Int) := by omega
    have f3 : (q.length : Int) = (l.length : Int) - (p.length : Int) - ((trim l).length : Int) := by omega
    rw [if_pos f1, if_pos f2]
    simp only [some_bind, f3]
    simp

/-! ### classes -/
theorem classes_loop (l : List UInt8) (hs : l.length ≤ 1000000) : ∀ (n i : Nat) (v : Bool), l.length - i = n → i ≤ l.length → formelaw06_TextClasses_l37 ⟨l.toArray⟩ v (i : Int) = some (v && (l.drop i).all ok) := by
  intro n
  induction n with
  | zero =>
    intro i v hn hi
    have : i = l.length := by omega
    subst this
    rw [formelaw06_TextClasses_l37, sz, if_neg (by omega), List.drop_length]
    simp
  | succ n ih =>
    intro i v hn hi
    have hlt : i < l.length := by omega
    have hc : ∀ a, 0 ≤ cl a := fun a => by
      unfold cl
      repeat' split
      all_goals omega
    rw [formelaw06_TextClasses_l37, sz, if_pos (by omega), bt_mk l hlt, class_eq, some_bind, w64_id (by omega) (by omega), add1, List.drop_eq_getElem_cons hlt, List.all_cons]
    have e : decide (0 < cl ((l[i]).toNat : Int)) = ok l[i] := by
      unfold ok
      rw [decide_eq_decide]
      have := hc ((l[i]).toNat : Int)
      omega
    rw [e]
    cases v
    · rw [if_neg (by simp), some_bind, ih (i + 1) _ (by omega) (by omega)]
      simp
    · rw [if_pos rfl, if_pos (by omega), some_bind, ih (i + 1) _ (by omega) (by omega)]
      simp
theorem shown_append (a b : List UInt8) : shown (a ++ b) = shown a ++ shown b := by simp [shown]
theorem shown_blanks {q : List UInt8} (h : ∀ b ∈ q, b = bl) : shown q = q := by
  unfold shown
  rw [List.filter_eq_self]
  intro b hb
  have := bl_iff.1 (h b hb)
  simp [this]
theorem trim_shown {l : List UInt8} (h1 : Lib.hasPrefix (trim l) [126] = false) (h2 : Lib.hasSuffix (trim l) [126] = false) : trim (shown l) = shown (trim l) := by
  obtain ⟨p, q, hl, hp, hq⟩ := trim_split l
  conv => lhs; rw [hl]
  rw [shown_append, shown_append, shown_blanks hp, shown_blanks hq]
  refine trim_of hp hq ?_ ?_
  · intro b t h
    cases hx : trim l with
    | nil => rw [hx] at h; simp [shown] at h
    | cons c u =>
      have hc : c.toNat ≠ 126 := fun e => by
        have : Lib.hasPrefix (trim l) [126] = true := prefix_iff.2 ⟨u, by rw [hx, show c = 126 from UInt8.toNat_inj.1 (by rw [e]; rfl)]⟩
        rw [h1] at this; cases this
      rw [hx, shown_cons, if_neg hc] at h
      cases h
      exact trim_head hx
  · intro b t h
    rcases List.eq_nil_or_concat (trim l) with hx | ⟨u, c, hx⟩
    · rw [hx] at h; simp [shown] at h
    · have hx' : trim l = u ++ [c] := by simpa using hx
      have hc : c.toNat ≠ 126 := fun e => by
        have : Lib.hasSuffix (trim l) [126] = true := suffix_iff.2 ⟨u, by rw [hx', show c = 126 from UInt8.toNat_inj.1 (by rw [e]; rfl)]⟩
        rw [h2] at this; cases this
      have e : shown [c] = [c] := by simp [shown, hc]
      rw [hx', shown_append, e] at h
      have := (List.append_inj' h rfl).2
      simp only [List.cons.injEq, and_true] at this
      rw [← this]
      exact trim_last hx'
theorem classes_true (s : ByteArray) : formelaw06_TextClasses s = some true := by
  obtain ⟨l, rfl⟩ := as_list s
  unfold formelaw06_TextClasses
  rw [head_true, some_bind, sz]
  split
  · rfl
  · have hs : l.length ≤ 1000000 := by omega
    have e0 : formelaw06_TextClasses_l37 ⟨l.toArray⟩ (decide ((l.length : Int) ≤ 2000)) 0 = some (okS l) := by
      have := classes_loop l hs _ 0 (decide ((l.length : Int) ≤ 2000)) rfl (Nat.zero_le _)
      rw [show (0 : Int) = ((0 : Nat) : Int) from rfl, this, List.drop_zero]
      unfold okS
      rw [Bool.and_comm]
      congr 2
      rw [decide_eq_decide]; omega
    rw [e0, some_bind, valid_mk, some_bind, if_neg (by simp)]
    cases h : okS l
    · simp
    · have e1 : strings_HasPrefix ⟨l.toArray⟩ (⟨#[126]⟩ : ByteArray) = some (Lib.hasPrefix l [126]) := by
        unfold strings_HasPrefix; rw [if_pos (by rw [sz]; omega)]
      have e2 : strings_HasSuffix ⟨l.toArray⟩ (⟨#[126]⟩ : ByteArray) = some (Lib.hasSuffix l [126]) := by
        unfold strings_HasSuffix; rw [if_pos (by rw [sz]; omega)]
      rw [e1, e2]
      simp only [Bool.not_true, Bool.false_eq_true, if_false, some_bind]
      cases Lib.hasPrefix l [126]
      · cases Lib.hasSuffix l [126]
        · have hl := trim_len l
          have e3 : strings_HasPrefix ⟨(trim l).toArray⟩ (⟨#[126]⟩ : ByteArray) = some (Lib.hasPrefix (trim l) [126]) := by
            unfold strings_HasPrefix; rw [if_pos (by rw [sz]; omega)]
          have e4 : strings_HasSuffix ⟨(trim l).toArray⟩ (⟨#[126]⟩ : ByteArray) = some (Lib.hasSuffix (trim l) [126]) := by
            unfold strings_HasSuffix; rw [if_pos (by rw [sz]; omega)]
          simp only [Bool.false_eq_true, if_false, some_bind]
          rw [shown_mk h, some_bind]
          simp only []
          rw [trim_mk (okS_shown h), some_bind]
          simp only []
          rw [trim_mk h, some_bind]
          simp only []
          rw [shown_mk (okS_trim h), some_bind, e3, e4]
          cases k1 : Lib.hasPrefix (trim l) [126]
          · cases k2 : Lib.hasSuffix (trim l) [126]
            · rw [trim_shown k1 k2]; simp
            · by_cases he : trim (shown l) = shown (trim l) <;> simp [he]
          · by_cases he : trim (shown l) = shown (trim l) <;> simp [he]
        · simp
      · simp
end Go.Proofs.YtpefcdchjokggaaDoor.LG
