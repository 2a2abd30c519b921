/-
  The laws of package text, over what its functions compute. Plain Lean; no program in sight.
-/
import Derived.Test.YtpefcdchjokggaaDoorPm
set_option linter.unusedVariables false
set_option linter.unusedSimpArgs false
namespace Go.Proofs.YtpefcdchjokggaaDoor.LG
open Go Go.LG Go.Lib

theorem head_true : formelaw06_head = some true := by
  have e1 : text_Shown (⟨#[97, 98, 126, 99, 100, 32, 101]⟩ : ByteArray) = some (⟨#[97, 98, 99, 100, 32, 101]⟩, 0) := shown_mk (l := [97, 98, 126, 99, 100, 32, 101]) (by decide)
  have e2 : text_Words (⟨#[97, 98, 126, 99, 100, 32, 101]⟩ : ByteArray) = some (2, 0) := words_mk (l := [97, 98, 126, 99, 100, 32, 101]) (by decide)
  have e3 : text_Trim (⟨#[32, 120, 32, 32]⟩ : ByteArray) = some (⟨#[120]⟩, 0) := trim_mk (l := [32, 120, 32, 32]) (by decide)
  have e4 : text_Words (⟨#[32, 120, 32, 32]⟩ : ByteArray) = some (1, 0) := words_mk (l := [32, 120, 32, 32]) (by decide)
  have e5 : text_Words (⟨#[126, 32, 126]⟩ : ByteArray) = some (0, 0) := words_mk (l := [126, 32, 126]) (by decide)
  have e6 : text_Shown (⟨#[126, 32, 126]⟩ : ByteArray) = some (⟨#[32]⟩, 0) := shown_mk (l := [126, 32, 126]) (by decide)
  have e7 : text_Shown (⟨#[97, 10]⟩ : ByteArray) = some (⟨#[]⟩, 1) := shown_no (l := [97, 10]) (by decide)
  unfold formelaw06_head
  rw [e1, e2, e3, e4, e5, e6, e7]
  simp only [class_eq, some_bind]
  decide
theorem as_list (s : ByteArray) : ∃ l : List UInt8, s = ⟨l.toArray⟩ := ⟨s.data.toList, (Lib.mk_data s).symm⟩

theorem matches_true (s : ByteArray) (b : Int) : formelaw06_TextMatchesReference s b = some true := by
  obtain ⟨l, rfl⟩ := as_list s
  unfold formelaw06_TextMatchesReference
  rw [head_true, some_bind, sz]
  split
  · rfl
  · have hs : l.length ≤ 1000000 := by omega
    rw [refShown_eq hs, refWords_eq hs, refTrim_eq hs, refValid_mk l (by omega), valid_mk, class_eq, refClass_eq]
    obtain ⟨⟨x1, x2⟩, e1⟩ : ∃ x, text_Shown ⟨l.toArray⟩ = some x := by
      cases h : okS l
      · exact ⟨_, shown_no h⟩
      · exact ⟨_, shown_mk h⟩
    obtain ⟨⟨y1, y2⟩, e2⟩ : ∃ x, text_Words ⟨l.toArray⟩ = some x := by
      cases h : okS l
      · exact ⟨_, words_no h⟩
      · exact ⟨_, words_mk h⟩
    obtain ⟨⟨z1, z2⟩, e3⟩ : ∃ x, text_Trim ⟨l.toArray⟩ = some x := by
      cases h : okS l
      · exact ⟨_, trim_no h⟩
      · exact ⟨_, trim_mk h⟩
    simp [e1, e2, e3]

/-! ### shown -/
theorem okS_shown {l : List UInt8} (h : okS l = true) : okS (shown l) = true := by
  obtain ⟨h1, h2⟩ := okS_all h
  exact okS_of (fun b hb => h1 b (shown_mem hb).1) (by have := shown_len l; omega)
theorem shown_shown (l : List UInt8) : shown (shown l) = shown l := by
  unfold shown
  rw [List.filter_filter]
  simp
theorem count_shown : ∀ l : List UInt8, (shown l).length + l.count 126 = l.length
  | [] => rfl
  | b :: l => by
    have ih := count_shown l
    rw [shown_cons, List.count_cons, List.length_cons]
    by_cases h : b.toNat = 126
    · have : b = 126 := UInt8.toNat_inj.1 (by rw [h]; rfl)
      rw [if_pos h, this]; simp; omega
    · have : ¬ b = 126 := fun e => h (by rw [e]; rfl)
      rw [if_neg h]; simp [this]; omega
theorem indexByte_none : ∀ (l : List UInt8) (c : UInt8), c ∉ l → Lib.indexByte l c = -1
  | [], _, _ => rfl
  | b :: l, c, h => by
    have h1 : ¬ b = c := fun e => h (by simp [e])
    have h2 := indexByte_none l c (fun hc => h (by simp [hc]))
    simp [Lib.indexByte, h1, h2]
theorem shown_true (s : ByteArray) (hs : s.size ≤ 9223372036854775807) : formelaw06_TextShown s = some true := by
  obtain ⟨l, rfl⟩ := as_list s
  unfold formelaw06_TextShown
  rw [sz] at hs
  rw [head_true, some_bind, refValid_mk l hs, some_bind]
  cases h : okS l
  · rfl
  · obtain ⟨h1, h2⟩ := okS_all h
    have hl := shown_len l
    have hc := count_shown l
    have e3 : strings_Contains ⟨(shown l).toArray⟩ (⟨#[126]⟩ : ByteArray) = some false := by
      unfold strings_Contains
      simp only [indexByte_none (shown l) 126 (fun hm => (shown_mem hm).2 rfl)]
      rfl
    have e4 : strings_Count ⟨l.toArray⟩ (⟨#[126]⟩ : ByteArray) = some ((l.count 126 : Nat) : Int) := rfl
    rw [if_neg (by simp), shown_mk h, some_bind]
    simp only []
    rw [shown_mk (okS_shown h), some_bind, shown_shown, valid_mk, e3, e4, okS_shown h, sz, sz]
    simp only [some_bind]
    rw [w64_id (by omega) (by omega)]
    have : ((shown l).length : Int) + ((l.count 126 : Nat) : Int) = (l.length : Int) := by omega
    simp [this]

/-! ### words -/
theorem wc_true (l : List UInt8) : ∀ o, wc o l ≤ wc false l ∧ wc false l ≤ wc o l + 1 := by
  induction l with
  | nil => intro o; simp [wc]
  | cons b l ih =>
    intro o
    simp only [wc]
    split
    · exact ih o
    · split
      · omega
      · cases o <;> simp
        omega
theorem wc_half : ∀ (l : List UInt8), 2 * wc false l ≤ l.length + 1 ∧ 2 * wc true l ≤ l.length
  | [] => by simp [wc]
  | b :: l => by
    have ih := wc_half l
    simp only [wc, List.length_cons]
    split
    · omega
    · split
      · omega
      · simp; omega
theorem wc_pos : ∀ (l : List UInt8), (∀ b ∈ l, b.toNat ≠ 126) → (0 < wc false l ↔ l.count 32 < l.length)
  | [], _ => by simp [wc]
  | b :: l, h => by
    have h6 : ¬ b.toNat = 126 := h b (by simp)
    have ih := wc_pos l fun c hc => h c (by simp [hc])
    have hc : l.count 32 ≤ l.length := List.count_le_length
    simp only [wc, if_neg h6, List.count_cons, List.length_cons]
    by_cases h4 : b.toNat = 32
    · have : b = 32 := UInt8.toNat_inj.1 (by rw [h4]; rfl)
      rw [if_pos h4, ih, this]; simp
    · have : ¬ b = 32 := fun e => h4 (by rw [e]; rfl)
      rw [if_neg h4]; simp [this]; omega
theorem words_true (s : ByteArray) (hs : s.size ≤ 9223372036854775807) : formelaw06_TextWords s = some true := by
  obtain ⟨l, rfl⟩ := as_list s
  unfold formelaw06_TextWords
  rw [sz] at hs
  rw [head_true, some_bind, refValid_mk l hs, some_bind]
  cases h : okS l
  · rfl
  · obtain ⟨h1, h2⟩ := okS_all h
    have hl := shown_len l
    have hw := wc_half (shown l)
    have hp := wc_pos (shown l) fun b hb => (shown_mem hb).2
    rw [wc_shown] at hw hp
    have e4 : strings_Count ⟨(shown l).toArray⟩ (⟨#[32]⟩ : ByteArray) = some (((shown l).count 32 : Nat) : Int) := rfl
    rw [if_neg (by simp), shown_mk h, some_bind]
    simp only []
    rw [words_mk h, some_bind]
    simp only []
    rw [words_mk (okS_shown h), some_bind, wc_shown, e4, sz]
    simp only [some_bind]
    rw [w64_id (by omega) (by omega), w64_id (by omega) (by omega)]
    have e5 : decide ((0 : Int) < (wc false l : Int)) = decide ((((shown l).count 32 : Nat) : Int) < ((shown l).length : Int)) := by
      rw [decide_eq_decide]; omega
    have e6 : (2 * (wc false l : Int) ≤ ((shown l).length : Int) + 1) := by omega
    simp only [e5, e6]
    simp

/-! ### parts -/
/-- Is a word open at the end? -/
def st : Bool → List UInt8 → Bool
  | o, [] => o
  | o, b :: l => if b.toNat = 126 then st o l else if b.toNat = 32 then st false l else st true l
theorem wc_append : ∀ (a b : List UInt8) (o : Bool), wc o (a ++ b) = wc o a + wc (st o a) b
  | [], b, o => by simp [wc, st]
  | c :: a, b, o => by
    simp only [List.cons_append, wc, st]
    split
    · exact wc_append a b o
    · split
      · exact wc_append a b false
      · rw [wc_append a b true]; omega
theorem st_pos : ∀ (a : List UInt8) (o : Bool), st o a = true → o = true ∨ 0 < wc o a
  | [], o, h => .inl h
  | c :: a, o, h => by
    simp only [st, wc] at h ⊢
    split at h
    · rw [if_pos (by assumption)]; exact st_pos a o h
    · rw [if_neg (by assumption)]
      split at h
      · rw [if_pos (by assumption)]
        rcases st_pos a false h with hf | hp
        · cases hf
        · exact .inr hp
      · rw [if_neg (by assumption)]
        cases o <;> simp
        omega
theorem parts_true (s t : ByteArray) (hs : s.size ≤ 9223372036854775807) (ht : t.size ≤ 9223372036854775807) : formelaw06_TextParts s t = some true := by
  obtain ⟨a, rfl⟩ := as_list s
  obtain ⟨b, rfl⟩ := as_list t
  unfold formelaw06_TextParts
  rw [sz] at hs ht
  rw [head_true, some_bind, refValid_mk a hs, some_bind, refValid_mk b ht, sz, sz]
  cases h : okS a
  · simp
  cases k : okS b
  · simp
  by_cases h9 : 900 < (a.length : Int)
  · simp [h9]
  by_cases k9 : 900 < (b.length : Int)
  · simp [h9, k9]
  obtain ⟨h1, h2⟩ := okS_all h
  obtain ⟨k1, k2⟩ := okS_all k
  have cat : ∀ x y : List UInt8, ((⟨x.toArray⟩ : ByteArray) ++ (⟨y.toArray⟩ : ByteArray)) = ⟨(x ++ y).toArray⟩ := fun x y => by
    apply ByteArray.ext
    simp
  have okp : okS (a ++ [32] ++ b) = true := okS_of (fun c hc => by
    simp only [List.mem_append, List.mem_singleton] at hc
    rcases hc with (hc | hc) | hc
    · exact h1 c hc
    · subst hc; decide
    · exact k1 c hc) (by simp; omega)
  have okq : okS (a ++ b) = true := okS_of (fun c hc => by
    simp only [List.mem_append] at hc
    rcases hc with hc | hc
    · exact h1 c hc
    · exact k1 c hc) (by simp; omega)
  have ep : wc false (a ++ [32] ++ b) = wc false a + wc false b := by
    rw [wc_append, wc_append]
    have : st false (a ++ [32]) = false := by
      have : ∀ (x : List UInt8) (o : Bool), st o (x ++ [32]) = false := by
        intro x
        induction x with
        | nil => intro o; rfl
        | cons c x ih => intro o; simp only [List.cons_append, st, ih]; simp
      exact this a false
    rw [this]
    have : wc (st false a) [32] = 0 := rfl
    omega
  have eq : wc false (a ++ b) = wc false a + wc (st false a) b := wc_append a b false
  have la := wc_le false a
  have lb := wc_le false b
  have key : wc false (a ++ b) = wc false a + wc false b ∨ (wc false (a ++ b) + 1 = wc false a + wc false b ∧ 0 < wc false a ∧ 0 < wc false b) := by
    cases hst : st false a
    · rw [hst] at eq; exact .inl eq
    · rw [hst] at eq
      have := wc_true b true
      rcases st_pos a false hst with hf | hp
      · cases hf
      · omega
  rw [show (⟨#[32]⟩ : ByteArray) = ⟨[(32 : UInt8)].toArray⟩ from rfl, cat, cat, cat, words_mk h, words_mk k, words_mk okp, words_mk okq, ep]
  try rw [sz]
  try rw [sz]
  try rw [sz]
  simp only [some_bind]
  rw [w64_id (by omega) (by omega), w64_id (by omega) (by omega)]
  generalize wc false (a ++ b) = q at key ⊢
  generalize wc false a = m at la key ⊢
  generalize wc false b = n at lb key ⊢
  have s1 : a.length + [(32 : UInt8)].length ≤ 9223372036854775807 := by simp; omega
  have s2 : (a ++ [(32 : UInt8)]).length + b.length ≤ 9223372036854775807 := by simp; omega
  have s3 : a.length + b.length ≤ 9223372036854775807 := by omega
  rcases key with key | ⟨key, kp, kn⟩
  · simp [h9, k9, s1, s2, s3, key]
    omega
  · have e1 : ¬ ((q : Int) = (m : Int) + (n : Int)) := by omega
    have e2 : (q : Int) = (m : Int) + (n : Int) - 1 := by omega
    simp [h9, k9, s1, s2, s3, e1, e2, kp, kn]
    omega
end Go.Proofs.YtpefcdchjokggaaDoor.LG
