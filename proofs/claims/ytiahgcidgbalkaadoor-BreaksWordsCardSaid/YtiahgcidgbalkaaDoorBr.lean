/-
  What the places and parts of a text are like; BreaksPlaces, BreaksKeeps, BreaksJoins, BreaksWords: the plain laws. Plain Lean; no program in sight.
-/
import Derived.Test.YtiahgcidgbalkaaDoorBq
set_option linter.unusedVariables false
set_option linter.unusedSimpArgs false
set_option maxRecDepth 100000
namespace Go.Proofs.YtiahgcidgbalkaaDoor.LG
open Go Go.LG Go.Lib

/-! ### 1. What may be used -/
theorem refvalid_any (b : api_Breaks) : formeref08_Valid b = some (vb b) := by
  by_cases h : b.Keep.length ≤ 1000000
  · exact refvalid8 b h
  · have h1 : (20 : Int) < (b.Keep.length : Int) := by omega
    have h2 : vb b = false := by
      cases hv : vb b
      · rfl
      · have := (vb_open hv).2.2.2.2.1; omega
    rw [h2]
    unfold formeref08_Valid
    by_cases c1 : b.Before < 1 <;> by_cases c2 : 5 < b.Before <;> by_cases c3 : b.Behind < 1 <;> by_cases c4 : 5 < b.Behind <;> simp [c1, c2, c3, c4, h1]
theorem usable_mk (b : api_Breaks) (l : List UInt8) (hl : l.length ≤ 9223372036854775807) : formelaw08_usable b ⟨l.toArray⟩ = some (decide (l.length ≤ 300) && (vb b && okS l)) := by
  unfold formelaw08_usable
  rw [sz, refvalid_any, refValid_mk l hl]
  by_cases h : l.length ≤ 300
  · have h' : (l.length : Int) ≤ 300 := by omega
    cases vb b <;> cases okS l <;> simp [h, h']
  · have h' : ¬ (l.length : Int) ≤ 300 := by omega
    simp [h, h']
theorem use_open {b : api_Breaks} {l : List UInt8} (h : (decide (l.length ≤ 300) && (vb b && okS l)) = true) : l.length ≤ 300 ∧ vb b = true ∧ okS l = true ∧ b.Keep.length ≤ 1000000 := by
  simp only [Bool.and_eq_true, decide_eq_true_eq] at h
  have := (vb_open h.2.1).2.2.2.2.1
  exact ⟨h.1, h.2.1, h.2.2, by omega⟩

/-! ### 2. All places -/
/-- Exactly the places between two bytes. -/
def Al (f : Nat → Option Bool) : Nat → List (Nat × Bool) → Nat → Prop
  | a, [], e => a ≤ e ∧ ∀ j, a < j → j < e → f j = none
  | a, x :: xs, e => a < x.1 ∧ x.1 < e ∧ f x.1 = some x.2 ∧ (∀ j, a < j → j < x.1 → f j = none) ∧ Al f x.1 xs e
theorem pls_al (f : Nat → Option Bool) : ∀ (n a a0 : Nat), a0 < a → (∀ j, a0 < j → j < a → f j = none) → Al f a0 (pls f a n) (a + n)
  | 0, a, a0, h, hj => ⟨by omega, hj⟩
  | n + 1, a, a0, h, hj => by
    simp only [pls]
    cases hf : f a with
    | none =>
      simp only
      have := pls_al f n (a + 1) a0 (by omega) (fun j h1 h2 => by
        by_cases e : j = a
        · rw [e, hf]
        · exact hj j h1 (by omega))
      rwa [show a + 1 + n = a + (n + 1) by omega] at this
    | some v =>
      simp only
      have := pls_al f n (a + 1) a (by omega) (fun j h1 h2 => by omega)
      rw [show a + 1 + n = a + (n + 1) by omega] at this
      exact ⟨h, by show a < a + (n + 1); omega, hf, hj, this⟩
theorem LP_al (b : api_Breaks) (l : List UInt8) : Al (plc b l) 0 (LP b l) l.length := by
  unfold LP
  by_cases h : l.length = 0
  · rw [h]; exact ⟨Nat.le_refl _, fun j h1 h2 => by omega⟩
  · have := pls_al (plc b l) (l.length - 1) 1 0 (by omega) (fun j h1 h2 => by omega)
    rwa [show 1 + (l.length - 1) = l.length by omega] at this
theorem soI_blank : soI 32 = false := by decide
theorem mo_blank {c : UInt8} (h : c.toNat = 32) : mo c = false := by
  unfold mo
  rw [h]
  decide
theorem run_head {x : List UInt8} (h : run x ≠ []) : ∃ c xs, x = c :: xs ∧ mo c = true := by
  cases x with
  | nil => exact absurd rfl h
  | cons c xs =>
    refine ⟨c, xs, rfl, ?_⟩
    cases hm : mo c
    · rw [run_cons, hm] at h; simp at h
    · rfl
theorem getD_of {l : List UInt8} {i : Nat} (h : i < l.length) : l.getD i 0 = l[i] := by
  rw [List.getD_eq_getElem?_getD, List.getElem?_eq_getElem h]; rfl
/-- What lies around a place. -/
theorem plc_some {b : api_Breaks} {l : List UInt8} (hv : vb b = true) {a : Nat} {h : Bool} (hl : a < l.length) (hp : plc b l a = some h) :
    ((l.getD (a - 1) 0).toNat = 32 ∧ h = false ∨ (l.getD (a - 1) 0).toNat = 45 ∧ h = false ∨ (l.getD (a - 1) 0).toNat = 126 ∧ h = true ∧ soP b l a = true) ∧ (l.getD a 0).toNat ≠ 32 := by
  unfold plc at hp
  by_cases c1 : (l.getD (a - 1) 0).toNat = 32
  · rw [if_pos c1] at hp
    by_cases d : nb (l.take a) = true ∧ (l.getD a 0).toNat ≠ 32
    · rw [if_pos d] at hp; cases hp
      exact ⟨.inl ⟨c1, rfl⟩, d.2⟩
    · rw [if_neg d] at hp; cases hp
  · rw [if_neg c1] at hp
    by_cases c2 : (l.getD (a - 1) 0).toNat = 45
    · rw [if_pos c2] at hp
      by_cases d : 2 ≤ a ∧ soI ((l.getD (a - 2) 0).toNat : Int) = true ∧ soI ((l.getD a 0).toNat : Int) = true
      · rw [if_pos d] at hp; cases hp
        refine ⟨.inr (.inl ⟨c2, rfl⟩), fun e => ?_⟩
        have := d.2.2
        rw [e] at this
        exact absurd this (by rw [show ((32 : Nat) : Int) = 32 from rfl, soI_blank]; simp)
      · rw [if_neg d] at hp; cases hp
    · rw [if_neg c2] at hp
      by_cases c3 : (l.getD (a - 1) 0).toNat = 126
      · rw [if_pos c3] at hp
        by_cases d : soP b l a = true
        · rw [if_pos d] at hp; cases hp
          refine ⟨.inr (.inr ⟨c3, rfl, d⟩), fun e => ?_⟩
          unfold soP at d
          simp only [Bool.and_eq_true, decide_eq_true_eq] at d
          have h2 := d.1.2
          have h1 := (vb_open hv).2.2.1
          have hne : fwd l a ≠ [] := by
            intro e; rw [e] at h2; simp at h2; omega
          obtain ⟨c, xs, hc, hm⟩ := run_head hne
          rw [List.drop_eq_getElem_cons hl] at hc
          have hc' : l[a] = c := (List.cons.inj hc).1
          rw [getD_of hl, hc'] at e
          rw [mo_blank e] at hm
          cases hm
        · rw [if_neg d] at hp; cases hp
      · rw [if_neg c3] at hp; cases hp

/-! ### 3. BreaksPlaces -/
theorem places_law_loop (b : api_Breaks) (l : List UInt8) (hv : vb b = true) (hs : l.length ≤ 300) (ys : List (Nat × Bool)) (hy : ys.length ≤ 1000000) : ∀ (xs pre : List (Nat × Bool)) (last : Nat), ys = pre ++ xs → Al (plc b l) last xs l.length →
    formelaw08_BreaksPlaces_l68 ⟨l.toArray⟩ (ys.map brk) (last : Int) (pre.length : Int) = some (.inr ())
  | [], pre, last, he, hA => by
    have hl : (ys.map brk).length = pre.length := by rw [he]; simp
    rw [formelaw08_BreaksPlaces_l68, hl, if_neg (by omega)]
  | x :: xs, pre, last, he, hA => by
    obtain ⟨h1, h2, h3, _, h5⟩ := hA
    have hl : (ys.map brk).length = pre.length + (xs.length + 1) := by rw [he]; simp
    have hpl : pre.length + (xs.length + 1) ≤ 1000000 := by rw [he] at hy; simpa using hy
    have hg : (ys.map brk).getD (Int.toNat (pre.length : Int)) z_api_Break = brk x := by
      rw [he, List.map_append, List.map_cons, show (pre.length : Int) = ((pre.map brk).length : Int) by simp, getD_pre]
    have ih := places_law_loop b l hv hs ys hy xs (pre ++ [x]) x.1 (by rw [he]; simp) h5
    rw [show ((pre ++ [x]).length : Int) = (pre.length : Int) + 1 by simp] at ih
    obtain ⟨hc, hd⟩ := plc_some hv h2 h3
    have e1 : w64 ((x.1 : Int) - 1) = ((x.1 - 1 : Nat) : Int) := by rw [w64_id (by omega) (by omega)]; omega
    have hA : (brk x).At = (x.1 : Int) := rfl
    have hH : (brk x).Hyphen = x.2 := rfl
    rw [formelaw08_BreaksPlaces_l68, hl, if_pos (by omega), if_pos (by omega), hg]
    generalize brk x = y at hA hH ⊢
    rw [hA, hH, e1, w64_id (n := (pre.length : Int) + 1) (by omega) (by omega), ih, sz, if_neg (by omega), some_bind, bt_getD l (show x.1 - 1 < l.length by omega), bt_getD l h2]
    have n1 : ¬ ((l.length : Nat) : Int) ≤ (x.1 : Int) := by omega
    have n2 : (0 : Int) ≤ ((x.1 - 1 : Nat) : Int) ∧ ((x.1 - 1 : Nat) : Int) < ((l.length : Nat) : Int) := by omega
    have n3 : (0 : Int) ≤ (x.1 : Int) ∧ (x.1 : Int) < ((l.length : Nat) : Int) := by omega
    have n4 : (0 : Int) ≤ (pre.length : Int) ∧ (pre.length : Int) < ((pre.length + (xs.length + 1) : Nat) : Int) := by omega
    rw [if_neg (by simpa using n1), if_pos n2, if_pos n3, if_pos n4]
    generalize (l.getD (x.1 - 1) 0).toNat = c at *
    generalize (l.getD x.1 0).toNat = d at *
    have hd' : ¬ (d : Int) = 32 := by omega
    rcases hc with ⟨hc, hh⟩ | ⟨hc, hh⟩ | ⟨hc, hh, _⟩
    · simp [hc, hh, hd']
    · simp [hc, hh, hd']
    · simp [hc, hh, hd']
theorem places_true (b : api_Breaks) (s : ByteArray) (hs : s.size ≤ 9223372036854775807) : formelaw08_BreaksPlaces b s = some true := by
  obtain ⟨l, rfl⟩ := as_list s
  rw [sz] at hs
  unfold formelaw08_BreaksPlaces
  simp only [head_true, usable_mk b l hs, some_bind]
  cases hu : (decide (l.length ≤ 300) && (vb b && okS l))
  · rfl
  · obtain ⟨h1, h2, h3, h4⟩ := use_open hu
    have hv : (vb b && okS l) = true := by rw [h2, h3]; rfl
    have hLP := LP_len b l
    have := places_law_loop b l h2 h1 (LP b l) (by omega) (LP b l) [] 0 rfl (LP_al b l)
    rw [show ((0 : Nat) : Int) = 0 from rfl, show (([] : List (Nat × Bool)).length : Int) = 0 from rfl] at this
    simp only [list_mk b l h4, hv, if_true, some_bind, Bool.not_true, Bool.false_eq_true, if_false, this, decide_true]

/-! ### 4. Pieces -/
def solid (l : List UInt8) : List UInt8 := l.filter fun b => decide (b.toNat ≠ 32) && decide (b.toNat ≠ 126)
theorem solid_append (x y : List UInt8) : solid (x ++ y) = solid x ++ solid y := by simp [solid]
theorem solid_cons (c : UInt8) (x : List UInt8) : solid (c :: x) = (if c.toNat ≠ 32 ∧ c.toNat ≠ 126 then [c] else []) ++ solid x := by
  unfold solid
  by_cases c1 : c.toNat = 32
  · simp [c1]
  · by_cases c2 : c.toNat = 126
    · simp [c2]
    · simp [c1, c2]
theorem shown_append (a b : List UInt8) : shown (a ++ b) = shown a ++ shown b := by simp [shown]
theorem all_blank : ∀ (q : List UInt8), (∀ i c, (q[i]?).map (·.toNat) = some 32 → q[i + 1]? = some c → c.toNat = 32) → ∀ x xs, q = x :: xs → x.toNat = 32 → ∀ c ∈ q, c.toNat = 32
  | [], _, x, xs, h, _, c, hc => by cases hc
  | y :: q, ht, x, xs, h, hx, c, hc => by
    cases h
    rcases List.mem_cons.1 hc with rfl | hc
    · exact hx
    · cases q with
      | nil => cases hc
      | cons z q =>
        have hz := ht 0 z (by simp [hx]) rfl
        exact all_blank (z :: q) (fun i c h1 h2 => ht (i + 1) c (by simpa using h1) (by simpa using h2)) z q rfl hz c hc
theorem split2 : ∀ (q : List UInt8), (∀ i c, (q[i]?).map (·.toNat) = some 32 → q[i + 1]? = some c → c.toNat = 32) → ∃ S B, q = S ++ B ∧ (∀ c ∈ S, c.toNat ≠ 32) ∧ ∀ c ∈ B, c.toNat = 32
  | [], _ => ⟨[], [], rfl, (fun _ h => nomatch h), (fun _ h => nomatch h)⟩
  | x :: q, ht => by
    by_cases hx : x.toNat = 32
    · exact ⟨[], x :: q, rfl, (fun _ h => nomatch h), all_blank (x :: q) ht x q rfl hx⟩
    · obtain ⟨S, B, h1, h2, h3⟩ := split2 q (fun i c h1 h2 => ht (i + 1) c (by simpa using h1) (by simpa using h2))
      refine ⟨x :: S, B, by rw [h1]; rfl, fun c hc => ?_, h3⟩
      rcases List.mem_cons.1 hc with rfl | hc
      · exact hx
      · exact h2 c hc
theorem split3 : ∀ (p : List UInt8), (∀ i c, (p[i]?).map (·.toNat) = some 32 → p[i + 1]? = some c → c.toNat ≠ 32 → ∀ j, j ≤ i → (p[j]?).map (·.toNat) = some 32) →
    ∃ B1 S B2, p = B1 ++ (S ++ B2) ∧ (∀ c ∈ B1, c.toNat = 32) ∧ (∀ c ∈ S, c.toNat ≠ 32) ∧ (∀ c ∈ B2, c.toNat = 32) ∧ (S = [] → B2 = [])
  | [], _ => ⟨[], [], [], rfl, (fun _ h => nomatch h), (fun _ h => nomatch h), (fun _ h => nomatch h), fun _ => rfl⟩
  | x :: p, ht => by
    by_cases hx : x.toNat = 32
    · obtain ⟨B1, S, B2, h1, h2, h3, h4, h5⟩ := split3 p (fun i c h1 h2 h3 j hj => by
        have := ht (i + 1) c (by simpa using h1) (by simpa using h2) h3 (j + 1) (by omega)
        simpa using this)
      refine ⟨x :: B1, S, B2, by rw [h1]; rfl, fun c hc => ?_, h3, h4, h5⟩
      rcases List.mem_cons.1 hc with rfl | hc
      · exact hx
      · exact h2 c hc
    · obtain ⟨S, B, h1, h2, h3⟩ := split2 (x :: p) (fun i c h1 h2 => by
        by_cases hc : c.toNat = 32
        · exact hc
        · have := ht i c h1 h2 hc 0 (Nat.zero_le _)
          simp at this
          exact absurd this hx)
      refine ⟨[], S, B, h1, (fun _ h => nomatch h), h2, h3, fun hS => ?_⟩
      rw [hS] at h1
      have := h3 x (by rw [← List.nil_append B, ← h1]; simp)
      exact absurd this hx
def piece (l : List UInt8) (a e : Nat) : List UInt8 := (l.drop a).take (e - a)
theorem piece_get {l : List UInt8} {a e i : Nat} {c : UInt8} (h : (piece l a e)[i]? = some c) : a + i < e ∧ l[a + i]? = some c := by
  unfold piece at h
  rw [List.getElem?_take] at h
  split at h
  · rw [List.getElem?_drop] at h
    exact ⟨by omega, h⟩
  · cases h
theorem nb_false {l : List UInt8} (h : ¬ nb l = true) : ∀ c ∈ l, c.toNat = 32 := by
  intro c hc
  unfold nb at h
  rw [List.any_eq_true] at h
  by_cases e : c.toNat = 32
  · exact e
  · exact absurd ⟨c, hc, by simpa using e⟩ h
theorem piece_split (b : api_Breaks) (l : List UInt8) {a e : Nat} (hn : ∀ j, a < j → j < e → plc b l j = none) :
    ∃ B1 S B2, piece l a e = B1 ++ (S ++ B2) ∧ (∀ c ∈ B1, c.toNat = 32) ∧ (∀ c ∈ S, c.toNat ≠ 32) ∧ (∀ c ∈ B2, c.toNat = 32) ∧ (S = [] → B2 = []) := by
  refine split3 _ fun i c h1 h2 h3 j hj => ?_
  obtain ⟨d, hd, hd32⟩ := Option.map_eq_some_iff.1 h1
  obtain ⟨_, hd⟩ := piece_get hd
  obtain ⟨hlt, hc⟩ := piece_get h2
  have hp := hn (a + (i + 1)) (by omega) hlt
  unfold plc at hp
  have e1 : (l.getD (a + (i + 1) - 1) 0).toNat = 32 := by
    rw [show a + (i + 1) - 1 = a + i by omega, List.getD_eq_getElem?_getD, hd]; exact hd32
  have e2 : (l.getD (a + (i + 1)) 0).toNat ≠ 32 := by
    rw [List.getD_eq_getElem?_getD, hc]; exact h3
  rw [if_pos e1] at hp
  by_cases hnb : nb (l.take (a + (i + 1))) = true
  · rw [if_pos ⟨hnb, e2⟩] at hp; cases hp
  · have hall := nb_false hnb
    have hl : a + (i + 1) < l.length := (List.getElem?_eq_some_iff.1 hc).1
    have : (piece l a e)[j]? = some (l[a + j]'(by omega)) := by
      unfold piece
      rw [List.getElem?_take, if_pos (by omega), List.getElem?_drop, List.getElem?_eq_getElem (by omega)]
    rw [this]
    have hm : l[a + j]'(by omega) ∈ l.take (a + (i + 1)) := by
      rw [List.mem_take_iff_getElem]
      exact ⟨a + j, by omega, rfl⟩
    simp [hall _ hm]
theorem blanks_bl {q : List UInt8} (h : ∀ c ∈ q, c.toNat = 32) : ∀ c ∈ q, c = bl := fun c hc => bl_iff.2 (h c hc)
theorem tl_pre : ∀ (p x : List UInt8), (∀ b ∈ p, b = bl) → tl (p ++ x) = tl x
  | [], x, _ => rfl
  | b :: p, x, h => by rw [List.cons_append, tl_cons, if_pos (h b (by simp))]; exact tl_pre p x fun c hc => h c (by simp [hc])
theorem tr_post (x q : List UInt8) (h : ∀ b ∈ q, b = bl) : tr (x ++ q) = tr x := by
  unfold tr trimRightB
  rw [List.reverse_append]
  congr 1
  exact tl_pre q.reverse x.reverse fun c hc => h c (by simpa using hc)
theorem tl_none {x : List UInt8} (h : ∀ c ∈ x, c ≠ bl) : tl x = x := by
  cases x with
  | nil => rfl
  | cons b x => rw [tl_cons, if_neg (h b (by simp))]
theorem tr_none {x : List UInt8} (h : ∀ c ∈ x, c ≠ bl) : tr x = x := by
  have := tl_none (x := x.reverse) fun c hc => h c (by simpa using hc)
  unfold tr trimRightB
  unfold tl trimLeftB at this
  rw [this, List.reverse_reverse]
theorem trim_mid {p x q : List UInt8} (hp : ∀ b ∈ p, b = bl) (hq : ∀ b ∈ q, b = bl) (hx : ∀ b ∈ x, b ≠ bl) : trim (p ++ (x ++ q)) = x := by
  unfold trim
  rw [← List.append_assoc, tr_post _ _ hq, tl_tr, tl_pre _ _ hp, tl_none hx, tr_none hx]
theorem shown_blanks {q : List UInt8} (h : ∀ c ∈ q, c.toNat = 32) : shown q = q := by
  unfold shown
  rw [List.filter_eq_self]
  intro c hc
  simp [h c hc]
theorem solid_blanks {q : List UInt8} (h : ∀ c ∈ q, c.toNat = 32) : solid q = [] := by
  unfold solid
  rw [List.filter_eq_nil_iff]
  intro c hc
  simp [h c hc]
theorem solid_nonblank {q : List UInt8} (h : ∀ c ∈ q, c.toNat ≠ 32) : solid q = shown q := by
  unfold solid shown
  apply List.filter_congr
  intro c hc
  simp [h c hc]
/-- What is seen of a piece without places: its solid bytes. -/
theorem piece_clean (b : api_Breaks) (l : List UInt8) {a e : Nat} (hn : ∀ j, a < j → j < e → plc b l j = none) : trim (shown (piece l a e)) = solid (piece l a e) := by
  obtain ⟨B1, S, B2, h, h1, h2, h3, h4⟩ := piece_split b l hn
  rw [h, shown_append, shown_append, shown_blanks h1, shown_blanks h3, solid_append, solid_append, solid_blanks h1, solid_blanks h3, solid_nonblank h2, List.nil_append, List.append_nil]
  exact trim_mid (blanks_bl h1) (blanks_bl h3) fun c hc e => h2 c (shown_mem hc).1 (bl_iff.1 e)
theorem part_clean (b : api_Breaks) (l : List UInt8) {a e : Nat} (hn : ∀ j, a < j → j < e → plc b l j = none) (h : Bool) : part l a e h = solid (piece l a e) ++ (if h = true then [45] else []) := by
  unfold part
  rw [← piece_clean b l hn]; rfl
theorem piece_take (l : List UInt8) {a e : Nat} (h : a ≤ e) : l.take e = l.take a ++ piece l a e := by
  unfold piece
  have := List.take_add (l := l) (i := a) (j := e - a)
  rwa [show a + (e - a) = e by omega] at this
theorem piece_drop (l : List UInt8) {a e : Nat} (h : a ≤ e) : l.drop a = piece l a e ++ l.drop e := by
  unfold piece
  have := List.take_append_drop (e - a) (l.drop a)
  rw [List.drop_drop, show a + (e - a) = e by omega] at this
  exact this.symm
/-- The parts, one after the other. -/
def pl (l : List UInt8) (a : Nat) : List (Nat × Bool) → List ByteArray
  | [] => addp (part l a l.length false) []
  | x :: xs => addp (part l a x.1 x.2) [] ++ pl l x.1 xs
theorem addp_eq (p : List UInt8) (out : List ByteArray) : addp p out = out ++ addp p [] := by
  unfold addp
  split <;> simp
theorem prts_pl (l : List UInt8) : ∀ (xs : List (Nat × Bool)) (a : Nat) (out : List ByteArray), prts l a out xs = out ++ pl l a xs
  | [], a, out => addp_eq _ _
  | x :: xs, a, out => by rw [prts, prts_pl l xs, addp_eq, pl, List.append_assoc]
theorem LS_pl (b : api_Breaks) (l : List UInt8) : LS b l = pl l 0 (LP b l) := by unfold LS; rw [prts_pl]; rfl

/-! ### 5. BreaksKeeps -/
theorem keeps_solid_loop (l : List UInt8) (hs : l.length ≤ 1000000) : ∀ (n i : Nat) (acc : List UInt8), l.length - i = n → i ≤ l.length → acc.length ≤ i →
    formelaw08_BreaksKeeps_l65 ⟨l.toArray⟩ (ints acc) (i : Int) = some (ints (acc ++ solid (l.drop i))) := by
  intro n
  induction n with
  | zero =>
    intro i acc hn hi ha
    have : i = l.length := by omega
    subst this
    rw [formelaw08_BreaksKeeps_l65, sz, if_neg (by omega), List.drop_length]
    simp [solid]
  | succ n ih =>
    intro i acc hn hi ha
    have hlt : i < l.length := by omega
    have hB : (0 : Int) ≤ (i : Int) ∧ (i : Int) < ((l.length : Nat) : Int) := by omega
    rw [formelaw08_BreaksKeeps_l65, sz, if_pos (by omega), if_pos hB, bt_mk l hlt, w64_id (by omega) (by omega), add1, List.drop_eq_getElem_cons hlt, solid_cons]
    by_cases c1 : (l[i]).toNat = 32
    · have c1' : ((l[i]).toNat : Int) = 32 := by omega
      simp only [c1', not_true_eq_false, if_false, some_bind, Bool.false_eq_true, c1, ne_eq, false_and, List.nil_append]
      exact ih (i + 1) acc (by omega) (by omega) (by omega)
    · have c1' : ¬ ((l[i]).toNat : Int) = 32 := by omega
      rw [if_pos c1', if_pos hB, some_bind]
      by_cases c2 : (l[i]).toNat = 126
      · have c2' : ((l[i]).toNat : Int) = 126 := by omega
        simp only [c2', not_true_eq_false, decide_false, if_false, some_bind, Bool.false_eq_true, c2, ne_eq, and_false, List.nil_append]
        exact ih (i + 1) acc (by omega) (by omega) (by omega)
      · have c2' : ¬ ((l[i]).toNat : Int) = 126 := by omega
        rw [decide_eq_true c2', if_pos rfl, if_pos hB, if_pos (by simp [ints]; omega), some_bind, ints_snoc, ih (i + 1) _ (by omega) (by omega) (by simp; omega), if_pos ⟨c1, c2⟩, List.append_assoc]
def hy : List (Nat × Bool) → Nat
  | [] => 0
  | x :: xs => (if x.2 = true then 1 else 0) + hy xs
theorem hy_le : ∀ xs, hy xs ≤ xs.length
  | [] => Nat.le_refl _
  | x :: xs => by
    have := hy_le xs
    simp only [hy, List.length_cons]
    split <;> omega
theorem keeps_hy_loop (ys : List (Nat × Bool)) (hy_ : ys.length ≤ 1000000) : ∀ (xs pre : List (Nat × Bool)) (k : Nat), ys = pre ++ xs → k ≤ pre.length →
    formelaw08_BreaksKeeps_l182 (ys.map brk) (k : Int) (pre.length : Int) = some ((k + hy xs : Nat) : Int)
  | [], pre, k, he, hk => by
    have hl : (ys.map brk).length = pre.length := by rw [he]; simp
    rw [formelaw08_BreaksKeeps_l182, hl, if_neg (by omega)]; rfl
  | x :: xs, pre, k, he, hk => by
    have hl : (ys.map brk).length = pre.length + (xs.length + 1) := by rw [he]; simp
    have hpl : pre.length + (xs.length + 1) ≤ 1000000 := by rw [he] at hy_; simpa using hy_
    have hg : (ys.map brk).getD (Int.toNat (pre.length : Int)) z_api_Break = brk x := by
      rw [he, List.map_append, List.map_cons, show (pre.length : Int) = ((pre.map brk).length : Int) by simp, getD_pre]
    rw [formelaw08_BreaksKeeps_l182, hl, if_pos (by omega), if_pos (by omega), hg, w64_id (n := (pre.length : Int) + 1) (by omega) (by omega)]
    have hH : (brk x).Hyphen = x.2 := rfl
    generalize brk x = y at hH ⊢
    rw [hH, hy]
    have ih := fun k hk => keeps_hy_loop ys hy_ xs (pre ++ [x]) k (by rw [he]; simp) hk
    rw [show ((pre ++ [x]).length : Int) = (pre.length : Int) + 1 by simp] at ih
    cases hx : x.2
    · simp only [Bool.false_eq_true, if_false, some_bind, Nat.zero_add]
      exact ih k (by simp; omega)
    · simp only [if_true, some_bind]
      rw [w64_id (by omega) (by omega), add1, ih (k + 1) (by simp; omega), show k + 1 + hy xs = k + (1 + hy xs) by omega]
theorem ints_getD {l : List UInt8} {i : Nat} (h : i < l.length) : (ints l).getD (Int.toNat (i : Int)) 0 = ((l[i]).toNat : Int) := by
  rw [Int.toNat_natCast, List.getD_eq_getElem?_getD]
  unfold ints
  rw [List.getElem?_map, List.getElem?_eq_getElem h]; rfl
theorem ints_len (l : List UInt8) : (ints l).length = l.length := by simp [ints]
/-- The bytes of one part: its solid ones, and a hyphen that was put. -/
theorem keeps_part_loop (ps : List ByteArray) (i : Int) (core : List UInt8) (h : Bool) (sol done rest : List UInt8) (hsol : sol = done ++ (core ++ rest)) (hls : sol.length ≤ 1000000) (hh : h = true → ∀ c r, rest = c :: r → c.toNat ≠ 45)
    (hp : ps.getD (Int.toNat i) ⟨#[]⟩ = ⟨(core ++ (if h = true then [45] else [])).toArray⟩) (put : Nat) (hput : put ≤ 1000000) : ∀ (c2 c1 : List UInt8), core = c1 ++ c2 →
    formelaw08_BreaksKeeps_l293 (ints sol) ps i ((done.length + c1.length : Nat) : Int) (put : Int) (c1.length : Int) = some (.inr (((done.length + core.length : Nat) : Int), ((put + (if h = true then 1 else 0) : Nat) : Int)))
  | [], c1, hc => by
    have hc' : core = c1 := by rw [hc]; simp
    have hcl : core.length = c1.length := by rw [hc']
    have hlen : sol.length = done.length + (core.length + rest.length) := by rw [hsol]; simp
    rw [formelaw08_BreaksKeeps_l293, hp, sz]
    cases h
    · simp only [Bool.false_eq_true, if_false, List.append_nil, Nat.add_zero]
      rw [if_neg (by rw [hc']; omega), hc']
    · simp only [if_true]
      have hpl : (core ++ [45]).length = c1.length + 1 := by rw [hc']; simp
      have hb : bt ⟨(core ++ [45]).toArray⟩ (c1.length : Int) = 45 := by
        rw [bt_mk _ (by omega)]
        simp [hc']
      have e1 : w64 (((c1.length + 1 : Nat) : Int) - 1) = (c1.length : Int) := by rw [w64_id (by omega) (by omega)]; omega
      rw [hpl, if_pos (by omega), hb, ints_len, e1]
      have fin : ∀ (at_ : Int), formelaw08_BreaksKeeps_l293 (ints sol) ps i at_ (w64 ((put : Int) + 1)) (w64 ((c1.length : Int) + 1)) = some (.inr (at_, ((put + 1 : Nat) : Int))) := by
        intro at_
        rw [formelaw08_BreaksKeeps_l293, hp, sz]
        simp only [if_true]
        rw [hpl, w64_id (n := (c1.length : Int) + 1) (by omega) (by omega), if_neg (by omega), w64_id (by omega) (by omega), add1]
      have hB : (0 : Int) ≤ (c1.length : Int) ∧ (c1.length : Int) < ((c1.length + 1 : Nat) : Int) := by omega
      cases rest with
      | nil =>
        have : ¬ (((done.length + c1.length : Nat) : Int) < ((sol.length : Nat) : Int)) := by rw [hlen, hc']; simp
        rw [if_neg this, some_bind, if_neg (by simp), if_pos hB, if_pos rfl, some_bind, decide_eq_true rfl, if_pos rfl, some_bind]
        simp only
        rw [fin, hc']
      | cons c r =>
        have hlt : done.length + c1.length < sol.length := by rw [hlen, hc']; simp
        have hg : sol[done.length + c1.length]'hlt = c := by
          have : sol[done.length + c1.length]? = some c := by
            rw [hsol, hc', ← List.append_assoc, List.getElem?_append_right (by simp)]
            simp
          rw [List.getElem?_eq_getElem hlt] at this
          exact Option.some.inj this
        have hne : ¬ ((c.toNat : Int) = 45) := by have := hh rfl c r rfl; omega
        rw [if_pos (by omega), if_pos (by omega), if_pos hB, ints_getD hlt, hg, some_bind, decide_eq_false hne, if_neg (by simp), if_pos hB, if_pos rfl, some_bind, decide_eq_true rfl, if_pos rfl, some_bind]
        simp only
        rw [fin, hc']
  | c :: c2, c1, hc => by
    have hlen : sol.length = done.length + (core.length + rest.length) := by rw [hsol]; simp
    have hcl : core.length = c1.length + (c2.length + 1) := by rw [hc]; simp
    have ih := keeps_part_loop ps i core h sol done rest hsol hls hh hp put hput c2 (c1 ++ [c]) (by rw [hc]; simp)
    rw [show ((c1 ++ [c]).length : Int) = (c1.length : Int) + 1 by simp, show (c1 ++ [c]).length = c1.length + 1 by simp] at ih
    have hlt : done.length + c1.length < sol.length := by omega
    have hg : sol[done.length + c1.length]'hlt = c := by
      have : sol[done.length + c1.length]? = some c := by
        rw [hsol, hc, List.getElem?_append_right (by omega)]
        simp
      rw [List.getElem?_eq_getElem hlt] at this
      exact Option.some.inj this
    have hpl : (core ++ (if h = true then [45] else [])).length = core.length + (if h = true then 1 else 0) := by cases h <;> simp
    have hltp : c1.length < (core ++ (if h = true then [45] else [])).length := by omega
    have hb : bt ⟨(core ++ (if h = true then [45] else [])).toArray⟩ (c1.length : Int) = (c.toNat : Int) := by
      rw [bt_mk _ hltp]
      have : (core ++ (if h = true then [45] else []))[c1.length]? = some c := by
        rw [hc, List.append_assoc, List.getElem?_append_right (by omega)]
        simp
      rw [List.getElem?_eq_getElem hltp] at this
      rw [Option.some.inj this]
    rw [formelaw08_BreaksKeeps_l293, hp, sz, hb, ints_len]
    have hB : (0 : Int) ≤ (c1.length : Int) ∧ (c1.length : Int) < (((core ++ (if h = true then [45] else [])).length : Nat) : Int) := by omega
    rw [if_pos hB.2, if_pos (by omega), if_pos (by omega), if_pos hB, ints_getD hlt, hg, some_bind, decide_eq_true rfl, if_pos rfl, some_bind]
    simp only
    rw [w64_id (n := ((done.length + c1.length : Nat) : Int) + 1) (by omega) (by omega), w64_id (n := (c1.length : Int) + 1) (by omega) (by omega)]
    rw [show ((done.length + c1.length : Nat) : Int) + 1 = ((done.length + (c1.length + 1) : Nat) : Int) by omega]
    exact ih
theorem run_solid {x : List UInt8} (h : run x ≠ []) : ∀ c r, solid x = c :: r → ltI (c.toNat : Int) = true := by
  induction x with
  | nil => exact absurd rfl h
  | cons b x ih =>
    intro c r hc
    rw [run_cons] at h
    cases hm : mo b
    · rw [hm] at h; simp at h
    · rw [hm, if_pos rfl] at h
      by_cases h6 : b.toNat = 126
      · rw [if_pos h6] at h
        have : solid (b :: x) = solid x := by unfold solid; simp [h6]
        rw [this] at hc
        exact ih h c r hc
      · have hlt : ltI (b.toNat : Int) = true := by
          unfold mo at hm
          have : ¬ ((b.toNat : Int) = 126) := by omega
          simpa [this] using hm
        have h32 : b.toNat ≠ 32 := fun e => by rw [mo_blank e] at hm; cases hm
        have : solid (b :: x) = b :: solid x := by unfold solid; simp [h6, h32]
        rw [this] at hc
        cases hc
        exact hlt
theorem ltI_hyphen : ltI 45 = false := by decide
theorem soP_next {b : api_Breaks} {l : List UInt8} {a : Nat} (hv : vb b = true) (h : soP b l a = true) : ∀ c r, solid (l.drop a) = c :: r → c.toNat ≠ 45 := by
  intro c r hc e
  unfold soP at h
  simp only [Bool.and_eq_true, decide_eq_true_eq] at h
  have h2 := h.1.2
  have h1 := (vb_open hv).2.2.1
  have hne : run (l.drop a) ≠ [] := by
    intro e
    have : fwd l a = [] := e
    rw [this] at h2; simp at h2; omega
  have := run_solid hne c r hc
  rw [e, show ((45 : Nat) : Int) = 45 from rfl, ltI_hyphen] at this
  cases this
theorem addp_cases (p : List UInt8) : (p = [] ∧ addp p [] = []) ∨ (p ≠ [] ∧ addp p [] = [⟨p.toArray⟩]) := by
  unfold addp
  by_cases h : p = []
  · exact .inl ⟨h, if_pos h⟩
  · exact .inr ⟨h, by rw [if_neg h]; rfl⟩
theorem keeps_loop (b : api_Breaks) (l : List UInt8) (hv : vb b = true) (hs : l.length ≤ 300) (ps : List ByteArray) (hps : ps.length ≤ 1000000) : ∀ (xs : List (Nat × Bool)) (pre : List ByteArray) (a put : Nat), ps = pre ++ pl l a xs → Al (plc b l) a xs l.length → put + xs.length ≤ 1000000 →
    formelaw08_BreaksKeeps_l238 (ints (solid l)) ps (((solid (l.take a)).length : Nat) : Int) (put : Int) (pre.length : Int) = some (.inr (((solid l).length : Int), ((put + hy xs : Nat) : Int)))
  | [], pre, a, put, he, hA, hput => by
    obtain ⟨hae, hn⟩ := hA
    have hpc := part_clean b l hn false
    have hsl : (solid l).length ≤ 1000000 := Nat.le_trans (List.length_filter_le _ _) (by omega)
    have hfull : solid l = solid (l.take a) ++ (solid (piece l a l.length) ++ []) := by
      rw [List.append_nil, ← solid_append, ← piece_take l hae, List.take_length]
    have fin : ∀ (k : Int) (o : Nat), ((ps.length : Nat) : Int) ≤ k → formelaw08_BreaksKeeps_l238 (ints (solid l)) ps (o : Int) (put : Int) k = some (.inr ((o : Int), (put : Int))) := by
      intro k o hk
      rw [formelaw08_BreaksKeeps_l238, if_neg (by omega)]
    simp only [hy, Nat.add_zero]
    rcases addp_cases (part l a l.length false) with ⟨h1, h2⟩ | ⟨h1, h2⟩
    · have hpl : ps.length = pre.length := by rw [he, pl, h2]; simp
      have : solid (piece l a l.length) = [] := by rw [hpc] at h1; simpa using h1
      rw [fin _ _ (by omega)]
      have e : (solid l).length = (solid (l.take a)).length := by rw [hfull, this]; simp
      rw [e]
    · have hpl : ps.length = pre.length + 1 := by rw [he, pl, h2]; simp
      have hg : ps.getD (Int.toNat (pre.length : Int)) ⟨#[]⟩ = ⟨(solid (piece l a l.length) ++ (if false = true then [45] else [])).toArray⟩ := by
        rw [he, pl, h2, getD_pre, hpc]
      have hne : ¬ (ps.getD (Int.toNat (pre.length : Int)) ⟨#[]⟩ = ⟨#[]⟩) := by
        rw [hg]
        intro e
        have := mk_nil.1 e
        rw [hpc] at h1
        exact h1 this
      have hin := keeps_part_loop ps (pre.length : Int) (solid (piece l a l.length)) false (solid l) (solid (l.take a)) [] hfull hsl (fun h => by cases h) hg put (by omega) (solid (piece l a l.length)) [] rfl
      simp only [List.length_nil, Nat.add_zero, Bool.false_eq_true, if_false] at hin
      rw [show ((0 : Nat) : Int) = 0 from rfl] at hin
      rw [formelaw08_BreaksKeeps_l238, if_pos (by omega), if_pos (by omega), if_neg hne, hin, some_bind]
      simp only
      rw [fin _ _ (by rw [w64_id (by omega) (by omega)]; omega)]
      have e : (solid l).length = (solid (l.take a)).length + (solid (piece l a l.length)).length := by rw [hfull]; simp
      rw [e]
  | x :: xs, pre, a, put, he, hA, hput => by
    obtain ⟨h1, h2, h3, h4, h5⟩ := hA
    have hpc := part_clean b l h4 x.2
    have hsl : (solid l).length ≤ 1000000 := Nat.le_trans (List.length_filter_le _ _) (by omega)
    simp only [List.length_cons] at hput
    have htk : solid (l.take x.1) = solid (l.take a) ++ solid (piece l a x.1) := by rw [← solid_append, ← piece_take l (by omega)]
    have hfull : solid l = solid (l.take a) ++ (solid (piece l a x.1) ++ solid (l.drop x.1)) := by
      rw [← List.append_assoc, ← htk, ← solid_append, List.take_append_drop]
    have hhy : x.2 = true → ∀ c r, solid (l.drop x.1) = c :: r → c.toNat ≠ 45 := by
      intro hx
      obtain ⟨hc, _⟩ := plc_some hv h2 h3
      rcases hc with ⟨_, hh⟩ | ⟨_, hh⟩ | ⟨_, _, hso⟩
      · rw [hx] at hh; cases hh
      · rw [hx] at hh; cases hh
      · exact soP_next hv hso
    rcases addp_cases (part l a x.1 x.2) with ⟨g1, g2⟩ | ⟨g1, g2⟩
    · have hx : x.2 = false := by
        cases hx : x.2
        · rfl
        · rw [hpc, hx] at g1; simp at g1
      have hnil : solid (piece l a x.1) = [] := by rw [hpc, hx] at g1; simpa using g1
      have ih := keeps_loop b l hv hs ps hps xs pre x.1 put (by rw [he, pl, g2]; rfl) h5 (by omega)
      rw [htk, hnil, List.append_nil] at ih
      rw [ih, hy, hx]
      simp
    · have hpl : pre.length + 1 ≤ ps.length := by rw [he, pl, g2]; simp
      have hg : ps.getD (Int.toNat (pre.length : Int)) ⟨#[]⟩ = ⟨(solid (piece l a x.1) ++ (if x.2 = true then [45] else [])).toArray⟩ := by
        rw [he, pl, g2, List.singleton_append, getD_pre, hpc]
      have hne : ¬ (ps.getD (Int.toNat (pre.length : Int)) ⟨#[]⟩ = ⟨#[]⟩) := by
        rw [hg]
        intro e
        have := mk_nil.1 e
        rw [hpc] at g1
        exact g1 this
      have hin := keeps_part_loop ps (pre.length : Int) (solid (piece l a x.1)) x.2 (solid l) (solid (l.take a)) (solid (l.drop x.1)) hfull hsl hhy hg put (by omega) (solid (piece l a x.1)) [] rfl
      simp only [List.length_nil, Nat.add_zero] at hin
      rw [show ((0 : Nat) : Int) = 0 from rfl] at hin
      have ih := keeps_loop b l hv hs ps hps xs (pre ++ [⟨(part l a x.1 x.2).toArray⟩]) x.1 (put + (if x.2 = true then 1 else 0)) (by rw [he, pl, g2]; simp) h5 (by split <;> omega)
      rw [show ((pre ++ [(⟨(part l a x.1 x.2).toArray⟩ : ByteArray)]).length : Int) = (pre.length : Int) + 1 by simp] at ih
      have e : (solid (l.take x.1)).length = (solid (l.take a)).length + (solid (piece l a x.1)).length := by rw [htk]; simp
      rw [e] at ih
      rw [formelaw08_BreaksKeeps_l238, if_pos (by omega), if_pos (by omega), if_neg hne, hin, some_bind]
      simp only
      rw [w64_id (by omega) (by omega), ih, hy, Nat.add_assoc]
theorem keeps_true (b : api_Breaks) (s : ByteArray) (hs : s.size ≤ 9223372036854775807) : formelaw08_BreaksKeeps b s = some true := by
  obtain ⟨l, rfl⟩ := as_list s
  rw [sz] at hs
  unfold formelaw08_BreaksKeeps
  simp only [head_true, usable_mk b l hs, some_bind]
  cases hu : (decide (l.length ≤ 300) && (vb b && okS l))
  · rfl
  · obtain ⟨h1, h2, h3, h4⟩ := use_open hu
    have hv : (vb b && okS l) = true := by rw [h2, h3]; rfl
    have hLP := LP_len b l
    have hLS := LS_len b l
    have k1 := keeps_solid_loop l (by omega) _ 0 [] rfl (Nat.zero_le _) (Nat.le_refl _)
    have k2 := keeps_hy_loop (LP b l) (by omega) (LP b l) [] 0 rfl (Nat.le_refl _)
    have k3 := keeps_loop b l h2 h1 (LS b l) (by omega) (LP b l) [] 0 0 (by rw [LS_pl]; rfl) (LP_al b l) (by omega)
    rw [List.take_zero] at k3
    simp only [List.length_nil, Nat.zero_add, List.nil_append, List.drop_zero, show ints [] = [] from rfl, show (solid []).length = 0 from rfl] at k1 k2 k3
    rw [show ((0 : Nat) : Int) = 0 from rfl] at k1 k2 k3
    simp only [list_mk b l h4, least_mk b l h4, hv, if_true, some_bind, Bool.not_true, Bool.false_eq_true, if_false, k1, k2, k3, decide_true, ints_len]
end Go.Proofs.YtiahgcidgbalkaaDoor.LG
