/-
  BreaksWords: the plain law. Plain Lean; no program in sight.
-/
import Derived.Test.YtiahgcidgbalkaaDoorBs
set_option linter.unusedVariables false
set_option linter.unusedSimpArgs false
set_option maxRecDepth 100000
namespace Go.Proofs.YtiahgcidgbalkaaDoor.LG
open Go Go.LG Go.Lib

def plain (c : UInt8) : Prop := c.toNat ≠ 45 ∧ c.toNat ≠ 126
theorem words_scan (l : List UInt8) (hs : l.length ≤ 1000000) : ∀ (n i : Nat), l.length - i = n → i ≤ l.length → (formelaw08_BreaksWords_l49 ⟨l.toArray⟩ (i : Int) = some (.inl ()) ∨ formelaw08_BreaksWords_l49 ⟨l.toArray⟩ (i : Int) = some (.inr ()) ∧ ∀ c ∈ l.drop i, plain c) := by
  intro n
  induction n with
  | zero =>
    intro i hn hi
    have : i = l.length := by omega
    subst this
    refine .inr ⟨?_, by simp⟩
    rw [formelaw08_BreaksWords_l49, sz, if_neg (by omega)]
  | succ n ih =>
    intro i hn hi
    have hlt : i < l.length := by omega
    have hB : (0 : Int) ≤ (i : Int) ∧ (i : Int) < ((l.length : Nat) : Int) := by omega
    have e : formelaw08_BreaksWords_l49 ⟨l.toArray⟩ (i : Int) = if (l[i]).toNat = 45 ∨ (l[i]).toNat = 126 then some (.inl ()) else formelaw08_BreaksWords_l49 ⟨l.toArray⟩ ((i + 1 : Nat) : Int) := by
      rw [formelaw08_BreaksWords_l49, sz, if_pos hB.2, if_pos hB, bt_mk l hlt, if_pos hB, w64_id (by omega) (by omega), add1]
      by_cases c1 : (l[i]).toNat = 45
      · have c1' : ((l[i]).toNat : Int) = 45 := by omega
        rw [if_pos c1', some_bind, if_pos rfl, if_pos (.inl c1)]
      · have c1' : ¬ ((l[i]).toNat : Int) = 45 := by omega
        rw [if_neg c1', some_bind]
        by_cases c2 : (l[i]).toNat = 126
        · have c2' : ((l[i]).toNat : Int) = 126 := by omega
          rw [decide_eq_true c2', if_pos rfl, if_pos (.inr c2)]
        · have c2' : ¬ ((l[i]).toNat : Int) = 126 := by omega
          rw [decide_eq_false c2', if_neg (by simp), if_neg (by simp [c1, c2])]
    rw [e]
    by_cases c : (l[i]).toNat = 45 ∨ (l[i]).toNat = 126
    · rw [if_pos c]; exact .inl rfl
    · rw [if_neg c]
      rcases ih (i + 1) (by omega) (by omega) with h | ⟨h1, h2⟩
      · exact .inl h
      · refine .inr ⟨h1, fun d hd => ?_⟩
        rw [List.drop_eq_getElem_cons hlt] at hd
        rcases List.mem_cons.1 hd with rfl | hd
        · exact ⟨fun e => c (.inl e), fun e => c (.inr e)⟩
        · exact h2 d hd
/-- Blanks are passed over. -/
theorem skip1 (l : List UInt8) (hs : l.length ≤ 1000000) : ∀ (B : List UInt8) (i : Nat) (X : List UInt8), l.drop i = B ++ X → (∀ c ∈ B, c.toNat = 32) → (∀ c r, X = c :: r → c.toNat ≠ 32) → i ≤ l.length →
    formelaw08_BreaksWords_l161 ⟨l.toArray⟩ (i : Int) = some ((i + B.length : Nat) : Int)
  | [], i, X, hd, hB, hX, hi => by
    rw [formelaw08_BreaksWords_l161, sz]
    cases X with
    | nil =>
      have : l.length ≤ i := by
        have := congrArg List.length hd
        simp at this; omega
      rw [if_neg (by omega), some_bind, if_neg (by simp)]; rfl
    | cons c r =>
      have hlt : i < l.length := by
        have := congrArg List.length hd
        simp at this; omega
      have hc : l[i] = c := by
        rw [List.drop_eq_getElem_cons hlt] at hd
        exact (List.cons.inj hd).1
      have hne : ¬ ((c.toNat : Int) = 32) := by have := hX c r rfl; omega
      rw [if_pos (by omega), if_pos (by omega), bt_mk l hlt, hc, decide_eq_false hne, some_bind, if_neg (by simp)]; rfl
  | b :: B, i, X, hd, hB, hX, hi => by
    have hlt : i < l.length := by
      have := congrArg List.length hd
      simp at this; omega
    rw [List.drop_eq_getElem_cons hlt] at hd
    obtain ⟨hc, hd'⟩ := List.cons.inj hd
    have hb : ((b.toNat : Int) = 32) := by have := hB b (by simp); omega
    have ih := skip1 l hs B (i + 1) X hd' (fun c h => hB c (by simp [h])) hX (by omega)
    rw [formelaw08_BreaksWords_l161, sz, if_pos (by omega), if_pos (by omega), bt_mk l hlt, hc, decide_eq_true hb, some_bind, if_pos rfl, w64_id (by omega) (by omega), add1, ih]
    simp only [List.length_cons]
    congr 2
    omega
theorem skip2 (l : List UInt8) (hs : l.length ≤ 1000000) : ∀ (B : List UInt8) (i : Nat), l.drop i = B → (∀ c ∈ B, c.toNat = 32) → i ≤ l.length →
    formelaw08_BreaksWords_l288 ⟨l.toArray⟩ (i : Int) = some (l.length : Int)
  | [], i, hd, hB, hi => by
    have : l.length ≤ i := by
      have := congrArg List.length hd
      simp at this; omega
    rw [formelaw08_BreaksWords_l288, sz, if_neg (by omega), some_bind, if_neg (by simp), show i = l.length by omega]
  | b :: B, i, hd, hB, hi => by
    have hlt : i < l.length := by
      have := congrArg List.length hd
      simp at this; omega
    rw [List.drop_eq_getElem_cons hlt] at hd
    obtain ⟨hc, hd'⟩ := List.cons.inj hd
    have hb : ((b.toNat : Int) = 32) := by have := hB b (by simp); omega
    have ih := skip2 l hs B (i + 1) hd' (fun c h => hB c (by simp [h])) (by omega)
    rw [formelaw08_BreaksWords_l288, sz, if_pos (by omega), if_pos (by omega), bt_mk l hlt, hc, decide_eq_true hb, some_bind, if_pos rfl, w64_id (by omega) (by omega), add1, ih]
theorem noblank_loop (ps : List ByteArray) (k : Int) (p : List UInt8) (hp : ps.getD (Int.toNat k) ⟨#[]⟩ = ⟨p.toArray⟩) (hl : p.length ≤ 1000000) (hb : ∀ c ∈ p, c.toNat ≠ 32) : ∀ (n i : Nat), p.length - i = n → formelaw08_BreaksWords_l232 ps k (i : Int) = some (.inr ()) := by
  intro n
  induction n with
  | zero => intro i hn; rw [formelaw08_BreaksWords_l232, hp, sz, if_neg (by omega)]
  | succ n ih =>
    intro i hn
    have hlt : i < p.length := by omega
    have hne : ¬ (((p[i]).toNat : Int) = 32) := by have := hb p[i] (by simp); omega
    rw [formelaw08_BreaksWords_l232, hp, sz, if_pos (by omega), if_pos (by omega), bt_mk p hlt, if_neg hne, w64_id (by omega) (by omega), add1, ih (i + 1) (by omega)]
theorem drop_len {l x y : List UInt8} {i : Nat} (h : l.drop i = x ++ y) (hi : i ≤ l.length) : i + x.length ≤ l.length ∧ l.drop (i + x.length) = y := by
  have h1 := congrArg List.length h
  simp at h1
  refine ⟨by omega, ?_⟩
  rw [← List.drop_drop, h, List.drop_left]
/-- One part is found where it is. -/
theorem words_step (l : List UInt8) (hs : l.length ≤ 1000000) (ps : List ByteArray) (hps : ps.length ≤ 1000000) (i : Nat) (hi : i < ps.length) (S : List UInt8) (hS : S ≠ []) (hp : ps.getD (Int.toNat (i : Int)) ⟨#[]⟩ = ⟨S.toArray⟩) (hnb : ∀ c ∈ S, c.toNat ≠ 32)
    (B R : List UInt8) (at_ : Nat) (ha : at_ ≤ l.length) (hd : l.drop at_ = B ++ (S ++ R)) (hB : ∀ c ∈ B, c.toNat = 32) (hR : ∀ c r, R = c :: r → c.toNat = 32) :
    formelaw08_BreaksWords_l127 ⟨l.toArray⟩ ps (at_ : Int) (i : Int) = formelaw08_BreaksWords_l127 ⟨l.toArray⟩ ps ((at_ + B.length + S.length : Nat) : Int) ((i + 1 : Nat) : Int) := by
  obtain ⟨g1, g2⟩ := drop_len hd ha
  obtain ⟨g3, g4⟩ := drop_len g2 g1
  have k1 := skip1 l hs B at_ (S ++ R) hd hB (fun c r h => by
    cases S with
    | nil => exact absurd rfl hS
    | cons d S => cases h; exact hnb _ (by simp)) ha
  have k2 := noblank_loop ps (i : Int) S hp (by omega) hnb _ 0 rfl
  rw [show ((0 : Nat) : Int) = 0 from rfl] at k2
  have hne : ¬ ((⟨S.toArray⟩ : ByteArray) = ⟨#[]⟩) := fun e => hS (mk_nil.1 e)
  have hsub : sub ⟨l.toArray⟩ ((at_ + B.length : Nat) : Int) ((at_ + B.length + S.length : Nat) : Int) = ⟨S.toArray⟩ := by
    rw [sub_data]
    show (⟨(List.take (at_ + B.length + S.length - (at_ + B.length)) (List.drop (at_ + B.length) l)).toArray⟩ : ByteArray) = _
    rw [g2, show at_ + B.length + S.length - (at_ + B.length) = S.length by omega, List.take_left]
  rw [formelaw08_BreaksWords_l127, if_pos (by omega), k1, some_bind, if_pos (by omega), hp, sz, sz, if_neg hne, some_bind]
  rw [w64_id (n := ((l.length : Nat) : Int) - ((at_ + B.length : Nat) : Int)) (by omega) (by omega), decide_eq_false (by omega), if_neg (by simp)]
  rw [w64_id (n := ((at_ + B.length : Nat) : Int) + (S.length : Int)) (by omega) (by omega), show ((at_ + B.length : Nat) : Int) + (S.length : Int) = ((at_ + B.length + S.length : Nat) : Int) by omega, if_pos (by omega), hsub, some_bind, decide_eq_false (by simp), if_neg (by simp), k2, some_bind]
  rw [w64_id (n := (i : Int) + 1) (by omega) (by omega), add1]
  cases R with
  | nil =>
    have : ¬ (((at_ + B.length + S.length : Nat) : Int) < ((l.length : Nat) : Int)) := by
      have := congrArg List.length g4
      simp at this; omega
    simp only
    rw [if_neg this, some_bind, if_neg (by simp)]
  | cons c r =>
    have hlt : at_ + B.length + S.length < l.length := by
      have := congrArg List.length g4
      simp at this; omega
    have hc : l[at_ + B.length + S.length] = c := by
      rw [List.drop_eq_getElem_cons hlt] at g4
      exact (List.cons.inj g4).1
    have hc32 : ((c.toNat : Int) = 32) := by have := hR c r rfl; omega
    simp only
    rw [if_pos (by omega), if_pos (by omega), bt_mk l hlt, hc, decide_eq_false (not_not_intro hc32), some_bind, if_neg (by simp)]
theorem wc_blank : ∀ (B X : List UInt8), (∀ c ∈ B, c.toNat = 32) → wc false (B ++ X) = wc false X
  | [], X, _ => rfl
  | b :: B, X, h => by
    have hb := h b (by simp)
    rw [List.cons_append, wc, if_neg (by omega), if_pos hb]
    exact wc_blank B X fun c hc => h c (by simp [hc])
theorem wc_true_blank {B X : List UInt8} (h : ∀ c ∈ B, c.toNat = 32) (hB : B ≠ []) : wc true (B ++ X) = wc false X := by
  cases B with
  | nil => exact absurd rfl hB
  | cons b B =>
    have hb := h b (by simp)
    rw [List.cons_append, wc, if_neg (by omega), if_pos hb]
    exact wc_blank B X fun c hc => h c (by simp [hc])
theorem wc_true_S : ∀ (S X : List UInt8), (∀ c ∈ S, c.toNat ≠ 32 ∧ c.toNat ≠ 126) → wc true (S ++ X) = wc true X
  | [], X, _ => rfl
  | b :: S, X, h => by
    obtain ⟨h1, h2⟩ := h b (by simp)
    rw [List.cons_append, wc, if_neg h2, if_neg h1]
    simp only [if_true, Nat.zero_add]
    exact wc_true_S S X fun c hc => h c (by simp [hc])
theorem wc_S {S X : List UInt8} (h : ∀ c ∈ S, c.toNat ≠ 32 ∧ c.toNat ≠ 126) (hS : S ≠ []) : wc false (S ++ X) = 1 + wc true X := by
  cases S with
  | nil => exact absurd rfl hS
  | cons b S =>
    obtain ⟨h1, h2⟩ := h b (by simp)
    rw [List.cons_append, wc, if_neg h2, if_neg h1, wc_true_S S X fun c hc => h c (by simp [hc])]
    rfl
theorem shown_plain {S : List UInt8} (h : ∀ c ∈ S, c.toNat ≠ 126) : shown S = S := by
  unfold shown
  rw [List.filter_eq_self]
  intro c hc
  simp [h c hc]
/-- A piece of a text without hyphens: blanks, a word, blanks. -/
theorem piece_word (b : api_Breaks) (l : List UInt8) (hpl : ∀ c ∈ l, plain c) {a e : Nat} (hae : a ≤ e) (he : e ≤ l.length) (hn : ∀ j, a < j → j < e → plc b l j = none) :
    ∃ B1 S B2, piece l a e = B1 ++ (S ++ B2) ∧ (∀ c ∈ B1, c.toNat = 32) ∧ (∀ c ∈ S, c.toNat ≠ 32 ∧ c.toNat ≠ 126) ∧ (∀ c ∈ B2, c.toNat = 32) ∧ (S = [] → B2 = []) ∧ part l a e false = S := by
  obtain ⟨B1, S, B2, h, h1, h2, h3, h4⟩ := piece_split b l hn
  have hm : ∀ c ∈ piece l a e, c ∈ l := fun c hc => List.mem_of_mem_drop (List.mem_of_mem_take hc)
  have hS : ∀ c ∈ S, c.toNat ≠ 126 := fun c hc => (hpl c (hm c (by rw [h]; simp [hc]))).2
  refine ⟨B1, S, B2, h, h1, fun c hc => ⟨h2 c hc, hS c hc⟩, h3, h4, ?_⟩
  rw [part_clean b l hn, h, solid_append, solid_append, solid_blanks h1, solid_blanks h3, solid_nonblank h2, shown_plain hS]
  simp
theorem bwords_loop (b : api_Breaks) (l : List UInt8) (hv : vb b = true) (hs : l.length ≤ 300) (hpl : ∀ c ∈ l, plain c) (ps : List ByteArray) (hps : ps.length ≤ 1000000) : ∀ (xs : List (Nat × Bool)) (pre : List ByteArray) (a at_ : Nat) (Bz : List UInt8), ps = pre ++ pl l a xs → Al (plc b l) a xs l.length →
    l.drop at_ = Bz ++ l.drop a → (∀ c ∈ Bz, c.toNat = 32) → at_ + Bz.length = a →
    (∃ q : Nat, formelaw08_BreaksWords_l127 ⟨l.toArray⟩ ps (at_ : Int) (pre.length : Int) = some (.inr (q : Int)) ∧ q ≤ l.length ∧ ∀ c ∈ l.drop q, c.toNat = 32) ∧ (pl l a xs).length = wc false (l.drop a)
  | [], pre, a, at_, Bz, he, hA, hd, hB, hat => by
    obtain ⟨hae, hn⟩ := hA
    obtain ⟨B1, S, B2, h, h1, h2, h3, h4, h5⟩ := piece_word b l hpl hae (Nat.le_refl _) hn
    have hda : l.drop a = B1 ++ (S ++ B2) := by
      have := piece_drop l hae
      rw [List.drop_length, List.append_nil] at this
      rw [this, h]
    have fin : ∀ (o k : Nat), ps.length ≤ k → formelaw08_BreaksWords_l127 ⟨l.toArray⟩ ps (o : Int) (k : Int) = some (.inr (o : Int)) := by
      intro o k hk
      rw [formelaw08_BreaksWords_l127, if_neg (by omega)]
    by_cases hS : S = []
    · have hB2 := h4 hS
      subst hS; subst hB2
      rcases addp_cases (part l a l.length false) with ⟨g1, g2⟩ | ⟨g1, g2⟩
      · have hpl' : pl l a [] = [] := g2
        refine ⟨⟨at_, fin _ _ (by rw [he, hpl']; simp), by omega, fun c hc => ?_⟩, ?_⟩
        · rw [hd, hda] at hc
          simp at hc
          rcases hc with hc | hc
          · exact hB c hc
          · exact h1 c hc
        · rw [hpl', hda, wc_blank _ _ h1]; rfl
      · exact absurd h5 g1
    · rcases addp_cases (part l a l.length false) with ⟨g1, g2⟩ | ⟨g1, g2⟩
      · rw [h5] at g1; exact absurd g1 hS
      · have hpl' : pl l a [] = [⟨S.toArray⟩] := by rw [pl, g2, h5]
        have hlen : ps.length = pre.length + 1 := by rw [he, hpl']; simp
        have hg : ps.getD (Int.toNat (pre.length : Int)) ⟨#[]⟩ = ⟨S.toArray⟩ := by rw [he, hpl', getD_pre]
        have hd' : l.drop at_ = (Bz ++ B1) ++ (S ++ B2) := by rw [hd, hda]; simp
        have st := words_step l (by omega) ps hps pre.length (by omega) S hS hg (fun c hc => (h2 c hc).1) (Bz ++ B1) B2 at_ (by omega) hd' (fun c hc => by
          rcases List.mem_append.1 hc with hc | hc
          · exact hB c hc
          · exact h1 c hc) (fun c r hr => h3 c (by rw [hr]; simp))
        obtain ⟨g3, g4⟩ := drop_len hd' (by omega)
        obtain ⟨g5, g6⟩ := drop_len g4 g3
        refine ⟨⟨at_ + (Bz ++ B1).length + S.length, by rw [st, fin _ _ (by omega)], g5, fun c hc => ?_⟩, ?_⟩
        · rw [g6] at hc; exact h3 c hc
        · rw [hpl', hda, wc_blank _ _ h1, wc_S h2 hS]
          have : wc true B2 = 0 := by
            by_cases hB2 : B2 = []
            · rw [hB2]; rfl
            · have := wc_true_blank (X := []) h3 hB2
              rw [List.append_nil] at this
              rw [this]; rfl
          rw [this]; rfl
  | x :: xs, pre, a, at_, Bz, he, hA, hd, hB, hat => by
    obtain ⟨h1', h2', h3', h4', h5'⟩ := hA
    obtain ⟨hc, _⟩ := plc_some hv h2' h3'
    have hlast : (l.getD (x.1 - 1) 0).toNat = 32 ∧ x.2 = false := by
      have hm : plain (l.getD (x.1 - 1) 0) := hpl _ (by rw [getD_of (show x.1 - 1 < l.length by omega)]; simp)
      rcases hc with h | h | h
      · exact h
      · exact absurd h.1 hm.1
      · exact absurd h.1 hm.2
    obtain ⟨B1, S, B2, h, h1, h2, h3, h4, h5⟩ := piece_word b l hpl (show a ≤ x.1 by omega) (by omega) h4'
    rw [← hlast.2] at h5
    have hda : l.drop a = B1 ++ (S ++ (B2 ++ l.drop x.1)) := by
      rw [piece_drop l (show a ≤ x.1 by omega), h]; simp
    have hpn : (piece l a x.1).length = x.1 - a := by unfold piece; simp; omega
    have hB2 : S ≠ [] → B2 ≠ [] := by
      intro hS hB2
      have hL : (piece l a x.1)[x.1 - 1 - a]? = l[x.1 - 1]? := by
        unfold piece
        rw [List.getElem?_take, if_pos (by omega), List.getElem?_drop, show a + (x.1 - 1 - a) = x.1 - 1 by omega]
      rw [h, hB2, List.append_nil] at hL
      have hlen : B1.length + S.length = x.1 - a := by rw [← hpn, h, hB2]; simp
      have hSl : 0 < S.length := List.length_pos_iff.2 hS
      rw [List.getElem?_append_right (by omega)] at hL
      have hlt : x.1 - 1 - a - B1.length < S.length := by omega
      rw [List.getElem?_eq_getElem hlt] at hL
      have hm : (S[x.1 - 1 - a - B1.length]).toNat ≠ 32 := (h2 _ (by simp)).1
      apply hm
      have e : l.getD (x.1 - 1) 0 = S[x.1 - 1 - a - B1.length] := by rw [List.getD_eq_getElem?_getD, ← hL]; rfl
      rw [← e]; exact hlast.1
    by_cases hS : S = []
    · have hB2' := h4 hS
      subst hS; subst hB2'
      rcases addp_cases (part l a x.1 x.2) with ⟨g1, g2⟩ | ⟨g1, g2⟩
      · have hpl' : pl l a (x :: xs) = pl l x.1 xs := by rw [pl, g2]; rfl
        have hd' : l.drop at_ = (Bz ++ B1) ++ l.drop x.1 := by rw [hd, hda]; simp
        have hlB : B1.length = x.1 - a := by rw [← hpn, h]; simp
        have ih := bwords_loop b l hv hs hpl ps hps xs pre x.1 at_ (Bz ++ B1) (by rw [he, hpl']) h5' hd' (fun c hc => by
          rcases List.mem_append.1 hc with hc | hc
          · exact hB c hc
          · exact h1 c hc) (by simp; omega)
        refine ⟨ih.1, ?_⟩
        rw [hpl', ih.2, hda, wc_blank _ _ h1]; rfl
      · exact absurd h5 g1
    · rcases addp_cases (part l a x.1 x.2) with ⟨g1, g2⟩ | ⟨g1, g2⟩
      · rw [h5] at g1; exact absurd g1 hS
      · have hpl' : pl l a (x :: xs) = ⟨S.toArray⟩ :: pl l x.1 xs := by rw [pl, g2, h5]; rfl
        have hlen : pre.length < ps.length := by rw [he, hpl']; simp
        have hg : ps.getD (Int.toNat (pre.length : Int)) ⟨#[]⟩ = ⟨S.toArray⟩ := by rw [he, hpl', getD_pre]
        have hd' : l.drop at_ = (Bz ++ B1) ++ (S ++ (B2 ++ l.drop x.1)) := by rw [hd, hda]; simp
        have hne := hB2 hS
        have st := words_step l (by omega) ps hps pre.length hlen S hS hg (fun c hc => (h2 c hc).1) (Bz ++ B1) (B2 ++ l.drop x.1) at_ (by omega) hd' (fun c hc => by
          rcases List.mem_append.1 hc with hc | hc
          · exact hB c hc
          · exact h1 c hc) (fun c r hr => by
            cases B2 with
            | nil => exact absurd rfl hne
            | cons d B2 => cases hr; exact h3 _ (by simp))
        obtain ⟨g3, g4⟩ := drop_len hd' (by omega)
        obtain ⟨g5, g6⟩ := drop_len g4 g3
        have hlB : B1.length + (S.length + B2.length) = x.1 - a := by rw [← hpn, h]; simp
        have ih := bwords_loop b l hv hs hpl ps hps xs (pre ++ [⟨S.toArray⟩]) x.1 (at_ + (Bz ++ B1).length + S.length) B2 (by rw [he, hpl']; simp) h5' g6 h3 (by simp; omega)
        rw [show (pre ++ [(⟨S.toArray⟩ : ByteArray)]).length = pre.length + 1 by simp] at ih
        refine ⟨?_, ?_⟩
        · rw [st]; exact ih.1
        · rw [hpl', List.length_cons, ih.2, hda, wc_blank _ _ h1, wc_S h2 hS, wc_true_blank h3 hne]; omega
theorem words_true (b : api_Breaks) (s : ByteArray) (hs : s.size ≤ 9223372036854775807) : formelaw08_BreaksWords b s = some true := by
  obtain ⟨l, rfl⟩ := as_list s
  rw [sz] at hs
  unfold formelaw08_BreaksWords
  simp only [head_true, usable_mk b l hs, some_bind]
  cases hu : (decide (l.length ≤ 300) && (vb b && okS l))
  · rfl
  · obtain ⟨h1, h2, h3, h4⟩ := use_open hu
    have hv : (vb b && okS l) = true := by rw [h2, h3]; rfl
    have hLS := LS_len b l
    rw [Bool.not_true, if_neg (by simp)]
    rcases words_scan l (by omega) _ 0 rfl (Nat.zero_le _) with h | ⟨h, hp⟩
    · rw [show ((0 : Nat) : Int) = 0 from rfl] at h
      rw [h]; rfl
    · rw [show ((0 : Nat) : Int) = 0 from rfl] at h
      rw [h, some_bind]
      obtain ⟨⟨q, k1, k2, k3⟩, k4⟩ := bwords_loop b l h2 h1 (by simpa using hp) (LS b l) (by omega) (LP b l) [] 0 0 [] (by rw [LS_pl]; rfl) (LP_al b l) rfl (fun _ h => nomatch h) rfl
      rw [show ((0 : Nat) : Int) = 0 from rfl, show (([] : List ByteArray).length : Int) = 0 from rfl] at k1
      rw [List.drop_zero, ← LS_pl] at k4
      have k5 := skip2 l (by omega) _ q rfl k3 k2
      simp only [least_mk b l h4, hv, if_true, some_bind, words_mk h3, k1, k5, sz, decide_true, k4]
end Go.Proofs.YtiahgcidgbalkaaDoor.LG
