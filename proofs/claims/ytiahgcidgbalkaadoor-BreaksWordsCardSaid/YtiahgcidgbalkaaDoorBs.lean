/-
  BreaksJoins, BreaksWords: the plain laws. Plain Lean; no program in sight.
-/
import Derived.Test.YtiahgcidgbalkaaDoorBr
set_option linter.unusedVariables false
set_option linter.unusedSimpArgs false
set_option maxRecDepth 100000
namespace Go.Proofs.YtiahgcidgbalkaaDoor.LG
open Go Go.LG Go.Lib

/-! ### 1. Places of parts -/
theorem pls_append (f : Nat → Option Bool) : ∀ (n m a : Nat), pls f a (n + m) = pls f a n ++ pls f (a + n) m
  | 0, m, a => by simp [pls]
  | n + 1, m, a => by
    rw [show n + 1 + m = (n + m) + 1 by omega]
    simp only [pls]
    rw [pls_append f n m (a + 1), show a + 1 + n = a + (n + 1) by omega]
    cases f a <;> rfl
theorem pls_congr (f g : Nat → Option Bool) : ∀ (n a : Nat), (∀ j, a ≤ j → j < a + n → f j = g j) → pls f a n = pls g a n
  | 0, a, _ => rfl
  | n + 1, a, h => by
    simp only [pls]
    rw [h a (Nat.le_refl _) (by omega), pls_congr f g n (a + 1) (fun j h1 h2 => h j (by omega) (by omega))]
def mv (s : Nat) (p : Nat × Bool) : Nat × Bool := (p.1 + s, p.2)
theorem pls_shift (f g : Nat → Option Bool) (s : Nat) : ∀ (n a : Nat), (∀ j, a ≤ j → j < a + n → f (j + s) = g j) → pls f (a + s) n = (pls g a n).map (mv s)
  | 0, a, _ => rfl
  | n + 1, a, h => by
    simp only [pls]
    rw [h a (Nat.le_refl _) (by omega), show a + s + 1 = a + 1 + s by omega, pls_shift f g s n (a + 1) (fun j h1 h2 => h j (by omega) (by omega))]
    cases g a <;> rfl
theorem run_stop {x : List UInt8} {c : UInt8} {y : List UInt8} (hc : c.toNat = 32) : run (x ++ c :: y) = run x := by
  induction x with
  | nil => rw [List.nil_append, run_cons, mo_blank hc]; simp [run_nil]
  | cons b x ih => rw [List.cons_append, run_cons, run_cons, ih]
def c32 : UInt8 := 32
theorem c32_nat : c32.toNat = 32 := rfl
section
variable {b : api_Breaks} {l t : List UInt8}
theorem getD_left {i : Nat} (h : i < l.length) : (l ++ c32 :: t).getD i 0 = l.getD i 0 := by
  rw [List.getD_eq_getElem?_getD, List.getD_eq_getElem?_getD, List.getElem?_append_left h]
theorem getD_mid : (l ++ c32 :: t).getD l.length 0 = c32 := by
  rw [List.getD_eq_getElem?_getD, List.getElem?_append_right (Nat.le_refl _)]; simp
theorem getD_right (i : Nat) : (l ++ c32 :: t).getD (i + (l.length + 1)) 0 = t.getD i 0 := by
  rw [List.getD_eq_getElem?_getD, List.getD_eq_getElem?_getD, List.getElem?_append_right (by omega), show i + (l.length + 1) - l.length = i + 1 by omega, List.getElem?_cons_succ]
theorem plc_left {a : Nat} (h1 : 1 ≤ a) (h2 : a < l.length) : plc b (l ++ c32 :: t) a = plc b l a := by
  have e1 : (l ++ c32 :: t).take a = l.take a := by rw [List.take_append_of_le_length (by omega)]
  have e2 : (l ++ c32 :: t).take (a - 1) = l.take (a - 1) := by rw [List.take_append_of_le_length (by omega)]
  have e3 : (l ++ c32 :: t).drop a = l.drop a ++ c32 :: t := by rw [List.drop_append_of_le_length (by omega)]
  have eb : back (l ++ c32 :: t) a = back l a := by unfold back; rw [e2]
  have ef : fwd (l ++ c32 :: t) a = fwd l a := by unfold fwd; rw [e3, run_stop c32_nat]
  unfold plc soP
  rw [getD_left (show a - 1 < l.length by omega), getD_left h2, getD_left (show a - 2 < l.length by omega), e1, eb, ef]
theorem plc_edge (hv : vb b = true) (h1 : 1 ≤ l.length) (hl : (l.getD (l.length - 1) 0).toNat ≠ 32) : plc b (l ++ c32 :: t) l.length = none := by
  unfold plc
  rw [getD_left (show l.length - 1 < l.length by omega), getD_mid, if_neg hl]
  by_cases c2 : (l.getD (l.length - 1) 0).toNat = 45
  · rw [if_pos c2, if_neg]
    intro h
    have := h.2.2
    rw [c32_nat, show ((32 : Nat) : Int) = 32 from rfl, soI_blank] at this
    cases this
  · rw [if_neg c2]
    by_cases c3 : (l.getD (l.length - 1) 0).toNat = 126
    · rw [if_pos c3, if_neg]
      intro h
      unfold soP at h
      simp only [Bool.and_eq_true, decide_eq_true_eq] at h
      have h4 := h.1.2
      have : fwd (l ++ c32 :: t) l.length = [] := by
        unfold fwd
        rw [List.drop_left, run_cons, mo_blank c32_nat]; simp
      rw [this] at h4
      have := (vb_open hv).2.2.1
      simp at h4
      omega
    · rw [if_neg c3]
theorem nb_mem {x : List UInt8} {c : UInt8} (h : c ∈ x) (hc : c.toNat ≠ 32) : nb x = true := by
  unfold nb
  rw [List.any_eq_true]
  exact ⟨c, h, by simpa using hc⟩
theorem plc_mid (h1 : 1 ≤ l.length) (hl : (l.getD (l.length - 1) 0).toNat ≠ 32) (ht : (t.getD 0 0).toNat ≠ 32) : plc b (l ++ c32 :: t) (l.length + 1) = some false := by
  unfold plc
  have e2 : (l ++ c32 :: t).getD (l.length + 1) 0 = t.getD 0 0 := by
    have := getD_right (l := l) (t := t) 0
    rwa [Nat.zero_add] at this
  rw [show l.length + 1 - 1 = l.length by omega, getD_mid, if_pos c32_nat, e2, if_pos]
  refine ⟨?_, ht⟩
  refine nb_mem (c := l.getD (l.length - 1) 0) ?_ hl
  rw [getD_of (show l.length - 1 < l.length by omega), List.mem_take_iff_getElem]
  refine ⟨l.length - 1, by simp; omega, ?_⟩
  rw [List.getElem_append_left (by omega)]
theorem plc_right {a : Nat} (h1 : 1 ≤ a) (h2 : a < t.length) (hl1 : 1 ≤ l.length) (hl : (l.getD (l.length - 1) 0).toNat ≠ 32) (ht : (t.getD 0 0).toNat ≠ 32) : plc b (l ++ c32 :: t) (a + (l.length + 1)) = plc b t a := by
  have g1 : (l ++ c32 :: t).getD (a + (l.length + 1) - 1) 0 = t.getD (a - 1) 0 := by
    rw [show a + (l.length + 1) - 1 = a - 1 + (l.length + 1) by omega, getD_right]
  have g0 : (l ++ c32 :: t).getD (a + (l.length + 1)) 0 = t.getD a 0 := getD_right a
  have n1 : nb ((l ++ c32 :: t).take (a + (l.length + 1))) = true := by
    refine nb_mem (c := l.getD (l.length - 1) 0) ?_ hl
    rw [getD_of (show l.length - 1 < l.length by omega), List.mem_take_iff_getElem]
    refine ⟨l.length - 1, by simp; omega, ?_⟩
    rw [List.getElem_append_left (by omega)]
  have n2 : nb (t.take a) = true := by
    refine nb_mem (c := t.getD 0 0) ?_ ht
    rw [getD_of (show 0 < t.length by omega), List.mem_take_iff_getElem]
    exact ⟨0, by omega, rfl⟩
  have eb : back (l ++ c32 :: t) (a + (l.length + 1)) = back t a := by
    unfold back
    have e : (l ++ c32 :: t).take (a + (l.length + 1) - 1) = l ++ c32 :: t.take (a - 1) := by
      rw [List.take_append, List.take_of_length_le (by omega), show a + (l.length + 1) - 1 - l.length = (a - 1) + 1 by omega, List.take_succ_cons]
    rw [e, List.reverse_append, List.reverse_cons, List.append_assoc]
    exact run_stop c32_nat
  have ef : fwd (l ++ c32 :: t) (a + (l.length + 1)) = fwd t a := by
    unfold fwd
    congr 1
    rw [List.drop_append, List.drop_eq_nil_of_le (by omega), List.nil_append, show a + (l.length + 1) - l.length = a + 1 by omega, List.drop_succ_cons]
  have eqS : (2 ≤ a → soP b (l ++ c32 :: t) (a + (l.length + 1)) = soP b t a) := fun h => by
    unfold soP
    rw [eb, ef, show a + (l.length + 1) - 2 = a - 2 + (l.length + 1) by omega, getD_right]
    have q1 : 2 ≤ a - 2 + (l.length + 1) + 2 := by omega
    have q2 : 2 ≤ a + (l.length + 1) := by omega
    simp [h, q2]
  have eq1 : ¬ 2 ≤ a → (l ++ c32 :: t).getD (a + (l.length + 1) - 2) 0 = c32 := fun h => by
    rw [show a + (l.length + 1) - 2 = l.length by omega, getD_mid]
  unfold plc
  rw [g1, g0, n1, n2]
  by_cases c1 : (t.getD (a - 1) 0).toNat = 32
  · rw [if_pos c1, if_pos c1]
  · rw [if_neg c1, if_neg c1]
    by_cases ha : 2 ≤ a
    · rw [eqS ha, show a + (l.length + 1) - 2 = a - 2 + (l.length + 1) by omega, getD_right]
      have q2 : 2 ≤ a + (l.length + 1) := by omega
      simp [ha, q2]
    · rw [eq1 ha]
      have f1 : soP b (l ++ c32 :: t) (a + (l.length + 1)) = false := by
        unfold soP
        rw [eq1 ha, c32_nat, show ltI ((32 : Nat) : Int) = false from by decide]
        simp
      have f2 : soP b t a = false := by unfold soP; simp [ha]
      rw [f1, f2]
      have s32 : soI 32 = false := by decide
      simp [ha, c32_nat, s32]
/-- The places of two texts with a blank between them. -/
theorem LP_join (hv : vb b = true) (h1 : 1 ≤ l.length) (h2 : 1 ≤ t.length) (hl : (l.getD (l.length - 1) 0).toNat ≠ 32) (ht : (t.getD 0 0).toNat ≠ 32) :
    LP b (l ++ c32 :: t) = LP b l ++ ((l.length + 1, false) :: (LP b t).map (mv (l.length + 1))) := by
  unfold LP
  rw [show (l ++ c32 :: t).length - 1 = (l.length - 1) + (1 + (1 + (t.length - 1))) by simp; omega, pls_append, pls_congr _ (plc b l) _ 1 (fun j g1 g2 => plc_left g1 (by omega))]
  congr 1
  rw [pls_append, show 1 + (l.length - 1) = l.length by omega]
  have e1 : pls (plc b (l ++ c32 :: t)) l.length 1 = [] := by simp [pls, plc_edge hv h1 hl]
  rw [e1, List.nil_append, pls_append]
  have e2 : pls (plc b (l ++ c32 :: t)) (l.length + 1) 1 = [(l.length + 1, false)] := by simp [pls, plc_mid h1 hl ht]
  rw [e2, List.singleton_append]
  congr 1
  rw [show l.length + 1 + 1 = 1 + (l.length + 1) by omega]
  exact pls_shift _ _ _ _ _ fun j g1 g2 => plc_right g1 (by omega) h1 hl ht
end

/-! ### 2. BreaksJoins -/
theorem joins_loop (s : ByteArray) (k : Nat) (hsz : s.size = k) (hk : k ≤ 1000000) (ys : List (Nat × Bool)) (hy : ys.length ≤ 1000000) (hb : ∀ x ∈ ys, x.1 ≤ 1000000) : ∀ (xs pre : List (Nat × Bool)) (acc : List api_Break), ys = pre ++ xs → acc.length + xs.length ≤ 1000000000 →
    formelaw08_BreaksJoins_l182 s (ys.map brk) acc (pre.length : Int) = some (acc ++ (xs.map (mv (k + 1))).map brk)
  | [], pre, acc, he, ha => by
    have hl : (ys.map brk).length = pre.length := by rw [he]; simp
    rw [formelaw08_BreaksJoins_l182, hl, if_neg (by omega)]; simp
  | x :: xs, pre, acc, he, ha => by
    have hl : (ys.map brk).length = pre.length + (xs.length + 1) := by rw [he]; simp
    have hpl : pre.length + (xs.length + 1) ≤ 1000000 := by rw [he] at hy; simpa using hy
    have hx := hb x (by rw [he]; simp)
    have hg : (ys.map brk).getD (Int.toNat (pre.length : Int)) z_api_Break = brk x := by
      rw [he, List.map_append, List.map_cons, show (pre.length : Int) = ((pre.map brk).length : Int) by simp, getD_pre]
    simp only [List.length_cons] at ha
    have ih := joins_loop s k hsz hk ys hy hb xs (pre ++ [x]) (acc ++ [brk (mv (k + 1) x)]) (by rw [he]; simp) (by simp; omega)
    rw [show ((pre ++ [x]).length : Int) = (pre.length : Int) + 1 by simp] at ih
    have hA : (brk x).At = (x.1 : Int) := rfl
    have hH : (brk x).Hyphen = x.2 := rfl
    rw [formelaw08_BreaksJoins_l182, hl, if_pos (by omega), if_pos (by omega), if_pos (by omega), if_pos (by omega), hg, hA, hH, hsz, w64_id (n := (pre.length : Int) + 1) (by omega) (by omega), w64_id (n := (x.1 : Int) + (k : Int)) (by omega) (by omega), w64_id (by omega) (by omega)]
    have e : (⟨(x.1 : Int) + (k : Int) + 1, x.2⟩ : api_Break) = brk (mv (k + 1) x) := by
      unfold brk mv
      simp only
      congr 1
    rw [e, ih]
    simp
theorem join_mk (l t : List UInt8) : ((⟨l.toArray⟩ : ByteArray) ++ ⟨#[32]⟩) ++ ⟨t.toArray⟩ = ⟨(l ++ c32 :: t).toArray⟩ := by
  have h1 : (⟨l.toArray⟩ : ByteArray) ++ ⟨#[32]⟩ = ⟨(l ++ [c32]).toArray⟩ := mk_append l [c32]
  rw [h1, mk_append, List.append_assoc]; rfl
theorem okS_parts {l t : List UInt8} (h : okS (l ++ c32 :: t) = true) : okS l = true ∧ okS t = true := by
  obtain ⟨h1, h2⟩ := okS_all h
  simp only [List.length_append, List.length_cons] at h2
  exact ⟨okS_of (fun b hb => h1 b (by simp [hb])) (by omega), okS_of (fun b hb => h1 b (by simp [hb])) (by omega)⟩
theorem joins_true (b : api_Breaks) (s t : ByteArray) (hs : s.size ≤ 4611686018427387000) (ht : t.size ≤ 4611686018427387000) : formelaw08_BreaksJoins b s t = some true := by
  obtain ⟨l, rfl⟩ := as_list s
  obtain ⟨t, rfl⟩ := as_list t
  rw [sz] at hs ht
  have q1 : ((⟨#[32]⟩ : ByteArray)).size = 1 := rfl
  have q2 : ((⟨l.toArray⟩ : ByteArray) ++ ⟨#[32]⟩).size = l.length + 1 := by rw [ByteArray.size_append, sz, q1]
  have q3 : (l ++ c32 :: t).length = l.length + (t.length + 1) := by simp
  unfold formelaw08_BreaksJoins
  rw [head_true, some_bind, sz l, sz t, q1, if_pos (by omega), q2, if_pos (by omega), join_mk, usable_mk b _ (by omega), some_bind]
  cases hu : (decide ((l ++ c32 :: t).length ≤ 300) && (vb b && okS (l ++ c32 :: t)))
  · rfl
  · obtain ⟨h1, h2, h3, h4⟩ := use_open hu
    obtain ⟨ho1, ho2⟩ := okS_parts h3
    rw [Bool.not_true, if_neg (by simp), some_bind]
    cases l with
    | nil => simp
    | cons c l =>
      have n1 : ¬ ((⟨(c :: l).toArray⟩ : ByteArray) = ⟨#[]⟩) := fun h => by have := mk_nil.1 h; cases this
      rw [decide_eq_false n1, if_neg (by simp), some_bind]
      cases t with
      | nil => simp
      | cons d t =>
        have n2 : ¬ ((⟨(d :: t).toArray⟩ : ByteArray) = ⟨#[]⟩) := fun h => by have := mk_nil.1 h; cases this
        have e1 : w64 (((c :: l).length : Int) - 1) = (((c :: l).length - 1 : Nat) : Int) := by
          simp only [List.length_cons] at q3 h1 ⊢
          rw [w64_id (by omega) (by omega)]; omega
        have hlen1 : 1 ≤ (c :: l).length := by simp
        have hlen2 : 1 ≤ (d :: t).length := by simp
        generalize hL : c :: l = L at *
        generalize hT : d :: t = T at *
        rw [decide_eq_false n2, if_neg (by simp), e1, if_pos (by omega), bt_getD L (by omega)]
        have hT0 : bt ⟨T.toArray⟩ 0 = ((T.getD 0 0).toNat : Int) := bt_getD T (i := 0) (by omega)
        rw [if_pos (c := (0 : Int) ≤ 0 ∧ _) (by omega), hT0]
        by_cases b1 : (L.getD (L.length - 1) 0).toNat = 32
        · have b1' : (((L.getD (L.length - 1) 0).toNat : Int) = 32) := by omega
          rw [decide_eq_true b1', some_bind, if_pos rfl, some_bind, if_pos rfl]
        · have b1' : ¬ (((L.getD (L.length - 1) 0).toNat : Int) = 32) := by omega
          by_cases b2 : (T.getD 0 0).toNat = 32
          · have b2' : (((T.getD 0 0).toNat : Int) = 32) := by omega
            rw [decide_eq_false b1', some_bind, if_neg (by simp), decide_eq_true b2', some_bind, if_pos rfl]
          · have b2' : ¬ (((T.getD 0 0).toNat : Int) = 32) := by omega
            have hv1 : (vb b && okS L) = true := by rw [h2, ho1]; rfl
            have hv2 : (vb b && okS T) = true := by rw [h2, ho2]; rfl
            have hv3 : (vb b && okS (L ++ c32 :: T)) = true := by rw [h2, h3]; rfl
            have hLP := LP_len b L
            have hLPT := LP_len b T
            have hAl := LP_al b T
            have hbnd : ∀ x ∈ LP b T, x.1 ≤ 1000000 := by
              have : ∀ (xs : List (Nat × Bool)) (a : Nat), Al (plc b T) a xs T.length → ∀ x ∈ xs, x.1 < T.length := by
                intro xs
                induction xs with
                | nil => intro a _ x hx; cases hx
                | cons y ys ih =>
                  intro a ha x hx
                  rcases List.mem_cons.1 hx with rfl | hx
                  · exact ha.2.1
                  · exact ih _ ha.2.2.2.2 x hx
              intro x hx
              have := this _ _ hAl x hx
              omega
            have hj := joins_loop ⟨L.toArray⟩ L.length (sz L) (by omega) (LP b T) (by omega) hbnd (LP b T) [] ((LP b L).map brk ++ [brk (L.length + 1, false)]) rfl (by simp; omega)
            rw [show (([] : List (Nat × Bool)).length : Int) = 0 from rfl] at hj
            have eb : (⟨w64 (((L.length : Nat) : Int) + 1), false⟩ : api_Break) = brk (L.length + 1, false) := by
              rw [w64_id (by omega) (by omega)]; rfl
            have hall : LP b (L ++ c32 :: T) = _ := LP_join h2 hlen1 hlen2 b1 b2
            have hsame : (LP b L).map brk ++ [brk (L.length + 1, false)] ++ ((LP b T).map (mv (L.length + 1))).map brk = (LP b (L ++ c32 :: T)).map brk := by
              rw [hall]; simp
            rw [hsame] at hj
            have hLPA := LP_len b (L ++ c32 :: T)
            simp only [decide_eq_false b1', decide_eq_false b2', Bool.false_eq_true, if_false, some_bind, list_mk b _ h4, hv1, hv2, hv3, if_true, List.nil_append, eb]
            rw [if_pos (by simp; omega), if_pos (by simp; omega), hj, some_bind]
            simp only [decide_true, if_true, some_bind, same_self ((LP b (L ++ c32 :: T)).map brk) (by simp; omega)]

/-! ### 3. BreaksStricter -/
def Less (f g : Nat → Option Bool) : Prop := ∀ a, g a = f a ∨ (f a = some true ∧ g a = none)
theorem brk_inj {x y : Nat × Bool} : brk x = brk y ↔ x = y := by
  constructor
  · intro h
    unfold brk at h
    simp only [api_Break.mk.injEq] at h
    exact Prod.ext (by omega) h.2
  · rintro rfl; rfl
theorem getD_end (xs : List api_Break) : ∀ (k : Int), (xs.length : Int) ≤ k → xs.getD (Int.toNat k) z_api_Break = z_api_Break := by
  intro k hk
  rw [List.getD_eq_getElem?_getD, List.getElem?_eq_none (by omega)]; rfl
theorem strict_step (xs ys : List (Nat × Bool)) (pre pre' : List (Nat × Bool)) (x : Nat × Bool) (xs' ys' : List (Nat × Bool)) (hx : xs = pre ++ x :: xs') (hy : ys = pre' ++ ys') :
    ((if ((pre'.length : Nat) : Int) < (((ys.map brk).length : Nat) : Int) then (if (0 : Int) ≤ (pre'.length : Int) ∧ (pre'.length : Int) < (((ys.map brk).length : Nat) : Int) then (if (0 : Int) ≤ (pre.length : Int) ∧ (pre.length : Int) < (((xs.map brk).length : Nat) : Int) then some (decide (((ys.map brk).getD (Int.toNat (pre'.length : Int)) z_api_Break) = ((xs.map brk).getD (Int.toNat (pre.length : Int)) z_api_Break))) else none) else none) else some false) : Option Bool)
      = some (decide (ys'.head? = some x)) := by
  have hl : (xs.map brk).length = pre.length + (xs'.length + 1) := by rw [hx]; simp
  have hl' : (ys.map brk).length = pre'.length + ys'.length := by rw [hy]; simp
  have hg : (xs.map brk).getD (Int.toNat (pre.length : Int)) z_api_Break = brk x := by
    rw [hx, List.map_append, List.map_cons, show (pre.length : Int) = ((pre.map brk).length : Int) by simp, getD_pre]
  rw [hg, hl, hl']
  cases ys' with
  | nil => rw [if_neg (by simp)]; simp
  | cons y ys' =>
    have hg' : (ys.map brk).getD (Int.toNat (pre'.length : Int)) z_api_Break = brk y := by
      rw [hy, List.map_append, List.map_cons, show (pre'.length : Int) = ((pre'.map brk).length : Int) by simp, getD_pre]
    rw [hg', if_pos (by simp; omega), if_pos (by simp; omega), if_pos (by omega)]
    congr 1
    simp only [List.head?_cons, Option.some.injEq, brk_inj]
theorem pls_head (f : Nat → Option Bool) : ∀ (n a : Nat) (y : Nat × Bool) (ys : List (Nat × Bool)), pls f a n = y :: ys → a ≤ y.1
  | 0, a, y, ys, h => by cases h
  | n + 1, a, y, ys, h => by
    simp only [pls] at h
    cases hf : f a with
    | none => rw [hf] at h; have := pls_head f n (a + 1) y ys h; omega
    | some v => rw [hf] at h; cases h; exact Nat.le_refl _
theorem strict_loop1 (f g : Nat → Option Bool) (hL : Less f g) (xs ys : List (Nat × Bool)) (hxs : xs.length ≤ 1000000) (hys : ys.length ≤ 1000000) : ∀ (n a : Nat) (pre pre' : List (Nat × Bool)), xs = pre ++ pls f a n → ys = pre' ++ pls g a n →
    formelaw08_BreaksStricter_l162 (xs.map brk) (ys.map brk) (pre'.length : Int) (pre.length : Int) = some (.inr (ys.length : Int)) := by
  intro n
  induction n with
  | zero =>
    intro a pre pre' hx hy
    have hl : (xs.map brk).length = pre.length := by rw [hx]; simp [pls]
    have hl' : ys.length = pre'.length := by rw [hy]; simp [pls]
    rw [formelaw08_BreaksStricter_l162, hl, if_neg (by omega), hl']
  | succ n ih =>
    intro a pre pre' hx hy
    simp only [pls] at hx hy
    cases hf : f a with
    | none =>
      have hg : g a = none := by
        rcases hL a with h | h
        · rw [h, hf]
        · rw [hf] at h; cases h.1
      rw [hf] at hx; rw [hg] at hy
      exact ih (a + 1) pre pre' hx hy
    | some v =>
      rw [hf] at hx
      simp only at hx
      have hl : (xs.map brk).length = pre.length + ((pls f (a + 1) n).length + 1) := by rw [hx]; simp
      have hpl : pre.length + ((pls f (a + 1) n).length + 1) ≤ 1000000 := by rw [hx] at hxs; simpa using hxs
      have hgx : (xs.map brk).getD (Int.toNat (pre.length : Int)) z_api_Break = brk (a, v) := by
        rw [hx, List.map_append, List.map_cons, show (pre.length : Int) = ((pre.map brk).length : Int) by simp, getD_pre]
      have hH : (brk (a, v)).Hyphen = v := rfl
      have hB : (0 : Int) ≤ (pre.length : Int) ∧ (pre.length : Int) < (((xs.map brk).length : Nat) : Int) := by rw [hl]; omega
      rw [formelaw08_BreaksStricter_l162, if_pos hB.2]
      cases hg : g a with
      | some u =>
        have hu : u = v := by
          rcases hL a with h | h
          · rw [h, hf] at hg; cases hg; rfl
          · rw [h.2] at hg; cases hg
        subst hu
        rw [hg] at hy
        simp only at hy
        have hyl : pre'.length + ((pls g (a + 1) n).length + 1) ≤ 1000000 := by rw [hy] at hys; simpa using hys
        rw [strict_step xs ys pre pre' (a, u) _ _ hx hy, some_bind]
        simp only [List.head?_cons, decide_true, if_true, some_bind]
        rw [w64_id (n := (pre'.length : Int) + 1) (by omega) (by omega), w64_id (n := (pre.length : Int) + 1) (by omega) (by omega)]
        have := ih (a + 1) (pre ++ [(a, u)]) (pre' ++ [(a, u)]) (by rw [hx]; simp) (by rw [hy]; simp)
        rw [show ((pre ++ [(a, u)]).length : Int) = (pre.length : Int) + 1 by simp, show ((pre' ++ [(a, u)]).length : Int) = (pre'.length : Int) + 1 by simp] at this
        exact this
      | none =>
        have hv : v = true := by
          rcases hL a with h | h
          · rw [h, hf] at hg; cases hg
          · rw [hf] at h; exact Option.some.inj h.1
        subst hv
        rw [hg] at hy
        simp only at hy
        have hne : ¬ ((pls g (a + 1) n).head? = some (a, true)) := by
          intro h
          cases hp : pls g (a + 1) n with
          | nil => rw [hp] at h; cases h
          | cons y ys2 =>
            have := pls_head g n (a + 1) y ys2 hp
            rw [hp] at h
            simp at h
            rw [h] at this
            simp at this
            omega
        rw [strict_step xs ys pre pre' (a, true) _ _ hx hy, some_bind]
        simp only [decide_eq_false hne, Bool.false_eq_true, if_false]
        rw [if_pos hB, hgx, hH]
        simp only [Bool.not_true, Bool.false_eq_true, if_false, some_bind]
        rw [w64_id (n := (pre.length : Int) + 1) (by omega) (by omega)]
        have := ih (a + 1) (pre ++ [(a, true)]) pre' (by rw [hx]; simp) hy
        rw [show ((pre ++ [(a, true)]).length : Int) = (pre.length : Int) + 1 by simp] at this
        exact this
theorem strict_loop2 (f g : Nat → Option Bool) (hL : Less f g) (xs ys : List (Nat × Bool)) (hxs : xs.length ≤ 1000000) (hys : ys.length ≤ 1000000) : ∀ (n a : Nat) (pre pre' : List (Nat × Bool)), xs = pre ++ pls f a n → ys = pre' ++ pls g a n →
    formelaw08_BreaksStricter_l323 (xs.map brk) (ys.map brk) (pre'.length : Int) (pre.length : Int) = some (.inr (ys.length : Int)) := by
  intro n
  induction n with
  | zero =>
    intro a pre pre' hx hy
    have hl : (xs.map brk).length = pre.length := by rw [hx]; simp [pls]
    have hl' : ys.length = pre'.length := by rw [hy]; simp [pls]
    rw [formelaw08_BreaksStricter_l323, hl, if_neg (by omega), hl']
  | succ n ih =>
    intro a pre pre' hx hy
    simp only [pls] at hx hy
    cases hf : f a with
    | none =>
      have hg : g a = none := by
        rcases hL a with h | h
        · rw [h, hf]
        · rw [hf] at h; cases h.1
      rw [hf] at hx; rw [hg] at hy
      exact ih (a + 1) pre pre' hx hy
    | some v =>
      rw [hf] at hx
      simp only at hx
      have hl : (xs.map brk).length = pre.length + ((pls f (a + 1) n).length + 1) := by rw [hx]; simp
      have hpl : pre.length + ((pls f (a + 1) n).length + 1) ≤ 1000000 := by rw [hx] at hxs; simpa using hxs
      have hgx : (xs.map brk).getD (Int.toNat (pre.length : Int)) z_api_Break = brk (a, v) := by
        rw [hx, List.map_append, List.map_cons, show (pre.length : Int) = ((pre.map brk).length : Int) by simp, getD_pre]
      have hH : (brk (a, v)).Hyphen = v := rfl
      have hB : (0 : Int) ≤ (pre.length : Int) ∧ (pre.length : Int) < (((xs.map brk).length : Nat) : Int) := by rw [hl]; omega
      rw [formelaw08_BreaksStricter_l323, if_pos hB.2]
      cases hg : g a with
      | some u =>
        have hu : u = v := by
          rcases hL a with h | h
          · rw [h, hf] at hg; cases hg; rfl
          · rw [h.2] at hg; cases hg
        subst hu
        rw [hg] at hy
        simp only at hy
        have hyl : pre'.length + ((pls g (a + 1) n).length + 1) ≤ 1000000 := by rw [hy] at hys; simpa using hys
        rw [strict_step xs ys pre pre' (a, u) _ _ hx hy, some_bind]
        simp only [List.head?_cons, decide_true, if_true, some_bind]
        rw [w64_id (n := (pre'.length : Int) + 1) (by omega) (by omega), w64_id (n := (pre.length : Int) + 1) (by omega) (by omega)]
        have := ih (a + 1) (pre ++ [(a, u)]) (pre' ++ [(a, u)]) (by rw [hx]; simp) (by rw [hy]; simp)
        rw [show ((pre ++ [(a, u)]).length : Int) = (pre.length : Int) + 1 by simp, show ((pre' ++ [(a, u)]).length : Int) = (pre'.length : Int) + 1 by simp] at this
        exact this
      | none =>
        have hv : v = true := by
          rcases hL a with h | h
          · rw [h, hf] at hg; cases hg
          · rw [hf] at h; exact Option.some.inj h.1
        subst hv
        rw [hg] at hy
        simp only at hy
        have hne : ¬ ((pls g (a + 1) n).head? = some (a, true)) := by
          intro h
          cases hp : pls g (a + 1) n with
          | nil => rw [hp] at h; cases h
          | cons y ys2 =>
            have := pls_head g n (a + 1) y ys2 hp
            rw [hp] at h
            simp at h
            rw [h] at this
            simp at this
            omega
        rw [strict_step xs ys pre pre' (a, true) _ _ hx hy, some_bind]
        simp only [decide_eq_false hne, Bool.false_eq_true, if_false]
        rw [if_pos hB, hgx, hH]
        simp only [Bool.not_true, Bool.false_eq_true, if_false, some_bind]
        rw [w64_id (n := (pre.length : Int) + 1) (by omega) (by omega)]
        have := ih (a + 1) (pre ++ [(a, true)]) pre' (by rw [hx]; simp) hy
        rw [show ((pre ++ [(a, true)]).length : Int) = (pre.length : Int) + 1 by simp] at this
        exact this
theorem plc_less {b c : api_Breaks} (l : List UInt8) (h1 : b.Before ≤ c.Before) (h2 : b.Behind ≤ c.Behind) (h3 : ∀ k ∈ b.Keep, k ∈ c.Keep) : Less (plc b l) (plc c l) := by
  intro a
  unfold plc
  by_cases c1 : (l.getD (a - 1) 0).toNat = 32
  · rw [if_pos c1, if_pos c1]; exact .inl rfl
  · rw [if_neg c1, if_neg c1]
    by_cases c2 : (l.getD (a - 1) 0).toNat = 45
    · rw [if_pos c2, if_pos c2]; exact .inl rfl
    · rw [if_neg c2, if_neg c2]
      by_cases c3 : (l.getD (a - 1) 0).toNat = 126
      · rw [if_pos c3, if_pos c3]
        cases hc : soP c l a
        · cases hb : soP b l a
          · exact .inl rfl
          · exact .inr ⟨rfl, rfl⟩
        · have : soP b l a = true := by
            unfold soP at hc ⊢
            simp only [Bool.and_eq_true, decide_eq_true_eq, Bool.not_eq_true', decide_eq_false_iff_not] at hc ⊢
            exact ⟨⟨⟨hc.1.1.1, by omega⟩, by omega⟩, fun h => hc.2 (h3 _ h)⟩
          rw [this]; exact .inl rfl
      · rw [if_neg c3, if_neg c3]; exact .inl rfl
theorem cut_keep (ks : List ByteArray) (k : ByteArray) : cutl (ks ++ [k]) 0 (ks.length : Int) = ks := by
  unfold cutl
  simp
theorem strict_num {n : Int} (h1 : 1 ≤ n) (h2 : n ≤ 5) {d : Int} (h3 : 0 ≤ d) (h4 : d ≤ 255) : n ≤ min 5 (w64 (n + Int.tmod (w64 d) 3)) ∧ 1 ≤ min 5 (w64 (n + Int.tmod (w64 d) 3)) ∧ min 5 (w64 (n + Int.tmod (w64 d) 3)) ≤ 5 := by
  rw [w64_id (n := d) (by omega) (by omega)]
  have e : Int.tmod d 3 = d % 3 := Int.tmod_eq_emod_of_nonneg h3
  rw [e, w64_id (by omega) (by omega)]
  omega
theorem stricter_true (b : api_Breaks) (s : ByteArray) (x y : Int) (k : ByteArray) (hs : s.size ≤ 9223372036854775807) (hx : 0 ≤ x ∧ x ≤ 255) (hy : 0 ≤ y ∧ y ≤ 255) : formelaw08_BreaksStricter b s x y k = some true := by
  obtain ⟨l, rfl⟩ := as_list s
  rw [sz] at hs
  unfold formelaw08_BreaksStricter
  rw [head_true, some_bind, usable_mk b l hs, some_bind]
  cases hu : (decide (l.length ≤ 300) && (vb b && okS l))
  · rfl
  · obtain ⟨h1, h2, h3, h4⟩ := use_open hu
    obtain ⟨v1, v2, v3, v4, v5, v6⟩ := vb_open h2
    have hv : (vb b && okS l) = true := by rw [h2, h3]; rfl
    obtain ⟨p1, p2, p3⟩ := strict_num v1 v2 hx.1 hx.2
    obtain ⟨r1, r2, r3⟩ := strict_num v3 v4 hy.1 hy.2
    rw [Bool.not_true, if_neg (by simp), List.nil_append, if_pos (by simp; omega), if_pos (by omega)]
    generalize min 5 (w64 (b.Before + Int.tmod (w64 x) 3)) = n at *
    generalize min 5 (w64 (b.Behind + Int.tmod (w64 y) 3)) = m at *
    have hLP := LP_len b l
    rw [refvalid_any, some_bind]
    cases hc : vb ⟨n, m, b.Keep ++ [k]⟩
    · rw [Bool.not_false, if_pos rfl, if_pos (by simp; omega), cut_keep]
      have hcv : vb ⟨n, m, b.Keep⟩ = true := by
        unfold vb
        simp only [Bool.and_eq_true, decide_eq_true_eq]
        exact ⟨⟨⟨⟨p2, p3⟩, ⟨r2, r3⟩⟩, v5⟩, v6⟩
      have hv2 : (vb ⟨n, m, b.Keep⟩ && okS l) = true := by rw [hcv, h3]; rfl
      have hLP2 := LP_len ⟨n, m, b.Keep⟩ l
      have hl := strict_loop1 (plc b l) (plc ⟨n, m, b.Keep⟩ l) (plc_less l p1 r1 (fun _ h => h)) (LP b l) (LP ⟨n, m, b.Keep⟩ l) (by omega) (by omega) (l.length - 1) 1 [] [] rfl rfl
      rw [show (([] : List (Nat × Bool)).length : Int) = 0 from rfl] at hl
      simp only [list_mk b l h4, list_mk ⟨n, m, b.Keep⟩ l h4, hv, hv2, if_true, some_bind, hl, decide_true, List.length_map]
    · rw [Bool.not_true, if_neg (by simp)]
      have hv2 : (vb ⟨n, m, b.Keep ++ [k]⟩ && okS l) = true := by rw [hc, h3]; rfl
      have hLP2 := LP_len ⟨n, m, b.Keep ++ [k]⟩ l
      have hl := strict_loop2 (plc b l) (plc ⟨n, m, b.Keep ++ [k]⟩ l) (plc_less l p1 r1 (fun q h => by simp [h])) (LP b l) (LP ⟨n, m, b.Keep ++ [k]⟩ l) (by omega) (by omega) (l.length - 1) 1 [] [] rfl rfl
      rw [show (([] : List (Nat × Bool)).length : Int) = 0 from rfl] at hl
      simp only [list_mk b l h4, list_mk ⟨n, m, b.Keep ++ [k]⟩ l (by simp; omega), hv, hv2, if_true, some_bind, hl, decide_true, List.length_map]
end Go.Proofs.YtiahgcidgbalkaaDoor.LG
