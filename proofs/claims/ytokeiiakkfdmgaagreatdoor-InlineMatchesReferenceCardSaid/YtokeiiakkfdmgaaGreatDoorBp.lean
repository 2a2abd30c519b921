/-
 What the functions of package breaks, and of its reference, compute: places, lists, parts. Plain Lean; no program in sight.
-/
import Derived.Test.YtokeiiakkfdmgaaGreatDoorBm
import Derived.Lib.ReplaceLaws
set_option linter.unusedVariables false
set_option linter.unusedSimpArgs false
namespace Go.Proofs.YtokeiiakkfdmgaaGreatDoor.LG
open Go Go.LG Go.Lib

def back (l : List UInt8) (at_ : Nat) : List UInt8 := run (l.take (at_ - 1)).reverse
def fwd (l : List UInt8) (at_ : Nat) : List UInt8 := run (l.drop at_)
def key2 (x y : UInt8) : ByteArray := ⟨#[x, y]⟩
def soP (b : api_Breaks) (l : List UInt8) (at_ : Nat) : Bool :=
 decide (2 ≤ at_) && ltI ((l.getD (at_ - 2) 0).toNat : Int) && decide (b.Before ≤ ((back l at_).length : Int)) && decide (b.Behind ≤ ((fwd l at_).length : Int)) && !decide (key2 ((back l at_).headD 0) ((fwd l at_).headD 0) ∈ b.Keep)
def nb (l : List UInt8) : Bool := l.any fun c => decide (c.toNat ≠ 32)
def plc (b : api_Breaks) (l : List UInt8) (at_ : Nat) : Option Bool :=
 if (l.getD (at_ - 1) 0).toNat = 32 then (if nb (l.take at_) = true ∧ (l.getD at_ 0).toNat ≠ 32 then some false else none)
 else if (l.getD (at_ - 1) 0).toNat = 45 then (if 2 ≤ at_ ∧ soI ((l.getD (at_ - 2) 0).toNat : Int) = true ∧ soI ((l.getD at_ 0).toNat : Int) = true then some false else none)
 else if (l.getD (at_ - 1) 0).toNat = 126 then (if soP b l at_ = true then some true else none)
 else none
theorem bt_getD (l : List UInt8) {i : Nat} (h : i < l.length) : bt ⟨l.toArray⟩ (i : Int) = ((l.getD i 0).toNat : Int) := by
 rw [bt_mk l h, List.getD_eq_getElem?_getD, List.getElem?_eq_getElem h]; rfl
theorem sub_one (x : UInt8) (xs : List UInt8) : sub ⟨(x :: xs).toArray⟩ 0 1 = ⟨#[x]⟩ := by
 rw [show (0 : Int) = ((0 : Nat) : Int) from rfl, show (1 : Int) = ((1 : Nat) : Int) from rfl, sub_data]
 simp
theorem soft_mk (b : api_Breaks) (l : List UInt8) (hs : l.length ≤ 1000000) (m : List (ByteArray × Bool)) (hm : ∀ k, (mget m k).getD false = decide (k ∈ b.Keep)) (h1 : 1 ≤ b.Before) (h2 : 1 ≤ b.Behind)
  {at_ : Nat} (ha : 1 ≤ at_) (hl : at_ < l.length) : breaks_ruled_soft_k1 b.Before b.Behind b.Keep ⟨l.toArray⟩ m (at_ : Int) = some (soP b l at_) := by
 unfold breaks_ruled_soft_k1 soP
 rw [w64_id (n := (at_ : Int) - 1) (by omega) (by omega), show (at_ : Int) - 1 = ((at_ - 1 : Nat) : Int) by omega, letters_bwd l hs _ _ _ _ (by omega), some_bind, letters_fwd l hs _ _ _ _ (by omega), some_bind, sz, sz, sz]
 show (_ >>= fun v43 => (_ >>= fun v57 => _)) = _
 rw [show run (l.take (at_ - 1)).reverse = back l at_ from rfl, show run (l.drop at_) = fwd l at_ from rfl]
 by_cases h3 : (at_ : Int) < 2
 ·have : ¬ 2 ≤ at_ := by omega
  rw [if_pos h3]
  simp [this]
 ·have e2 : 2 ≤ at_ := by omega
  rw [if_neg h3, w64_id (n := (at_ : Int) - 2) (by omega) (by omega), show (at_ : Int) - 2 = ((at_ - 2 : Nat) : Int) by omega, if_pos (by omega), bt_getD l (by omega), letter_eq, some_bind, some_bind]
  cases ltI ((l.getD (at_ - 2) 0).toNat : Int)
  ·simp
  ·by_cases h4 : ((back l at_).length : Int) < b.Before
   ·have : ¬ b.Before ≤ ((back l at_).length : Int) := by omega
    simp [h4, this]
   ·by_cases h5 : ((fwd l at_).length : Int) < b.Behind
    ·have : ¬ b.Behind ≤ ((fwd l at_).length : Int) := by omega
     simp [h4, h5, this]
    ·have e4 : b.Before ≤ ((back l at_).length : Int) := by omega
     have e5 : b.Behind ≤ ((fwd l at_).length : Int) := by omega
     simp only [h4, h5, e4, e5, e2, Bool.not_true, Bool.false_eq_true, if_false, some_bind, decide_true, decide_false, Bool.true_and]
     rw [if_pos (by omega), if_pos (by omega)]
     generalize back l at_ = x at *
     generalize fwd l at_ = y at *
     cases x with
     | nil => simp at e4; omega
     | cons x xs =>
      cases y with
      | nil => simp at e5; omega
      | cons y ys =>
       rw [sub_one, sub_one, if_pos (show (⟨#[x]⟩ : ByteArray).size + (⟨#[y]⟩ : ByteArray).size ≤ 9223372036854775807 from (by show 1 + 1 ≤ 9223372036854775807; omega)), hm]
       rfl
theorem kept_loop (b : api_Breaks) (hs : b.Keep.length ≤ 1000000) (x y : UInt8) (hv : ∀ k ∈ b.Keep, ∃ u v : UInt8, k = key2 u v) : ∀ (rest pre : List ByteArray), b.Keep = pre ++ rest →
  formeref08_kept_l28 b (x.toNat : Int) (y.toNat : Int) (pre.length : Int) = some (if key2 x y ∈ rest then .inl () else .inr ())
 | [], pre, hk => by rw [formeref08_kept_l28, if_neg (by rw [hk]; simp)]; simp
 | k :: ks, pre, hk => by
  have hl : b.Keep.length = pre.length + (ks.length + 1) := by rw [hk]; simp
  have hg : b.Keep.getD (Int.toNat (pre.length : Int)) ⟨#[]⟩ = k := by rw [hk, getD_pre]
  obtain ⟨u, v, rfl⟩ := hv k (by rw [hk]; simp)
  have ih := kept_loop b hs x y hv ks (pre ++ [key2 u v]) (by rw [hk]; simp)
  rw [show ((pre ++ [key2 u v]).length : Int) = (pre.length : Int) + 1 by simp] at ih
  have b0 : bt (key2 u v) 0 = (u.toNat : Int) := rfl
  have b1 : bt (key2 u v) 1 = (v.toNat : Int) := rfl
  have s2 : (key2 u v).size = 2 := rfl
  rw [formeref08_kept_l28, if_pos (by omega), if_pos (by omega), hg, s2, b0, b1, if_pos (by omega), w64_id (by omega) (by omega), ih]
  have hB : (0 : Int) ≤ (pre.length : Int) ∧ (pre.length : Int) < (b.Keep.length : Int) := by omega
  rw [if_pos hB]
  have inj : ∀ p q : UInt8, ((p.toNat : Int) = (q.toNat : Int)) ↔ p = q := fun p q => ⟨fun h => UInt8.toNat_inj.1 (by omega), fun h => by rw [h]⟩
  have kinj : key2 x y = key2 u v ↔ x = u ∧ y = v := by
   constructor
   ·intro h
    have := congrArg (fun k : ByteArray => k.data) h
    simpa [key2] using this
   ·rintro ⟨rfl, rfl⟩; rfl
  simp only [inj, List.mem_cons, kinj]
  by_cases e1 : u = x
  ·by_cases e2 : v = y
   ·simp [e1, e2]
   ·have e2' : ¬ y = v := fun h => e2 h.symm
    simp [e1, e2, e2']
  ·have e1' : ¬ x = u := fun h => e1 h.symm
   simp [e1, e1']
theorem vfrom_mem : ∀ (rest pre : List ByteArray), vfrom pre rest = true → ∀ k ∈ rest, kok k = true
 | [], _, _, k, hk => by cases hk
 | x :: xs, pre, h, k, hk => by
  rw [vfrom, Bool.and_eq_true, Bool.and_eq_true] at h
  rcases List.mem_cons.1 hk with rfl | hk
  ·exact h.1.1
  ·exact vfrom_mem xs _ h.2 k hk
theorem vb_open {b : api_Breaks} (h : vb b = true) : 1 ≤ b.Before ∧ b.Before ≤ 5 ∧ 1 ≤ b.Behind ∧ b.Behind ≤ 5 ∧ b.Keep.length ≤ 20 ∧ vfrom [] b.Keep = true := by
 unfold vb at h
 simp only [Bool.and_eq_true, decide_eq_true_eq] at h
 exact ⟨h.1.1.1.1, h.1.1.1.2, h.1.1.2.1, h.1.1.2.2, h.1.2, h.2⟩
theorem two_bytes {k : ByteArray} (h : (k.size : Int) = 2) : ∃ u v : UInt8, k = key2 u v := by
 obtain ⟨⟨l⟩⟩ := k
 have h' : l.length = 2 := by
  have : ((⟨⟨l⟩⟩ : ByteArray)).size = l.length := rfl
  omega
 match l, h' with
 | [u, v], _ => exact ⟨u, v, rfl⟩
theorem vb_keys {b : api_Breaks} (h : vb b = true) : ∀ k ∈ b.Keep, ∃ u v : UInt8, k = key2 u v := by
 intro k hk
 have := vfrom_mem _ _ (vb_open h).2.2.2.2.2 k hk
 unfold kok at this
 simp only [Bool.and_eq_true, decide_eq_true_eq] at this
 exact two_bytes this.1.1
theorem some_loop (l : List UInt8) (n : Nat) (hs : l.length ≤ 1000000) (hn : n ≤ l.length) : ∀ (k i : Nat), n - i = k → i ≤ n → formeref08_some_l19 ⟨l.toArray⟩ (n : Int) (i : Int) = some (if nb ((l.take n).drop i) = true then .inl () else .inr ()) := by
 intro k
 induction k with
 | zero =>
  intro i hk hi
  have : i = n := by omega
  subst this
  rw [formeref08_some_l19, if_neg (by omega)]
  simp [nb, List.drop_eq_nil_of_le]
 | succ k ih =>
  intro i hk hi
  have hlt : i < n := by omega
  have hl : i < l.length := by omega
  have hd : (l.take n).drop i = l[i] :: (l.take n).drop (i + 1) := by
   rw [List.drop_eq_getElem_cons (by simp; omega)]; simp
  rw [formeref08_some_l19, sz, bt_mk l hl, if_pos (by omega), if_pos (by omega), w64_id (by omega) (by omega), add1, ih (i + 1) (by omega) (by omega), hd]
  by_cases h : (l[i]).toNat = 32
  ·have h' : ((l[i]).toNat : Int) = 32 := by omega
   simp [h', nb, h]
  ·have h' : ¬ ((l[i]).toNat : Int) = 32 := by omega
   simp [h', nb, h]
theorem refplace_mk (b : api_Breaks) (l : List UInt8) (hv : vb b = true) (hs : l.length ≤ 1000000) {at_ : Nat} (ha : 1 ≤ at_) (hl : at_ < l.length) :
  formeref08_place b ⟨l.toArray⟩ (at_ : Int) = some ((plc b l at_).isSome, (plc b l at_).getD false) := by
 obtain ⟨v1, v2, v3, v4, v5, v6⟩ := vb_open hv
 unfold formeref08_place plc
 rw [w64_id (n := (at_ : Int) - 1) (by omega) (by omega), show (at_ : Int) - 1 = ((at_ - 1 : Nat) : Int) by omega, sz, if_pos (by omega), bt_getD l (show at_ - 1 < l.length by omega), bt_getD l hl]
 have hS := some_loop l at_ hs (by omega) _ 0 rfl (Nat.zero_le _)
 rw [List.drop_zero, show ((0 : Nat) : Int) = 0 from rfl] at hS
 by_cases c1 : (l.getD (at_ - 1) 0).toNat = 32
 ·rw [if_pos (by omega), if_pos c1]
  unfold formeref08_some
  rw [hS, some_bind]
  have hB : (0 : Int) ≤ (at_ : Int) ∧ (at_ : Int) < ((l.length : Nat) : Int) := by omega
  generalize (l.getD at_ 0).toNat = d
  by_cases d1 : d = 32
  ·have d1' : ((d : Nat) : Int) = 32 := by omega
   cases nb (l.take at_) <;> simp only [Bool.false_eq_true, if_false, if_true, some_bind] <;> rw [if_pos hB] <;> simp [d1, d1']
  ·have d1' : ¬ ((d : Nat) : Int) = 32 := by omega
   cases nb (l.take at_) <;> simp only [Bool.false_eq_true, if_false, if_true, some_bind] <;> rw [if_pos hB] <;> simp [d1, d1']
 ·rw [if_neg (by omega), if_neg c1]
  by_cases c2 : (l.getD (at_ - 1) 0).toNat = 45
  ·rw [if_pos (by omega), if_pos c2]
   by_cases h2 : (at_ : Int) < 2
   ·have : ¬ 2 ≤ at_ := by omega
    rw [if_pos h2]; simp [this]
   ·have e2 : 2 ≤ at_ := by omega
    rw [if_neg h2, w64_id (n := (at_ : Int) - 2) (by omega) (by omega), show (at_ : Int) - 2 = ((at_ - 2 : Nat) : Int) by omega, if_pos (by omega), bt_getD l (by omega), refsolid_eq, some_bind, if_pos (by omega), refsolid_eq, some_bind]
    cases soI ((l.getD (at_ - 2) 0).toNat : Int) <;> cases soI ((l.getD at_ 0).toNat : Int) <;> simp [e2]
  ·rw [if_neg (by omega), if_neg c2]
   by_cases c3 : (l.getD (at_ - 1) 0).toNat = 126
   ·rw [if_neg (by omega), if_pos c3]
    unfold soP
    by_cases h2 : (at_ : Int) < 2
    ·have : ¬ 2 ≤ at_ := by omega
     rw [if_pos h2]; simp [this]
    ·have e2 : 2 ≤ at_ := by omega
     rw [if_neg h2, w64_id (n := (at_ : Int) - 2) (by omega) (by omega), show (at_ : Int) - 2 = ((at_ - 2 : Nat) : Int) by omega, if_pos (by omega), bt_getD l (by omega), refletter_eq, some_bind]
     have hb := refbwd_loop l hs (at_ - 1) 0 0 (by omega)
     have hf := reffwd_loop l hs _ at_ 0 0 rfl (by omega) (by omega)
     rw [show ((at_ - 1 : Nat) : Int) - 1 = ((at_ - 2 : Nat) : Int) by omega] at hb
     rw [show ((0 : Nat) : Int) = 0 from rfl] at hb hf
     unfold formeref08_run
     rw [hb, hf]
     rw [show run (l.take (at_ - 1)).reverse = back l at_ from rfl, show run (l.drop at_) = fwd l at_ from rfl]
     simp only [some_bind, Nat.zero_add]
     cases ltI ((l.getD (at_ - 2) 0).toNat : Int)
     ·simp
     ·by_cases h4 : ((back l at_).length : Int) < b.Before
      ·have : ¬ b.Before ≤ ((back l at_).length : Int) := by omega
       simp [h4, this]
      ·by_cases h5 : ((fwd l at_).length : Int) < b.Behind
       ·have : ¬ b.Behind ≤ ((fwd l at_).length : Int) := by omega
        simp [h4, h5, this]
       ·have e4 : b.Before ≤ ((back l at_).length : Int) := by omega
        have e5 : b.Behind ≤ ((fwd l at_).length : Int) := by omega
        simp only [h4, h5, e4, e5, e2, Bool.not_true, Bool.false_eq_true, if_false, some_bind, decide_true, decide_false, Bool.true_and]
        generalize back l at_ = x at *
        generalize fwd l at_ = y at *
        cases x with
        | nil => simp at e4; omega
        | cons x xs =>
         cases y with
         | nil => simp at e5; omega
         | cons y ys =>
          have hK := kept_loop b (by omega) x y (vb_keys hv) b.Keep [] rfl
          rw [show (([] : List ByteArray).length : Int) = 0 from rfl] at hK
          unfold formeref08_kept
          simp only [fst, if_true]
          rw [hK, some_bind]
          simp only [List.headD_cons]
          by_cases hm : key2 x y ∈ b.Keep <;> simp [hm]
   ·rw [if_pos (by omega), if_neg c3]; simp

def pls (f : Nat → Option Bool) (at_ : Nat) : Nat → List (Nat × Bool)
 | 0 => []
 | n + 1 => match f at_ with
  | some h => (at_, h) :: pls f (at_ + 1) n
  | none => pls f (at_ + 1) n
def brk (p : Nat × Bool) : api_Break := ⟨(p.1 : Int), p.2⟩
def LP (b : api_Breaks) (l : List UInt8) : List (Nat × Bool) := pls (plc b l) 1 (l.length - 1)
theorem pls_len (f : Nat → Option Bool) : ∀ (n a : Nat), (pls f a n).length ≤ n
 | 0, _ => Nat.le_refl _
 | n + 1, a => by
  have := pls_len f n (a + 1)
  simp only [pls]
  split
  ·simp only [List.length_cons]; omega
  ·omega
def Up : Nat → List (Nat × Bool) → Nat → Prop
 | a, [], e => a ≤ e
 | a, x :: xs, e => a ≤ x.1 ∧ Up x.1 xs e
theorem Up.mono {a a' e e' : Nat} : ∀ {xs : List (Nat × Bool)}, a' ≤ a → e ≤ e' → Up a xs e → Up a' xs e'
 | [], h, h', hu => Nat.le_trans h (Nat.le_trans hu h')
 | x :: xs, h, h', hu => ⟨Nat.le_trans h hu.1, Up.mono (Nat.le_refl _) h' hu.2⟩
theorem pls_up (f : Nat → Option Bool) : ∀ (n a : Nat), Up a (pls f a n) (a + n)
 | 0, a => Nat.le_refl _
 | n + 1, a => by
  have := pls_up f n (a + 1)
  simp only [pls]
  split
  ·exact ⟨Nat.le_refl _, Up.mono (by simp) (by omega) this⟩
  ·exact Up.mono (by omega) (by omega) this
theorem refList_loop (b : api_Breaks) (l : List UInt8) (hv : vb b = true) (hs : l.length ≤ 1000000) : ∀ (n a : Nat) (acc : List api_Break), l.length - a = n → 1 ≤ a → acc.length ≤ a →
  formeref08_List_l76 b ⟨l.toArray⟩ acc (a : Int) = some (acc ++ (pls (plc b l) a n).map brk) := by
 intro n
 induction n with
 | zero =>
  intro a acc hn ha hc
  rw [formeref08_List_l76, sz, if_neg (by omega)]
  simp [pls]
 | succ n ih =>
  intro a acc hn ha hc
  rw [formeref08_List_l76, sz, if_pos (by omega), refplace_mk b l hv hs ha (by omega), some_bind, w64_id (by omega) (by omega), add1]
  simp only [pls]
  cases plc b l a with
  | none =>
   simp only [Option.isSome_none, Bool.false_eq_true, if_false, some_bind]
   exact ih (a + 1) acc (by omega) (by omega) (by omega)
  | some h =>
   simp only [Option.isSome_some, if_true, Option.getD_some]
   rw [if_pos (by omega), some_bind, ih (a + 1) _ (by omega) (by omega) (by simp; omega)]
   simp [brk]
theorem refList_mk (b : api_Breaks) (l : List UInt8) (hk : b.Keep.length ≤ 1000000) (hl : l.length ≤ 9223372036854775807) :
  formeref08_List b ⟨l.toArray⟩ = some (if (vb b && okS l) = true then ((LP b l).map brk, 0) else ([], 1)) := by
 unfold formeref08_List
 rw [refvalid8 b hk, some_bind, refValid_mk l hl, some_bind]
 cases hv : vb b
 ·simp
 ·cases ho : okS l
  ·simp
  ·have h2 := (okS_all ho).2
   have := refList_loop b l hv (by omega) (l.length - 1) 1 [] (by omega) (Nat.le_refl _) (by simp)
   rw [show ((1 : Nat) : Int) = 1 from rfl] at this
   simp only [Bool.not_true, Bool.false_eq_true, if_false, some_bind, this, List.nil_append, Bool.and_self, if_true]
   rfl
def foldY {σ : Type} (φ : σ → api_Break → Option (σ × Bool)) : List (Nat × Bool) → σ → Option (Sum σ σ)
 | [], s => some (.inr s)
 | x :: xs, s => φ s (brk x) >>= fun y => if y.2 = true then foldY φ xs y.1 else some (.inl y.1)
theorem nb_snoc (l : List UInt8) (a : Nat) (h : a < l.length) : nb (l.take (a + 1)) = (nb (l.take a) || decide ((l.getD a 0).toNat ≠ 32)) := by
 rw [List.take_succ_eq_append_getElem h, List.getD_eq_getElem?_getD, List.getElem?_eq_getElem h]
 unfold nb
 rw [List.any_append, List.any_cons, List.any_nil, Bool.or_false, Option.getD_some]
theorem places_loop {σ : Type} (φ : σ → api_Break → Option (σ × Bool)) (b : api_Breaks) (l : List UInt8) (m : List (ByteArray × Bool)) (hm : ∀ k, (mget m k).getD false = decide (k ∈ b.Keep)) (hv : vb b = true) (hs : l.length ≤ 1000000) :
  ∀ (n a : Nat) (s : σ), l.length - a = n → 1 ≤ a → breaks_ruled_places_1_k1_l36 φ b.Before b.Behind b.Keep ⟨l.toArray⟩ m (nb (l.take (a - 1))) (a : Int) s = foldY φ (pls (plc b l) a n) s := by
 obtain ⟨v1, v2, v3, v4, v5, v6⟩ := vb_open hv
 intro n
 induction n with
 | zero =>
  intro a s hn ha
  rw [breaks_ruled_places_1_k1_l36, sz, if_neg (by omega)]
  rfl
 | succ n ih =>
  intro a s hn ha
  have hl : a < l.length := by omega
  have begun : (if nb (l.take (a - 1)) = true then some true else (if (0 : Int) ≤ w64 ((a : Int) - 1) ∧ w64 ((a : Int) - 1) < ((l.length : Nat) : Int) then some (decide (¬ (bt ⟨l.toArray⟩ (w64 ((a : Int) - 1))) = 32)) else none)) = some (nb (l.take a)) := by
   rw [w64_id (n := (a : Int) - 1) (by omega) (by omega), show (a : Int) - 1 = ((a - 1 : Nat) : Int) by omega, if_pos (c := (0 : Int) ≤ _ ∧ _) (by omega), bt_getD l (by omega)]
   have := nb_snoc l (a - 1) (by omega)
   rw [show a - 1 + 1 = a by omega] at this
   rw [this]
   cases nb (l.take (a - 1))
   ·simp; omega
   ·simp
  have next := fun s => ih (a + 1) s (by omega) (by omega)
  rw [show a + 1 - 1 = a by omega] at next
  rw [breaks_ruled_places_1_k1_l36, sz, if_pos (by omega), begun, some_bind]
  rw [w64_id (n := (a : Int) - 1) (by omega) (by omega), w64_id (n := (a : Int) + 1) (by omega) (by omega), show (a : Int) - 1 = ((a - 1 : Nat) : Int) by omega, add1, if_pos (c := (0 : Int) ≤ ((a - 1 : Nat) : Int) ∧ _) (by omega), bt_getD l (show a - 1 < l.length by omega), bt_getD l hl]
  have yld : ∀ (h : Bool), decide (((l.getD (a - 1) 0).toNat : Int) = 126) = h →
    (((φ s (⟨(a : Int), decide (((l.getD (a - 1) 0).toNat : Int) = 126)⟩ : api_Break) >>= fun (s120, b121) => some (!b121, s120)) >>= fun (v109, v111) => (if v109 = true then some (Sum.inl v111) else some (Sum.inr (nb (l.take a), v111)))) >>= fun (o78 : Sum σ (Bool × σ)) => match o78 with | (Sum.inl v64) => some (Sum.inl v64) | (Sum.inr (v66, v68)) => breaks_ruled_places_1_k1_l36 φ b.Before b.Behind b.Keep ⟨l.toArray⟩ m v66 ((a + 1 : Nat) : Int) v68)
     = foldY φ ((a, h) :: pls (plc b l) (a + 1) n) s := by
   intro h hh
   rw [hh]
   show _ = φ s (brk (a, h)) >>= _
   show (((φ s (brk (a, h)) >>= _) >>= _) >>= _) = _
   cases φ s (brk (a, h)) with
   | none => rfl
   | some y =>
    obtain ⟨s', b'⟩ := y
    cases b'
    ·rfl
    ·simp only [some_bind, Bool.not_true, Bool.false_eq_true, if_false, if_true]
     exact next s'
  have nay : ((some (false, s) >>= fun (v109, v111) => (if v109 = true then some (Sum.inl v111) else some (Sum.inr (nb (l.take a), v111)))) >>= fun (o78 : Sum σ (Bool × σ)) => match o78 with | (Sum.inl v64) => some (Sum.inl v64) | (Sum.inr (v66, v68)) => breaks_ruled_places_1_k1_l36 φ b.Before b.Behind b.Keep ⟨l.toArray⟩ m v66 ((a + 1 : Nat) : Int) v68)
     = foldY φ (pls (plc b l) (a + 1) n) s := by
   simp only [some_bind, Bool.false_eq_true, if_false]
   exact next s
  simp only [pls]
  rw [plc.eq_1 b l a]
  by_cases c1 : (l.getD (a - 1) 0).toNat = 32
  ·rw [if_pos (c := ((l.getD (a - 1) 0).toNat : Int) = 32) (by omega), if_pos c1]
   have hd : ((if nb (l.take a) = true then (if (0 : Int) ≤ (a : Int) ∧ (a : Int) < ((l.length : Nat) : Int) then some (decide (¬ ((l.getD a 0).toNat : Int) = 32)) else none) else some false) : Option Bool) = some (decide (nb (l.take a) = true ∧ (l.getD a 0).toNat ≠ 32)) := by
    rw [if_pos (c := (0 : Int) ≤ (a : Int) ∧ _) (by omega)]
    generalize (l.getD a 0).toNat = d
    by_cases d1 : d = 32
    ·have d1' : ((d : Nat) : Int) = 32 := by omega
     cases nb (l.take a) <;> simp [d1, d1']
    ·have d1' : ¬ ((d : Nat) : Int) = 32 := by omega
     cases nb (l.take a) <;> simp [d1, d1']
   rw [hd, some_bind]
   by_cases hp : nb (l.take a) = true ∧ (l.getD a 0).toNat ≠ 32
   ·rw [if_pos hp, decide_eq_true hp]
    simp only [if_true]
    rw [if_pos (by omega)]
    exact yld false (decide_eq_false (by omega))
   ·rw [if_neg hp, decide_eq_false hp]
    simp only [if_false, Bool.false_eq_true]
    exact nay
  ·rw [if_neg (c := ((l.getD (a - 1) 0).toNat : Int) = 32) (by omega), if_neg c1]
   by_cases c2 : (l.getD (a - 1) 0).toNat = 45
   ·rw [if_pos (c := ((l.getD (a - 1) 0).toNat : Int) = 45) (by omega), if_pos c2]
    by_cases h2 : 2 ≤ a
    ·rw [if_pos (c := (1 : Int) < (a : Int)) (by omega), w64_id (n := (a : Int) - 2) (by omega) (by omega), show (a : Int) - 2 = ((a - 2 : Nat) : Int) by omega, if_pos (c := (0 : Int) ≤ ((a - 2 : Nat) : Int) ∧ _) (by omega), bt_getD l (show a - 2 < l.length by omega), solid_eq, some_bind, solid_eq, some_bind]
     rw [if_pos (c := (0 : Int) ≤ (a : Int) ∧ _) (by omega), some_bind]
     cases soI ((l.getD (a - 2) 0).toNat : Int)
     ·simp only [Bool.false_eq_true, if_false, some_bind, and_false, false_and]
      exact nay
     ·simp only [if_true, some_bind]
      cases soI ((l.getD a 0).toNat : Int)
      ·simp only [Bool.false_eq_true, if_false, and_false]
       exact nay
      ·simp only [h2, if_true, and_self]
       rw [if_pos (by omega)]
       exact yld false (decide_eq_false (by omega))
    ·rw [if_neg (c := (1 : Int) < (a : Int)) (by omega), some_bind]
     simp only [h2, Bool.false_eq_true, if_false, some_bind, false_and]
     exact nay
   ·rw [if_neg (c := ((l.getD (a - 1) 0).toNat : Int) = 45) (by omega), if_neg c2]
    by_cases c3 : (l.getD (a - 1) 0).toNat = 126
    ·rw [if_pos (c := ((l.getD (a - 1) 0).toNat : Int) = 126) (by omega), if_pos c3, soft_mk b l hs m hm v1 v3 ha hl, some_bind]
     cases soP b l a
     ·simp only [Bool.false_eq_true, if_false]
      exact nay
     ·simp only [if_true]
      rw [if_pos (by omega)]
      exact yld true (decide_eq_true (by omega))
    ·rw [if_neg (c := ((l.getD (a - 1) 0).toNat : Int) = 126) (by omega), if_neg c3]
     simp only [some_bind]
     exact next s
theorem places_mk {σ : Type} (φ : σ → api_Break → Option (σ × Bool)) (b : api_Breaks) (l : List UInt8) (m : List (ByteArray × Bool)) (hm : ∀ k, (mget m k).getD false = decide (k ∈ b.Keep)) (hv : vb b = true) (hs : l.length ≤ 1000000) (s : σ) :
  breaks_ruled_places_1_k1 φ s b.Before b.Behind b.Keep ⟨l.toArray⟩ m = foldY φ (LP b l) s >>= fun o => match o with | .inl v => some v | .inr v => some v := by
 have := places_loop φ b l m hm hv hs (l.length - 1) 1 s rfl (Nat.le_refl _)
 unfold breaks_ruled_places_1_k1 LP
 rw [← this]
 rfl
theorem LP_len (b : api_Breaks) (l : List UInt8) : (LP b l).length ≤ l.length := Nat.le_trans (pls_len _ _ _) (by omega)
theorem list_fold : ∀ (xs : List (Nat × Bool)) (acc : List api_Break), acc.length + xs.length ≤ 1000000 → foldY (rnd (fun u x => breaks_List_r104 u x)) xs (acc, none) = some (.inr (acc ++ xs.map brk, none))
 | [], acc, h => by simp [foldY]
 | x :: xs, acc, h => by
  have ih := list_fold xs (acc ++ [brk x]) (by simp at *; omega)
  simp only [List.length_cons] at h
  have step : rnd (fun u x => breaks_List_r104 u x) (acc, none) (brk x) = some ((acc ++ [brk x], none), true) := by
   unfold rnd breaks_List_r104
   simp only
   rw [if_pos (by omega)]; rfl
  show (rnd (fun u x => breaks_List_r104 u x) (acc, none) (brk x) >>= fun y => if y.2 = true then foldY (rnd (fun u x => breaks_List_r104 u x)) xs y.1 else some (.inl y.1)) = _
  rw [step, some_bind]
  simp only [if_true]
  rw [ih]
  simp
theorem list_mk (b : api_Breaks) (l : List UInt8) (hk : b.Keep.length ≤ 1000000) :
  breaks_List b ⟨l.toArray⟩ = some (if (vb b && okS l) = true then ((LP b l).map brk, 0) else ([], 1)) := by
 obtain ⟨m, h1, hm⟩ := prepare_mk b l hk
 unfold breaks_List
 rw [h1, some_bind]
 cases hv : vb b
 ·simp
 ·cases ho : okS l
  ·simp
  ·have h2 := (okS_all ho).2
   simp only [Bool.and_self, Bool.not_true, Bool.false_eq_true, if_false, if_true]
   unfold breaks_ruled_places_k1
   simp only [some_bind]
   rw [places_mk _ b l m hm hv (by omega), list_fold _ [] (by have := LP_len b l; simp; omega), some_bind]
   simp

def part (l : List UInt8) (a e : Nat) (h : Bool) : List UInt8 := trim (shown ((l.drop a).take (e - a))) ++ (if h = true then [45] else [])
theorem replaceK_shown : ∀ (s : List UInt8), replaceK [126] [] (s.count 126) s = shown s
 | [] => rfl
 | b :: s => by
  have ih := replaceK_shown s
  by_cases h : b = 126
  ·subst h
   rw [List.count_cons_self, replaceK_hit _ _ _ _ 0 (by rw [index_one]; rfl)]
   simpa [shown] using ih
  ·have h' : ¬ b.toNat = 126 := fun e => h (UInt8.toNat_inj.1 (by rw [e]; rfl))
   rw [List.count_cons_of_ne (fun e => h e), shown_cons, if_neg h', ← ih]
   cases hc : s.count 126 with
   | zero => rfl
   | succ k =>
    obtain ⟨i, hi⟩ := index_of_count (s := s) (old := [126]) (by rw [count_one]; omega)
    have hi' : index (b :: s) [126] = ((i + 1 : Nat) : Int) := by
     rw [index_one] at hi ⊢
     unfold indexByte
     simp [h, hi]
     all_goals omega
    rw [replaceK_hit _ _ _ _ _ hi, replaceK_hit _ _ _ _ _ hi']
    simp
theorem replaceAll_shown (s : List UInt8) : replaceAll s [126] [] = shown s := by
 have h1 : ¬ (([126] : List UInt8) == []) = true := by decide
 unfold replaceAll replace replaceNum
 rw [if_neg h1, if_pos (.inl (by omega)), count_one, replaceK_shown]
theorem mk_append (p q : List UInt8) : (⟨p.toArray⟩ : ByteArray) ++ ⟨q.toArray⟩ = ⟨(p ++ q).toArray⟩ := by
 apply ByteArray.ext
 simp
theorem trim_len (l : List UInt8) : (trim l).length ≤ l.length := by
 have h1 : (tr l).length ≤ l.length := by
  unfold tr trimRightB
  rw [List.length_reverse]
  exact Nat.le_trans (List.dropWhile_sublist _).length_le (by simp)
 exact Nat.le_trans (tl_len _) h1
theorem piece_len (l : List UInt8) (a e : Nat) : ((l.drop a).take (e - a)).length ≤ l.length := by simp; omega
theorem LP_up (b : api_Breaks) (l : List UInt8) : Up 0 (LP b l) l.length := by
 unfold LP
 by_cases h : l.length = 0
 ·rw [h]; exact Nat.le_refl _
 ·exact Up.mono (by omega) (by omega) (pls_up (plc b l) (l.length - 1) 1)
theorem okS_piece {l : List UInt8} (h : okS l = true) (a n : Nat) : okS ((l.drop a).take n) = true := by
 obtain ⟨h1, h2⟩ := okS_all h
 exact okS_of (fun b hb => h1 b (List.mem_of_mem_drop (List.mem_of_mem_take hb))) (by simp; omega)
theorem okS_shown {l : List UInt8} (h : okS l = true) : okS (shown l) = true := by
 obtain ⟨h1, h2⟩ := okS_all h
 exact okS_of (fun b hb => h1 b (shown_mem hb).1) (Nat.le_trans (shown_len l) h2)
theorem refShown_mk {l : List UInt8} (h : okS l = true) : formeref06_Shown ⟨l.toArray⟩ = some (⟨(shown l).toArray⟩, 0) := by
 have h2 := (okS_all h).2
 unfold formeref06_Shown
 rw [refValid_mk l (by omega), some_bind, h, refshown_mk (by omega)]
 rfl
theorem refTrim_mk {l : List UInt8} (h : okS l = true) : formeref06_Trim ⟨l.toArray⟩ = some (⟨(trim l).toArray⟩, 0) := by
 have h2 := (okS_all h).2
 unfold formeref06_Trim
 rw [refValid_mk l (by omega), some_bind, h]
 simp only [Bool.not_true, Bool.false_eq_true, if_false]
 rw [reftl_loop _ l rfl (by omega), some_bind, reftr_loop _ (tl l) rfl (by have := tl_len l; omega), some_bind, trim, tl_tr]
theorem refPart_mk {l : List UInt8} (ho : okS l = true) {a e : Nat} (hae : a ≤ e) (he : e ≤ l.length) (h : Bool) : formeref08_Part ⟨l.toArray⟩ (a : Int) (e : Int) h = some ⟨(part l a e h).toArray⟩ := by
 have h2 := (okS_all ho).2
 have hsl := shown_len ((l.drop a).take (e - a))
 have htl := trim_len (shown ((l.drop a).take (e - a)))
 have hp := piece_len l a e
 unfold formeref08_Part part
 rw [sz, if_pos (by omega), sub_data, refShown_mk (okS_piece ho _ _), some_bind]
 simp only
 rw [refTrim_mk (okS_shown (okS_piece ho _ _)), some_bind]
 cases h
 ·simp
 ·simp only [if_true]
  rw [sz, if_pos (by
   have : (⟨#[45]⟩ : ByteArray).size = 1 := rfl
   omega)]
  exact congrArg some (mk_append (trim (shown ((l.drop a).take (e - a)))) [45])
end Go.Proofs.YtokeiiakkfdmgaaGreatDoor.LG
