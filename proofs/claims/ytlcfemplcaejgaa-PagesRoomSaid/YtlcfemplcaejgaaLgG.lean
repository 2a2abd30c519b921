/-
 LG, part G: a region that draws the order of its operations. ONE relation over what is done; each operation is shown once.
-/
import Derived.Test.YtlcfemplcaejgaaLgF
import Derived.OrdersIn
set_option linter.unusedVariables false
set_option linter.unusedSimpArgs false
namespace Go.LG
open Go.RowKit
def gX (ops : Array Oper) (i : Nat) : List Nat := match ops[i]? with
 | some o => (o.after.toList.filter fun e => Region.binds .any e).map (·.on)
 | none => []
def oW (ops : Array Oper) (B : List Nat) : Bool := (List.range ops.size).all fun i => (gX ops i).all (fun j => decide (j < i)) && (gX ops i).all fun j => (B.getD i 0).testBit j && (List.range ops.size).all fun k => !(B.getD j 0).testBit k || (B.getD i 0).testBit k
def ot (ops : Array Oper) (B : List Nat) : Bool := (List.range ops.size).all fun i => decide (B.getD i 0 < 2 ^ ops.size) && (List.range ops.size).all fun k => !(B.getD i 0).testBit k || (gX ops i).any fun j => j == k || (B.getD j 0).testBit k
def up (D : Nat → Bool) (i : Nat) : Nat → Bool := fun j => cond (Nat.beq j i) true (D j)
theorem nz (D : Nat → Bool) (i : Nat) : up D i i = true := by simp [up]
theorem mM {D : Nat → Bool} {i j : Nat} (h : j ≠ i) : up D i j = D j := by
 have : Nat.beq j i = false := by
  cases hb : Nat.beq j i with
  | false => rfl
  | true => exact absurd (Nat.eq_of_beq_eq_true hb) h
 simp [up, this]
section
variable {P : Program} {ro : Option Nat} {N : Nat} {ops : Array Oper} {Q : d6} {r : Rg} {ds : List Deferred} {w : World}
def oo (P : Program) (ro : Option Nat) (N : Nat) (ops : Array Oper) (B : List Nat) (ds : List Deferred) (R : (Nat → Bool) → Rg → World → Prop) (i : Nat) (o : Oper) : Prop :=
 ∀ D r w, R D r w → D i = false → (∀ j, (B.getD i 0).testBit j = true → D j = true) → (∀ j, (B.getD j 0).testBit i = true → D j = false) →
  bE P ro N ops [o] (fun e r' _ w' => e = .normal ∧ R (up D i) r' w') r ds w
theorem lg {o : Oper} {i : Nat} (ho : ops[i]? = some o) {K : Rg → World → Prop} (h : bE P ro N ops [o] (fun e r' _ w' => e = .normal ∧ K r' w') r ds w) {K' : Act → World → Prop} {Q' : Exit → Act → World → Prop}
  (hK : ∀ a w r', Agree N r' a → a.defers = ds → K r' w → K' a w) {a : Act} (ha : Agree N r a) (hd : a.defers = ds) : wpOpIn (FW ro) 0 P ops Q' i K' a w := by
 unfold wpOpIn
 rw [ho]
 simp only
 have hy : yielded ops a.tmps = aC ops N r := funext fun j => ha.yield ops j
 rw [hy]
 simp only [bE] at h
 have hdd : ∀ v, (a.put o.dst v).defers = ds := fun v => by cases o.dst <;> exact hd
 split
 ·rename_i hw
  rw [if_pos hw] at h
  refine ⟨fun _ _ => trivial, ?_⟩
  rw [ha.ev]
  unfold n2 at h
  show Oper.uponIn (FW ro) 0 P o a _ _ ((o.semAt ro (ev N r)).run P w)
  generalize (o.semAt ro (ev N r)).run P w = res at h
  cases res with
  | halt x w' => exact h.elim
  | ok x w' =>
   cases x with
   | value v => exact hK _ _ _ (ha.put o.dst v) (hdd v) h.2
   | skip => exact hK _ _ _ (ha.put o.dst undef) (hdd undef) h.2
   | enter f args =>
    refine ⟨fun hh => by simp [FW, Fence.wide] at hh, j6 (h.mono fun e w'' hh => ?_)⟩
    obtain ⟨v, rfl, _, hh⟩ := hh
    exact hK _ _ _ (ha.put o.dst v) (hdd v) hh
   | round l f tmps assign body =>
    refine ⟨fun hh => by simp [FW, Fence.wide] at hh, h.mono fun e w'' hh => ?_⟩
    obtain ⟨v, rfl, _, hh⟩ := hh
    exact hK _ _ _ (ha.put o.dst v) (hdd v) hh
   | _ => exact h.elim
 ·rename_i hw
  rw [if_neg hw] at h
  exact ⟨fun _ _ => trivial, hK _ _ _ (ha.put o.dst undef) (hdd undef) h.2⟩
theorem kg {ops : Array Oper} {listed : Array Bool} {i : Nat} : i ∈ Region.ready .any ops listed ↔ i < ops.size ∧ listed.getD i true = false ∧ ∀ j ∈ gX ops i, listed.getD j false = true := by
 unfold Region.ready
 simp only [List.mem_filter, List.mem_range, Bool.and_eq_true, Bool.not_eq_true', gX]
 constructor
 ·rintro ⟨hi, h1, h2⟩
  refine ⟨hi, h1, fun j hj => ?_⟩
  rw [Array.getElem?_eq_getElem hi] at h2 hj
  simp only [Option.map_some, Option.getD_some, Array.all_eq_true', Bool.or_eq_true, Bool.not_eq_true'] at h2
  simp only [List.mem_map, List.mem_filter, Array.mem_toList_iff] at hj
  obtain ⟨e, ⟨he, hb⟩, rfl⟩ := hj
  rcases h2 e he with h | h
  ·rw [hb] at h; cases h
  ·exact h
 ·rintro ⟨hi, h1, h2⟩
  refine ⟨hi, h1, ?_⟩
  rw [Array.getElem?_eq_getElem hi] at h2 ⊢
  simp only [Option.map_some, Option.getD_some, Array.all_eq_true', Bool.or_eq_true, Bool.not_eq_true']
  intro e he
  cases hb : Region.binds .any e with
  | false => exact .inl rfl
  | true => exact .inr (h2 e.on (by simp only [List.mem_map, List.mem_filter, Array.mem_toList_iff]; exact ⟨e, ⟨he, hb⟩, rfl⟩))
theorem oD {p q : Nat → Bool} {i : Nat} (hq : ∀ j, j ≠ i → q j = p j) (h0 : p i = false) (h1 : q i = true) : ∀ n, (List.range n).countP q = (List.range n).countP p + (if i < n then 1 else 0)
 | 0 => by simp
 | n + 1 => by
  rw [List.range_succ, List.countP_append, List.countP_append, oD hq h0 h1 n]
  by_cases hi : i = n
  ·subst hi
   simp [h0, h1]
  ·have : q n = p n := hq n (fun e => hi e.symm)
   by_cases hlt : i < n
   ·have h2 : i < n + 1 := by omega
    simp [this, hlt, h2]; omega
   ·have h2 : ¬ i < n + 1 := by omega
    simp [this, hlt, h2]
theorem n8 {id : Nat} (B : List Nat) (R : (Nat → Bool) → Rg → World → Prop) (hm : P.follows .mixedOrders = true) (hA : oW ops B = true) (hB : ot ops B = true)
  (h0 : R (fun _ => false) r w.drew) (hstep : ∀ i o, ops[i]? = some o → oo P ro N ops B ds R i o) (hend : ∀ D r' w', (∀ i, i < ops.size → D i = true) → R D r' w' → Q .normal r' ds w') :
  fZ P ro N (.region id ops true) Q r ds w := by
 intro a ha hd
 refine wpIn_region_any hm ?_
 have hback : ∀ i, i < ops.size → ∀ j ∈ gX ops i, j < i := fun i hi j hj => by
  simp only [oW, List.all_eq_true, List.mem_range, Bool.and_eq_true, decide_eq_true_eq] at hA
  exact (hA i hi).1 j hj
 have hmin : ∀ i, i < ops.size → ∀ k, (B.getD i 0).testBit k = true → k < ops.size ∧ ∃ j ∈ gX ops i, j = k ∨ (B.getD j 0).testBit k = true := fun i hi k hb => by
  simp only [ot, List.all_eq_true, List.mem_range, Bool.and_eq_true, Bool.or_eq_true, Bool.not_eq_true', List.any_eq_true, beq_iff_eq, decide_eq_true_eq] at hB
  obtain ⟨hlt, h⟩ := hB i hi
  have hk : k < ops.size := by
   rcases Nat.lt_or_ge k ops.size with h | h
   ·exact h
   ·exfalso
    have : (B.getD i 0).testBit k = false := Nat.testBit_lt_two_pow (Nat.lt_of_lt_of_le hlt (Nat.pow_le_pow_right (by omega) h))
    rw [this] at hb; cases hb
  refine ⟨hk, ?_⟩
  rcases h k hk with h | h
  ·rw [hb] at h; cases h
  ·exact h
 have key : ∀ (fuel : Nat) (listed : Array Bool) (r : Rg) (a : Act) (w : World), listed.size = ops.size → ops.size ≤ fuel + (List.range ops.size).countP (fun i => listed.getD i true) →
   (∀ i, i < ops.size → listed.getD i true = true → ∀ j ∈ gX ops i, listed.getD j true = true) → R (fun i => listed.getD i true && decide (i < ops.size)) r w → Agree N r a → a.defers = ds →
   wpAnyIn (FW ro) 0 P .any ops (lift N Q) fuel listed a w := by
  intro fuel
  induction fuel with
  | zero =>
   intro listed r a w hsz hcnt hcl hR ha hd
   have hall : ∀ i, i < ops.size → listed.getD i true = true := by
    have h1 := List.countP_le_length (p := fun i => listed.getD i true) (l := List.range ops.size)
    have h2 : (List.range ops.size).countP (fun i => listed.getD i true) = (List.range ops.size).length := by rw [List.length_range] at h1 ⊢; omega
    have h3 := List.countP_eq_length.1 h2
    exact fun i hi => h3 i (List.mem_range.2 hi)
   refine ⟨?_, r, ha, hd ▸ hend _ r w (fun i hi => by simp [hall i hi, hi]) hR⟩
   refine List.eq_nil_iff_forall_not_mem.2 fun i hi => ?_
   obtain ⟨h1, h2, _⟩ := kg.1 hi
   rw [hall i h1] at h2; cases h2
  | succ fuel ih =>
   intro listed r a w hsz hcnt hcl hR ha hd
   have hgd : ∀ j, j < ops.size → listed.getD j false = listed.getD j true := fun j hj => by
    have : j < listed.size := by omega
    simp [Array.getD, this]
   refine ⟨fun hnil => ?_, fun i hi => ?_⟩
   ·have hall : ∀ n, ∀ i, i < n → i < ops.size → listed.getD i true = true := by
     intro n
     induction n with
     | zero => intro i hi; omega
     | succ n ihn =>
      intro i hi his
      cases hl : listed.getD i true with
      | true => rfl
      | false =>
       have : i ∈ Region.ready .any ops listed := kg.2 ⟨his, hl, fun j hj => by
        have hji := hback i his j hj
        rw [hgd j (by omega)]
        exact ihn j (by omega) (by omega)⟩
       rw [hnil] at this; cases this
    exact ⟨r, ha, hd ▸ hend _ r w (fun i hi => by simp [hall (i + 1) i (by omega) hi, hi]) hR⟩
   ·obtain ⟨his, hl, hdeps⟩ := kg.1 hi
    have hdeps' : ∀ j ∈ gX ops i, listed.getD j true = true := fun j hj => by
     have := hback i his j hj
     rw [← hgd j (by omega)]; exact hdeps j hj
    have hanc : ∀ n, ∀ m, m < n → m < ops.size → (∀ j ∈ gX ops m, listed.getD j true = true) → ∀ k, (B.getD m 0).testBit k = true → listed.getD k true = true := by
     intro n
     induction n with
     | zero => intro m hm; omega
     | succ n ihn =>
      intro m hmn hms hd' k hb
      obtain ⟨hk, j, hj, h⟩ := hmin m hms k hb
      have hjm := hback m hms j hj
      rcases h with rfl | h
      ·exact hd' j hj
      ·exact ihn j (by omega) (by omega) (hcl j (by omega) (hd' j hj)) k h
    have ho : ops[i]? = some ops[i] := Array.getElem?_eq_getElem his
    have hDi : (listed.getD i true && decide (i < ops.size)) = false := by rw [hl]; rfl
    refine lg ho (hstep i _ ho _ r w hR hDi (fun j hb => ?_) (fun j hb => ?_)) (fun a' w' r' ha' hd' hR' => ?_) ha hd
    ·have hj := (hmin i his j hb).1
     simp [hanc (i + 1) i (by omega) his hdeps' j hb, hj]
    ·by_cases hj : j < ops.size
     ·cases hlj : listed.getD j true with
      | false => rfl
      | true =>
       have := hanc (j + 1) j (by omega) hj (hcl j hj hlj) i hb
       rw [hl] at this; cases this
     ·simp [hj]
    ·have hset : ∀ j, (listed.setIfInBounds i true).getD j true = (if j = i then true else listed.getD j true) := fun j => by
      have hil : i < listed.size := by omega
      simp only [Array.getD_eq_getD_getElem?, Array.getElem?_setIfInBounds]
      by_cases hji : j = i
      ·subst hji; simp [hil]
      ·rw [if_neg (fun e => hji e.symm), if_neg hji]
     refine ih _ r' a' w' (by simpa using hsz) ?_ ?_ ?_ ha' hd'
     ·have := oD (p := fun j => listed.getD j true) (q := fun j => (listed.setIfInBounds i true).getD j true) (i := i) (fun j hj => by rw [hset, if_neg hj]) hl (by rw [hset, if_pos rfl]) ops.size
      rw [this, if_pos his]
      omega
     ·intro m hms hlm j hj
      rw [hset] at hlm ⊢
      split
      ·rfl
      ·by_cases hmi : m = i
       ·subst hmi; exact hdeps' j hj
       ·rw [if_neg hmi] at hlm; exact hcl m hms hlm j hj
     ·have : (fun j => (listed.setIfInBounds i true).getD j true && decide (j < ops.size)) = up (fun j => listed.getD j true && decide (j < ops.size)) i := by
       funext j
       rw [hset]
       by_cases hji : j = i
       ·subst hji; simp [nz, his]
       ·rw [if_neg hji, mM hji]
      rw [this]; exact hR'
 exact key ops.size _ r a _ (by simp) (by omega) (fun i hi hl => by simp [hi] at hl) (by
  have : (fun i => (Array.replicate ops.size false).getD i true && decide (i < ops.size)) = fun _ => false := by
   funext i
   by_cases hi : i < ops.size <;> simp [hi]
  rw [this]; exact h0) ha hd
def il (P : Program) (ro : Option Nat) (N : Nat) (ops : Array Oper) (B : List Nat) (ds : List Deferred) (R : (Nat → Bool) → Rg → World → Prop) : Nat → List Oper → Prop
 | _, [] => True
 | k, o :: l => oo P ro N ops B ds R k o ∧ il P ro N ops B ds R (k + 1) l
theorem il.get {B : List Nat} {R : (Nat → Bool) → Rg → World → Prop} : ∀ (l : List Oper) (k : Nat), il P ro N ops B ds R k l → ∀ i o, l[i]? = some o → oo P ro N ops B ds R (k + i) o
 | [], k, h, i, o, ho => by simp at ho
 | o' :: l, k, h, 0, o, ho => by
  simp at ho; subst ho; exact h.1
 | o' :: l, k, h, i + 1, o, ho => by
  have := il.get l (k + 1) h.2 i o (by simpa using ho)
  rwa [show k + 1 + i = k + (i + 1) by omega] at this
theorem aM {id : Nat} (B : List Nat) (R : (Nat → Bool) → Rg → World → Prop) (hm : P.follows .mixedOrders = true) (hA : oW ops B = true) (hB : ot ops B = true)
  (h0 : R (fun _ => false) r w.drew) (hstep : il P ro N ops B ds R 0 ops.toList) (hend : ∀ D r' w', (∀ i, i < ops.size → D i = true) → R D r' w' → Q .normal r' ds w') :
  fZ P ro N (.region id ops true) Q r ds w :=
 n8 B R hm hA hB h0 (fun i o ho => by
  have := il.get ops.toList 0 hstep i o (by simpa using ho)
  rwa [Nat.zero_add] at this) hend

structure ag (ins : List (Nat × Value)) (ins2 : List (Nat × Value × Nat)) (vals : List (Nat × Nat × Value)) (D : Nat → Bool) (r : Rg) : Prop where
 ins : Has ins r
 ins2 : ∀ e ∈ ins2, D e.2.2 = false → r e.1 = e.2.1
 vals : ∀ e ∈ vals, D e.1 = true → r e.2.1 = e.2.2
theorem Has.put {d : Nat} {v : Value} : ∀ {l : List (Nat × Value)} {r : Rg}, Has l r → l.all (fun e => !(Nat.beq e.1 d)) = true → Has l (r.put d v)
 | [], r, _, _ => trivial
 | (t, u) :: l, r, h, hk => by
  simp only [List.all_cons, Bool.and_eq_true, Bool.not_eq_true'] at hk
  refine ⟨?_, h.2.put hk.2⟩
  rw [Rg.put_ne r v (fun e => by subst e; simp at hk)]
  exact h.1
theorem Has.mem : ∀ {l : List (Nat × Value)} {r : Rg}, Has l r → ∀ e ∈ l, r e.1 = e.2
 | [], r, _, e, he => by cases he
 | (t, u) :: l, r, h, e, he => by
  rcases List.mem_cons.1 he with rfl | he
  ·exact h.1
  ·exact h.2.mem e he
section
variable {ins : List (Nat × Value)} {ins2 : List (Nat × Value × Nat)} {vals vals' : List (Nat × Nat × Value)} {D : Nat → Bool}
theorem ag.start (h : Has ins r) (h2 : Has (ins2.map fun e => (e.1, e.2.1)) r) : ag ins ins2 vals (fun _ => false) r :=
 ⟨h, fun e he _ => by
  have := h2.mem (e.1, e.2.1) (List.mem_map.2 ⟨e, he, rfl⟩)
  exact this, fun e _ h => by cases h⟩
theorem ag.get (h : ag ins ins2 vals D r) (k : Nat) {j d : Nat} {v : Value} (hk : vals[k]? = some (j, d, v)) (hD : D j = true) : r d = v := h.vals _ (List.mem_of_getElem? hk) hD
theorem ag.step (h : ag ins ins2 vals D r) {i d : Nat} {v : Value} (hD : D i = false) (h1 : ins.all (fun e => !(Nat.beq e.1 d)) = true) (h2 : ins2.all (fun e => Nat.beq e.2.2 i || !(Nat.beq e.1 d)) = true)
  (h3 : vals.filter (fun e => Nat.beq e.1 i) = [(i, d, v)]) (h4 : vals.all (fun e => Nat.beq e.1 i || !(Nat.beq e.2.1 d)) = true) : ag ins ins2 vals (up D i) (r.put d v) := by
 refine ⟨h.ins.put h1, fun e he hu => ?_, fun e he hu => ?_⟩
 ·have := List.all_eq_true.1 h2 e he
  simp only [Bool.or_eq_true, Bool.not_eq_true'] at this
  by_cases hi : e.2.2 = i
  ·rw [hi, nz] at hu; cases hu
  ·rw [mM hi] at hu
   rcases this with hb | hb
   ·exact absurd (Nat.eq_of_beq_eq_true hb) hi
   ·rw [Rg.put_ne r v (fun e' => by rw [e'] at hb; simp at hb)]
    exact h.ins2 e he hu
 ·by_cases hi : e.1 = i
  ·have hm : e ∈ vals.filter (fun e => Nat.beq e.1 i) := List.mem_filter.2 ⟨he, by rw [hi]; exact Nat.beq_refl i⟩
   rw [h3] at hm
   obtain rfl := List.mem_singleton.1 hm
   exact Rg.put_same r d v
  ·have := List.all_eq_true.1 h4 e he
   simp only [Bool.or_eq_true, Bool.not_eq_true'] at this
   rw [mM hi] at hu
   rcases this with hb | hb
   ·exact absurd (Nat.eq_of_beq_eq_true hb) hi
   ·rw [Rg.put_ne r v (fun e' => by rw [e'] at hb; simp at hb)]
    exact h.vals e he hu
theorem ag.stepN (h : ag ins ins2 vals D r) {i : Nat} (h2 : ins2.all (fun e => !(Nat.beq e.2.2 i)) = true) (h3 : vals.all (fun e => !(Nat.beq e.1 i)) = true) : ag ins ins2 vals (up D i) r := by
 refine ⟨h.ins, fun e he hu => ?_, fun e he hu => ?_⟩
 ·have := List.all_eq_true.1 h2 e he
  simp only [Bool.not_eq_true'] at this
  have hi : e.2.2 ≠ i := fun e' => by rw [e'] at this; simp at this
  rw [mM hi] at hu
  exact h.ins2 e he hu
 ·have := List.all_eq_true.1 h3 e he
  simp only [Bool.not_eq_true'] at this
  have hi : e.1 ≠ i := fun e' => by rw [e'] at this; simp at this
  rw [mM hi] at hu
  exact h.vals e he hu
theorem ag.more (h : ag ins ins2 vals D r) {new : List (Nat × Nat × Value)} (hn : ∀ e ∈ new, D e.1 = false) : ag ins ins2 (vals ++ new) D r :=
 ⟨h.ins, h.ins2, fun e he hu => by
  rcases List.mem_append.1 he with he | he
  ·exact h.vals e he hu
  ·rw [hn e he] at hu; cases hu⟩
theorem Has.ex {l : List (Nat × Value)} {r : Rg} (h : Has l r) : ∃ r0, r = lT l r0 := ⟨r, h.eq⟩
theorem Has.get {l : List (Nat × Value)} {r : Rg} (h : Has l r) (k : Nat) {t : Nat} {v : Value} (hk : l[k]? = some (t, v)) : r t = v := h.mem _ (List.mem_of_getElem? hk)
end
end
end Go.LG
