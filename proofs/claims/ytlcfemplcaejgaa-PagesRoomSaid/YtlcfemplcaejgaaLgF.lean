/-
 LG, part F: small words for the printed proofs.
-/
import Derived.Test.YtlcfemplcaejgaaLgE
set_option linter.unusedVariables false
set_option linter.unusedSimpArgs false
namespace Go.LG
open Go.RowKit
theorem my {c : Prop} [Decidable c] {α : Type} {a : Option α} {r : α} (h : (if c then a else none) = some r) : c ∧ a = some r := by
 by_cases hc : c
 ·rw [if_pos hc] at h; exact ⟨hc, h⟩
 ·rw [if_neg hc] at h; cases h
theorem pz {c : Prop} [Decidable c] {α : Type} {a b : Option α} {r : α} (hc : c) (h : (if c then a else b) = some r) : a = some r := by rw [if_pos hc] at h; exact h
theorem qb {c : Prop} [Decidable c] {α : Type} {a b : Option α} {r : α} (hc : ¬ c) (h : (if c then a else b) = some r) : b = some r := by rw [if_neg hc] at h; exact h
theorem bind_some {α β : Type} {x : Option α} {f : α → Option β} {r : β} (h : (x >>= f) = some r) : ∃ y, x = some y ∧ f y = some r := Option.bind_eq_some_iff.1 h
theorem fD {b : Bool} (h : b = true) : Value.bool b = .bool true := by rw [h]
theorem fF {b : Bool} (h : ¬ b = true) : Value.bool b = .bool false := by rw [Bool.eq_false_iff.2 h]
section
variable {P : Program} {ro : Option Nat} {N : Nat} {ops : Array Oper} {Q : d6} {r : Rg} {ds : List Deferred} {w : World}
theorem oE {o : Oper} {ρ : Operand → Value} {K K' : Value → World → Prop} (hk : ∀ v w, K v w → K' v w) (h : n2 P ro o ρ w K) : n2 P ro o ρ w K' := by
 unfold n2 at h ⊢
 generalize (o.semAt ro ρ).run P w = res at h ⊢
 cases res with
 | halt x w' => exact h
 | ok x w' =>
  cases x with
  | value v => exact hk _ _ h
  | skip => exact hk _ _ h
  | enter f args => exact h.mono fun e w' ⟨v, he, hv⟩ => ⟨v, he, hk _ _ hv⟩
  | round l f tmps assign body => exact h.mono fun e w' ⟨v, he, hv⟩ => ⟨v, he, hk _ _ hv⟩
  | _ => exact h
theorem lI {K : d6} : ∀ (n : Nat) {l : List Oper} {r : Rg} {ds : List Deferred} {w : World}, bE P ro N ops (l.take n) K r ds w → (∀ e r ds w, K e r ds w → bE P ro N ops (l.drop n) Q r ds w) →
  bE P ro N ops l Q r ds w
 | 0, l, r, ds, w, h, k => by
  have h' : K .normal r ds w := by simpa [bE] using h
  exact k _ _ _ _ h'
 | n + 1, [], r, ds, w, h, k => by
  have h' : K .normal r ds w := by simpa [bE] using h
  have := k _ _ _ _ h'
  simpa using this
 | n + 1, o :: l, r, ds, w, h, k => by
  have ih := fun {r ds w} h => @lI K n l r ds w h k
  simp only [List.take_succ_cons, bE] at h ⊢
  split
  ·rename_i hw
   rw [if_pos hw] at h
   exact oE (fun v w hh => ih hh) h
  ·rename_i hw
   rw [if_neg hw] at h
   exact ih h
theorem nM {j d : Nat} {want : Bool} {o : Oper} (hg : o.guard = some (j, want)) (hd : (ops[j]?).bind (·.dst) = some d) (hlt : Nat.blt d N = true) (hv : r d = .bool want) : Region.wanted o (aC ops N r) = true := by
 simp [Region.wanted, hg, aC, hd, hlt, hv]
theorem al {j d : Nat} {want : Bool} {o : Oper} {v : Value} (hg : o.guard = some (j, want)) (hd : (ops[j]?).bind (·.dst) = some d) (hlt : Nat.blt d N = true) (hv : r d = v)
  (hn : (match v with | .bool b => (b != want) | _ => true) = true) : Region.wanted o (aC ops N r) = false := by
 simp only [Region.wanted, hg, aC, hd, hlt, hv, cond_true]
 cases v <;> simp at hn ⊢
 exact hn
theorem Hp.emp {G : Gh} {L : List dv} (h : Hp G L w) : Hp G (LG.emp :: L) w := {
 os := h.os
 tape := h.tape
 out := h.out
 cel := h.cel
 blk := h.blk
 own := fun it hi g hg => by
  rcases List.mem_cons.1 hi with rfl | hi
  ·cases hg
  ·exact h.own it hi g hg
 sepB := fun it hi g hg => by
  rcases List.mem_cons.1 hi with rfl | hi
  ·cases hg
  ·exact h.sepB it hi g hg
 sepC := fun it hi g hg => by
  rcases List.mem_cons.1 hi with rfl | hi
  ·cases hg
  ·exact h.sepC it hi g hg
 sepL := List.pairwise_cons.2 ⟨(fun it hi g hg => by cases hg), h.sepL⟩ }
end
def pt : List dv → Nat → dv
 | [], _ => emp
 | x :: _, 0 => x
 | _ :: l, k + 1 => pt l k
def pkL (L : List dv) : List Nat → List dv → List dv
 | [], t => t
 | k :: ks, t => pt L k :: pkL L ks t
def pkO (n : Nat) : List Nat → Bool
 | [] => true
 | k :: ks => Nat.blt k n && !(ks.any (Nat.beq k)) && pkO n ks
theorem j2 : ∀ (L : List dv) (k : Nat) {g : Nat}, (pt L k).blk = some g → L[k]? = some (pt L k)
 | [], _, _, h => by cases h
 | x :: _, 0, _, _ => rfl
 | _ :: l, k + 1, _, h => by rw [List.getElem?_cons_succ]; exact j2 l k h
theorem Hp.pick {G : Gh} {L : List dv} {w : World} (n : Nat) (ks : List Nat) (I : Hp G L w) (h : pkO n ks = true) : Hp G (pkL L ks (L.drop n)) w := by
 have mem : ∀ (ks : List Nat) (it : dv) (g : Nat), it ∈ pkL L ks (L.drop n) → it.blk = some g → it ∈ L := by
  intro ks
  induction ks with
  | nil => intro it g hi _; exact List.mem_of_mem_drop hi
  | cons k ks ih =>
   intro it g hi hg
   rcases List.mem_cons.1 hi with rfl | hi
   ·exact List.mem_of_getElem? (j2 L k hg)
   ·exact ih it g hi hg
 have sep : ∀ (i j : Nat), i ≠ j → ∀ x y, L[i]? = some x → L[j]? = some y → ∀ g, x.blk = some g → y.blk ≠ some g := by
  intro i j hij x y hx hy g hg hg'
  obtain ⟨hi, hx⟩ := List.getElem?_eq_some_iff.1 hx
  obtain ⟨hj, hy⟩ := List.getElem?_eq_some_iff.1 hy
  have hp := List.pairwise_iff_getElem.1 I.sepL
  rcases Nat.lt_or_gt_of_ne hij with h | h
  ·exact hp i j hi hj h g (by rw [hx]; exact hg) (by rw [hy]; exact hg')
  ·exact hp j i hj hi h g (by rw [hy]; exact hg') (by rw [hx]; exact hg)
 refine ⟨I.os, I.tape, I.out, I.cel, I.blk, fun it hi g hg => I.own it (mem ks it g hi hg) g hg, fun it hi g hg => I.sepB it (mem ks it g hi hg) g hg, fun it hi g hg => I.sepC it (mem ks it g hi hg) g hg, ?_⟩
 induction ks with
 | nil => exact I.sepL.sublist (List.drop_sublist n L)
 | cons k ks ih =>
  simp only [pkO, Bool.and_eq_true, Bool.not_eq_true', List.any_eq_false] at h
  obtain ⟨⟨h1, h2⟩, h3⟩ := h
  refine List.pairwise_cons.2 ⟨fun y hy g hg => ?_, ih h3⟩
  have hk := j2 L k hg
  have key : ∀ ks : List Nat, (∀ j ∈ ks, ¬ Nat.beq k j = true) → ∀ y ∈ pkL L ks (L.drop n), y.blk ≠ some g := by
   intro ks
   induction ks with
   | nil =>
    intro _ y hy
    obtain ⟨m, hm⟩ := List.getElem?_of_mem hy
    have hm : (L.drop n)[m]? = some y := hm
    rw [List.getElem?_drop] at hm
    have hkn : k < n := Nat.le_of_ble_eq_true h1
    exact sep k (n + m) (by omega) _ _ hk hm g hg
   | cons j ks ih =>
    intro hn y hy hg'
    rcases List.mem_cons.1 hy with rfl | hy
    ·have hj : k ≠ j := fun e => hn j (List.mem_cons_self ..) (by rw [e]; exact Nat.beq_refl j)
     exact sep k j hj _ _ hk (j2 L j hg') g hg hg'
    ·exact ih (fun j hj => hn j (List.mem_cons_of_mem _ hj)) y hy hg'
  exact key ks h2 y hy
end Go.LG
