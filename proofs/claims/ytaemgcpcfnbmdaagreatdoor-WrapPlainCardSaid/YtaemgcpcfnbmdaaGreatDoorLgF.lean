/-
 LG, part F: small words for the printed proofs.
-/
import Derived.Test.YtaemgcpcfnbmdaaGreatDoorLgE
set_option linter.unusedVariables false
set_option linter.unusedSimpArgs false
namespace Go.LG
open Go.RowKit
theorem ite_some {c : Prop} [Decidable c] {α : Type} {a : Option α} {r : α} (h : (if c then a else none) = some r) : c ∧ a = some r := by
 by_cases hc : c
 ·rw [if_pos hc] at h; exact ⟨hc, h⟩
 ·rw [if_neg hc] at h; cases h
theorem ite_yes {c : Prop} [Decidable c] {α : Type} {a b : Option α} {r : α} (hc : c) (h : (if c then a else b) = some r) : a = some r := by rw [if_pos hc] at h; exact h
theorem ite_no {c : Prop} [Decidable c] {α : Type} {a b : Option α} {r : α} (hc : ¬ c) (h : (if c then a else b) = some r) : b = some r := by rw [if_neg hc] at h; exact h
theorem bind_some {α β : Type} {x : Option α} {f : α → Option β} {r : β} (h : (x >>= f) = some r) : ∃ y, x = some y ∧ f y = some r := Option.bind_eq_some_iff.1 h
theorem bval_yes {b : Bool} (h : b = true) : Value.bool b = .bool true := by rw [h]
theorem bval_no {b : Bool} (h : ¬ b = true) : Value.bool b = .bool false := by rw [Bool.eq_false_iff.2 h]
section
variable {P : Program} {ro : Option Nat} {N : Nat} {ops : Array Oper} {Q : Post} {r : Rg} {ds : List Deferred} {w : World}
theorem opx_mono {o : Oper} {ρ : Operand → Value} {K K' : Value → World → Prop} (hk : ∀ v w, K v w → K' v w) (h : opx P ro o ρ w K) : opx P ro o ρ w K' := by
 unfold opx at h ⊢
 generalize (o.semAt ro ρ).run P w = res at h ⊢
 cases res with
 | halt x w' => exact h
 | ok x w' =>
  cases x with
  | value v => exact hk _ _ h
  | skip => exact hk _ _ h
  | enter f args => exact h.mono fun e w' ⟨v, he, hv⟩ => ⟨v, he, hk _ _ hv⟩
  | round l f tmps assign body => exact h.mono fun e w' ⟨v, he, hv⟩ => ⟨v, he, hk _ _ hv⟩
  | _ => exact h
theorem wpq_split {K : Post} : ∀ (n : Nat) {l : List Oper} {r : Rg} {ds : List Deferred} {w : World}, wpq P ro N ops (l.take n) K r ds w → (∀ e r ds w, K e r ds w → wpq P ro N ops (l.drop n) Q r ds w) →
  wpq P ro N ops l Q r ds w
 | 0, l, r, ds, w, h, k => by
  have h' : K .normal r ds w := by simpa [wpq] using h
  exact k _ _ _ _ h'
 | n + 1, [], r, ds, w, h, k => by
  have h' : K .normal r ds w := by simpa [wpq] using h
  have := k _ _ _ _ h'
  simpa using this
 | n + 1, o :: l, r, ds, w, h, k => by
  have ih := fun {r ds w} h => @wpq_split K n l r ds w h k
  simp only [List.take_succ_cons, wpq] at h ⊢
  split
  ·rename_i hw
   rw [if_pos hw] at h
   exact opx_mono (fun v w hh => ih hh) h
  ·rename_i hw
   rw [if_neg hw] at h
   exact ih h
theorem guard_yes {j d : Nat} {want : Bool} {o : Oper} (hg : o.guard = some (j, want)) (hd : (ops[j]?).bind (·.dst) = some d) (hlt : Nat.blt d N = true) (hv : r d = .bool want) : Region.wanted o (yieldR ops N r) = true := by
 simp [Region.wanted, hg, yieldR, hd, hlt, hv]
theorem guard_no {j d : Nat} {want : Bool} {o : Oper} {v : Value} (hg : o.guard = some (j, want)) (hd : (ops[j]?).bind (·.dst) = some d) (hlt : Nat.blt d N = true) (hv : r d = v)
  (hn : (match v with | .bool b => (b != want) | _ => true) = true) : Region.wanted o (yieldR ops N r) = false := by
 simp only [Region.wanted, hg, yieldR, hd, hlt, hv, cond_true]
 cases v <;> simp at hn ⊢
 exact hn
theorem Hp.emp {G : Gh} {L : List Itm} (h : Hp G L w) : Hp G (LG.emp :: L) w := {
 os := h.os
 tape := h.tape
 out := h.out
 cel := h.cel
 blk := h.blk
 own := fun it hi g hg => by
  rcases List.mem_cons.1 hi with rfl | hi
  ·cases hg
  ·exact h.own it hi g hg
 sepB := fun it hi g hg => by
  rcases List.mem_cons.1 hi with rfl | hi
  ·cases hg
  ·exact h.sepB it hi g hg
 sepC := fun it hi g hg => by
  rcases List.mem_cons.1 hi with rfl | hi
  ·cases hg
  ·exact h.sepC it hi g hg
 sepL := List.pairwise_cons.2 ⟨(fun it hi g hg => by cases hg), h.sepL⟩ }
end
end Go.LG
