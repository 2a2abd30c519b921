/-
 Widths, what is seen, and lines. Plain Lean; no program in sight.
-/
import Derived.Test.YtokeiiakkfdmgaaGreatDoorFn
set_option linter.unusedVariables false
set_option linter.unusedSimpArgs false
set_option maxRecDepth 100000
namespace Go.Proofs.YtokeiiakkfdmgaaGreatDoor.LG
open Go Go.LG Go.Lib

def Sm (f : api_Font) : Prop := f.Glyphs.length ≤ 1000000 ∧ f.Kerns.length ≤ 1000000
theorem has_loop (f : api_Font) (hf : Sm f) (l : List UInt8) (hl : ∀ b ∈ l, 32 ≤ b.toNat ∧ b.toNat ≤ 126) : ∀ (n i : Nat), l.length - i = n → Tot (font_Has_l62 f ⟨l.toArray⟩ i) := by
 intro n
 induction n with
 | zero => intro i hn; rw [font_Has_l62, sz, if_neg (by omega)]; exact Tot.val
 | succ n ih =>
  intro i hn
  have hlt : i < l.length := by omega
  have hb := hl _ (List.getElem_mem hlt)
  rw [font_Has_l62, sz, if_pos hlt, decode_small l hlt (by omega)]
  exact Tot.bind (glyph_tot f _ hf.1) fun _ _ => Tot.bind (Tot.ite (fun _ => Tot.val) fun _ => Tot.val) fun _ _ => Tot.ite (fun _ => Tot.val) fun _ => ih (i + 1) (by omega)
theorem has_tot (f : api_Font) (hf : Sm f) (l : List UInt8) : Tot (font_Has f ⟨l.toArray⟩) := by
 unfold font_Has
 rw [valid_mk]
 refine Tot.bind (fvalid_tot f hf.1 hf.2) fun y _ => Tot.bind (Tot.ite (fun _ => Tot.val) fun _ => Tot.val) fun v hv => Tot.ite (fun _ => Tot.val) fun hn => ?_
 have ho : okS l = true := by
  by_cases hy : (!y) = true
  ·rw [if_pos hy] at hv; cases hv; exact absurd rfl hn
  ·rw [if_neg hy, some_bind] at hv; cases hv; simpa using hn
 refine Tot.bind (has_loop f hf l (okS_all ho).1 _ 0 rfl) fun o _ => ?_
 cases o <;> exact Tot.val
theorem has_ok {f : api_Font} (hf : Sm f) {l : List UInt8} {b : Bool} {e : Int} (h : font_Has f ⟨l.toArray⟩ = some (b, e)) (he : e = 0) : okS l = true := by
 subst he
 obtain ⟨y, hy⟩ := fvalid_tot f hf.1 hf.2
 unfold font_Has at h
 rw [valid_mk, hy] at h
 simp only [some_bind] at h
 cases ho : okS l
 ·rw [ho] at h
  cases y <;> simp at h
 ·rfl
theorem raw_step (f : api_Font) (hf : Sm f) (u : Int) (p : font_pair) : ∃ u2, rnd (fun (u : Int) (x : font_pair) => font_Raw_r67 f u x) (u, none) p = some ((u2, none), true) := by
 obtain ⟨g, hg⟩ := glyph_tot f p.right hf.1
 obtain ⟨k, hk⟩ := find_tot f.Kerns p hf.2
 unfold rnd font_Raw_r67
 simp only [hg, hk, some_bind]
 exact ⟨_, rfl⟩
theorem raw_loop (f : api_Font) (hf : Sm f) (l : List UInt8) (hl : ∀ b ∈ l, 32 ≤ b.toNat ∧ b.toNat ≤ 126) : ∀ (n i : Nat) (p u : Int), l.length - i = n →
  ∃ j u2, font_pairs_1_k1_l30 (rnd (fun (u : Int) (x : font_pair) => font_Raw_r67 f u x)) ⟨l.toArray⟩ p i (u, none) = some (.inr (j, (u2, none))) := by
 intro n
 induction n with
 | zero => intro i p u hn; rw [font_pairs_1_k1_l30, sz, if_neg (by omega)]; exact ⟨_, _, rfl⟩
 | succ n ih =>
  intro i p u hn
  have hlt : i < l.length := by omega
  have hb := hl _ (List.getElem_mem hlt)
  rw [font_pairs_1_k1_l30, sz, if_pos hlt, decode_small l hlt (by omega)]
  by_cases h : ((l[i].toNat, 1).1 : Int) = 126
  ·rw [if_pos h]; exact ih (i + 1) p u (by omega)
  ·rw [if_neg h]
   obtain ⟨u2, h2⟩ := raw_step f hf u ⟨p, wu8 (((l[i].toNat, 1).1 : Int))⟩
   rw [h2, some_bind]
   exact ih (i + 1) _ u2 (by omega)
theorem raw_tot (f : api_Font) (hf : Sm f) (l : List UInt8) : Tot (font_Raw f ⟨l.toArray⟩) := by
 unfold font_Raw
 refine Tot.bind (has_tot f hf l) fun a ha => ?_
 obtain ⟨b, e⟩ := a
 refine Tot.ite (fun _ => Tot.val) fun he => Tot.ite (fun _ => Tot.val) fun _ => ?_
 have ho := has_ok hf ha (Decidable.not_not.1 he)
 obtain ⟨j, u, hu⟩ := raw_loop f hf l (okS_all ho).1 _ 0 0 0 rfl
 unfold font_pairs font_pairs_1_k1
 rw [some_bind, hu]
 exact Tot.val
theorem width_tot (f : api_Font) (hf : Sm f) (l : List UInt8) (s : Int) : Tot (font_Width f ⟨l.toArray⟩ s) := by
 unfold font_Width
 exact Tot.bind (raw_tot f hf l) fun _ _ => Tot.bind (Tot.ite (fun _ => Tot.val) fun _ => Tot.val) fun _ _ => Tot.bind (Tot.ite (fun _ => Tot.val) fun _ => Tot.val) fun _ _ => Tot.ite (fun _ => Tot.val) fun _ => Tot.ite (fun _ => Tot.val) fun _ => Tot.val
theorem seen_mk (l : List UInt8) (hs : l.length ≤ 1000000) {a e : Nat} (hae : a ≤ e) (he : e ≤ l.length) (h : Bool) : inline_seen ⟨l.toArray⟩ (a : Int) (e : Int) h = some ⟨(part l a e h).toArray⟩ := by
 have hp := piece_len l a e
 unfold inline_seen strings_ReplaceAll strings_Trim
 rw [sz, if_pos (by omega), sub_data]
 simp only
 have e1 : ((⟨#[126]⟩ : ByteArray)).data.toList = [126] := rfl
 have e2 : ((⟨#[]⟩ : ByteArray)).data.toList = [] := rfl
 have e3 : ((⟨#[32]⟩ : ByteArray)).data.toList = [32] := rfl
 rw [sz, if_pos ⟨by omega, by decide, by decide⟩, some_bind, replaceAll_shown]
 have hsl := shown_len ((l.drop a).take (e - a))
 have htl := trim_len (shown ((l.drop a).take (e - a)))
 rw [sz, if_pos (by omega)]
 simp only
 rw [if_pos (by decide), some_bind]
 have ht : (trimB (shown ((l.drop a).take (e - a))) 32).length ≤ 1000000 := Nat.le_trans htl (by omega)
 cases h
 ·simp only [Bool.false_eq_true, if_false]
  unfold part
  simp only [Bool.false_eq_true, if_false, List.append_nil]
  rfl
 ·simp only [if_true]
  have e4 : (⟨#[45]⟩ : ByteArray).size = 1 := rfl
  rw [sz, e4, if_pos (by omega)]
  unfold part
  simp only [if_true]
  exact congrArg some (mk_append (trimB (shown ((l.drop a).take (e - a))) 32) [45])
def W (f : api_Font) (l : List UInt8) (s : Int) (a : Nat) (p : Nat × Bool) : Int := ((font_Width f ⟨(part l a p.1 p.2).toArray⟩ s).map (·.1)).getD 0
def ln (f : api_Font) (l : List UInt8) (s : Int) (a : Nat) (p : Nat × Bool) : api_Line := ⟨(a : Int), (p.1 : Int), W f l s a p, p.2⟩
theorem line_mk (f : api_Font) (hf : Sm f) (l : List UInt8) (hs : l.length ≤ 1000000) (E : List api_Break) (s : Int) {a : Nat} {p : Nat × Bool} (hae : a ≤ p.1) (he : p.1 ≤ l.length) :
  inline_setter_line_k1 ⟨l.toArray⟩ E f s (a : Int) (brk p) = some (ln f l s a p) := by
 obtain ⟨⟨w, e⟩, hw⟩ := width_tot f hf (part l a p.1 p.2) s
 unfold inline_setter_line_k1 inline_prepare_2_k1
 show (inline_seen ⟨l.toArray⟩ (a : Int) (p.1 : Int) p.2 >>= _) = _
 rw [seen_mk l hs hae he, some_bind, hw]
 unfold ln W
 rw [hw]
 rfl
end Go.Proofs.YtokeiiakkfdmgaaGreatDoor.LG
