/-
 LG, part S: rows whose elements are written.
-/
import Derived.Test.YtaemgcpcfnbmdaaGreatDoorLgN
import Derived.Laws.MakeOwn
set_option linter.unusedVariables false
set_option linter.unusedSimpArgs false
namespace Go.LG
open Go.RowKit

def BI (g lo : Nat) (cs : List Value) (T : TypeId) : eP := ⟨some g, lo, fun o => o = .cells cs.toArray T (0, 0)⟩
section
variable {P : Program} {G : Gh} {L : List eP} {w : World}
theorem Hp.retell (I : Hp G L w) (k : Nat) {it it' : eP} (hk : L[k]? = some it) {g : Nat} (hg : it.blk = some g) (hg' : it'.blk = some g) (hlo : it.lo ≤ it'.lo) (h : ∀ o, w.heap[g]? = some o → it.P o → it'.P o) : Hp G (L.set k it') w := by
 obtain ⟨o, ho, hp⟩ := I.at k hk hg
 exact I.write k hk (it' := it') hg hg' hlo (w' := w) rfl rfl rfl (fun _ _ => rfl) (fun _ _ _ => rfl) ho (h o ho hp)
theorem sO (g lo : Nat) {U : TypeId} : ∀ (cs vs : List Value) (o i : Nat) (w : World) (L : List eP), Hp G L w → ∀ k, L[k]? = some (BI g lo vs U) → (∀ v ∈ cs, one v = true) → lo ≤ o + i → o + i + cs.length ≤ vs.length →
  ∃ w', (storeCells ⟨g, o, none⟩ cs i).run P w = .ok () w' ∧ Hp G (L.set k (BI g lo (fq vs (o + i) cs) U)) w'
 | [], vs, o, i, w, L, hI, k, hk, _, _, _ => ⟨w, rfl, by
   have : L.set k (BI g lo vs U) = L := by
    obtain ⟨hlt, he⟩ := List.getElem?_eq_some_iff.1 hk
    rw [← he]; exact List.set_getElem_self hlt
   show Hp G (L.set k (BI g lo vs U)) w
   rw [this]; exact hI⟩
 | c :: cs, vs, o, i, w, L, hI, k, hk, h1, hlo, hl => by
  simp only [List.length_cons] at hl
  have hlt : o + i < vs.length := by omega
  obtain ⟨ob, hb, rfl⟩ := hI.at k hk rfl
  have hcell : w.cell? ⟨g, o + i, none⟩ = some vs[o + i] := by simp [World.cell?, hb, hlt]
  have hfr : w.frozen? ⟨g, o + i, none⟩ = false := by simp [World.frozen?, hb]
  have hI' : Hp G (L.set k (BI g lo (vs.set (o + i) c) U)) (w.setCell ⟨g, o + i, none⟩ c) :=
   hI.write k hk (it' := BI g lo (vs.set (o + i) c) U) rfl rfl (Nat.le_refl _) rfl rfl rfl (fun j hj => mI w _ c hj)
    (fun a ha hl => World.cell?_setCell_other w _ a c (fun e => by subst e; exact absurd hlo (Nat.not_le_of_lt hl))) (heap_setCell_same w g _ c hb) (by simp [BI])
  have hkl : k < L.length := (List.getElem?_eq_some_iff.1 hk).1
  obtain ⟨w', hr, hI2⟩ := sO g lo cs (vs.set (o + i) c) o (i + 1) _ _ hI' k (List.getElem?_set_self hkl) (fun v hv => h1 v (List.mem_cons_of_mem _ hv)) (by omega) (by simp; omega)
  refine ⟨w', ?_, ?_⟩
  ·have e := run_store (P := P) (w := w) hcell hfr (h1 c (List.mem_cons_self ..))
   simp only [storeCells, Sem.run_bind, add_plain, e, andThen_ok]
   exact hr
  ·rw [List.set_set] at hI2
   exact hI2
end
theorem k6 : ∀ (cs vs : List Value) (p : Nat) (j : Nat), p + cs.length ≤ vs.length → (fq vs p cs)[j]? = if p ≤ j ∧ j < p + cs.length then cs[j - p]? else vs[j]?
 | [], vs, p, j, _ => by
  rw [fq, if_neg (by simp only [List.length_nil]; omega)]
 | c :: cs, vs, p, j, h => by
  simp only [List.length_cons] at h
  rw [fq, k6 cs (vs.set p c) (p + 1) j (by simp; omega)]
  by_cases h1 : p + 1 ≤ j ∧ j < p + 1 + cs.length
  ·rw [if_pos h1, if_pos (by simp; omega), show j - p = (j - (p + 1)) + 1 by omega, List.getElem?_cons_succ]
  ·rw [if_neg h1]
   by_cases h2 : j = p
   ·subst h2
    rw [if_pos (by simp), List.getElem?_set_self (by omega)]; simp
   ·rw [if_neg (by simp; omega), List.getElem?_set_ne (fun e => h2 e.symm)]
theorem vA (cs vs : List Value) (h : cs.length = vs.length) : fq vs 0 cs = cs := by
 apply List.ext_getElem?
 intro j
 rw [k6 cs vs 0 j (by omega)]
 by_cases hj : j < cs.length
 ·rw [if_pos (by omega), Nat.sub_zero]
 ·rw [if_neg (by omega), List.getElem?_eq_none (by omega), List.getElem?_eq_none (by omega)]
theorem y9 {fl cs news : List Value} {b p : Nat} (hp : p + news.length ≤ fl.length) (hb : ∀ j v, fl[j]? = some v → cs[b + j]? = some v) (hc : b + fl.length ≤ cs.length) :
  ∀ j v, (fq fl p news)[j]? = some v → (fq cs (b + p) news)[b + j]? = some v := by
 intro j v hv
 rw [k6 _ _ _ _ hp] at hv
 rw [k6 _ _ _ _ (by omega)]
 by_cases h : p ≤ j ∧ j < p + news.length
 ·rw [if_pos h] at hv
  rw [if_pos (by omega), show b + j - (b + p) = j - p by omega]; exact hv
 ·rw [if_neg h] at hv
  rw [if_neg (by omega)]; exact hb j v hv
theorem xn (c1 c2 : List Value) (p : Nat) (news : List Value) (h : p + news.length ≤ c1.length) : fq (c1 ++ c2) p news = fq c1 p news ++ c2 := by
 apply List.ext_getElem?
 intro j
 have hl : (fq c1 p news).length = c1.length := ou _ _ _
 rw [k6 _ _ _ _ (by simp; omega), List.getElem?_append, List.getElem?_append, hl]
 by_cases h1 : j < c1.length
 ·rw [if_pos h1, if_pos h1, k6 _ _ _ _ h]
 ·rw [if_neg h1, if_neg h1, if_neg (by omega)]
theorem vr (c1 c2 : List Value) (p : Nat) (news : List Value) (h : p + news.length ≤ c2.length) : fq (c1 ++ c2) (c1.length + p) news = c1 ++ fq c2 p news := by
 apply List.ext_getElem?
 intro j
 rw [k6 _ _ _ _ (by simp; omega), List.getElem?_append, List.getElem?_append]
 by_cases h1 : j < c1.length
 ·rw [if_pos h1, if_pos h1, if_neg (by omega)]
 ·rw [if_neg h1, if_neg h1, k6 _ _ _ _ h]
  by_cases h2 : p ≤ j - c1.length ∧ j - c1.length < p + news.length
  ·rw [if_pos h2, if_pos (by omega), show j - (c1.length + p) = j - c1.length - p by omega]
  ·rw [if_neg h2, if_neg (by omega)]
theorem Flat.split {α : Type} {k : Kd α} {G : Gh} : ∀ {xs ys : List α} {cs : List Value}, Flat k G (xs ++ ys) cs → ∃ c1 c2, cs = c1 ++ c2 ∧ Flat k G xs c1 ∧ Flat k G ys c2
 | [], ys, cs, h => ⟨[], cs, rfl, rfl, h⟩
 | x :: xs, ys, cs, ⟨c1, c2, h, h1, h2⟩ => by
  obtain ⟨d1, d2, rfl, h3, h4⟩ := Flat.split h2
  exact ⟨c1 ++ d1, d2, by rw [h, List.append_assoc], ⟨c1, d1, rfl, h1, h3⟩, h4⟩
theorem Flat.set {α : Type} {k : Kd α} {G G' : Gh} (hG : G ≤ G') {y : α} {off : Nat} {news : List Value} (hoff : off + news.length ≤ k.sz) : ∀ {xs : List α} {fl : List Value} (i : Nat) {x : α}, Flat k G xs fl → xs[i]? = some x → (∀ old, k.K G x old → k.K G' y (fq old off news)) →
  Flat k G' (xs.set i y) (fq fl (i * k.sz + off) news)
 | [], fl, i, x, _, hx, _ => by simp at hx
 | x :: xs, fl, 0, z, ⟨c1, c2, h, h1, h2⟩, hx, hK => by
  simp at hx; subst hx
  subst h
  rw [Nat.zero_mul, Nat.zero_add, xn _ _ _ _ (by rw [k.len h1]; exact hoff)]
  exact ⟨_, _, rfl, hK _ h1, h2.mono hG⟩
 | x :: xs, fl, i + 1, z, ⟨c1, c2, h, h1, h2⟩, hx, hK => by
  subst h
  have hi : i < xs.length := by
   have := (List.getElem?_eq_some_iff.1 hx).1
   simpa using this
  have hl := h2.len
  have hm : i * k.sz + k.sz ≤ xs.length * k.sz := by
   rw [← Nat.succ_mul]; exact Nat.mul_le_mul_right _ hi
  rw [show (i + 1) * k.sz + off = c1.length + (i * k.sz + off) by rw [k.len h1, Nat.add_mul, Nat.one_mul]; omega, vr _ _ _ _ (by omega)]
  exact ⟨_, _, rfl, k.mono hG h1, Flat.set hG hoff i h2 (by simpa using hx) hK⟩
theorem Flat.get {α : Type} {k : Kd α} {G : Gh} : ∀ {xs : List α} {fl : List Value} (i : Nat) {x : α}, Flat k G xs fl → xs[i]? = some x → ∃ cs, k.K G x cs ∧ ∀ q v, cs[q]? = some v → fl[i * k.sz + q]? = some v
 | [], fl, i, x, _, hx => by simp at hx
 | x :: xs, fl, 0, z, ⟨c1, c2, h, h1, h2⟩, hx => by
  simp at hx; subst hx
  refine ⟨c1, h1, fun q v hv => ?_⟩
  have hq := (List.getElem?_eq_some_iff.1 hv).1
  rw [h, Nat.zero_mul, Nat.zero_add, List.getElem?_append, if_pos hq]; exact hv
 | x :: xs, fl, i + 1, z, ⟨c1, c2, h, h1, h2⟩, hx => by
  obtain ⟨cs, hK, hc⟩ := Flat.get i h2 (by simpa using hx)
  refine ⟨cs, hK, fun q v hv => ?_⟩
  rw [h, show (i + 1) * k.sz + q = c1.length + (i * k.sz + q) by rw [k.len h1, Nat.add_mul, Nat.one_mul]; omega, List.getElem?_append_right (by omega)]
  rw [show c1.length + (i * k.sz + q) - c1.length = i * k.sz + q by omega]; exact hc q v hv
theorem Flat.replicate {α : Type} {k : Kd α} {G : Gh} {z : α} {zs : List Value} (h : k.K G z zs) : ∀ n, Flat k G (List.replicate n z) ((List.replicate n zs).flatten)
 | 0 => rfl
 | n + 1 => ⟨zs, _, by rw [List.replicate_succ, List.flatten_cons], h, Flat.replicate h n⟩

def gn {α : Type} (G : Gh) (k : Kd α) (A0 : Option Addr) (pre t post : List α) (lim : Nat) (T : TypeId) : eP :=
 match A0 with
 | some a => ⟨some a.block, a.off, fun o => a.spot = none ∧ ∃ cs : List Value, o = .cells cs.toArray T (0, 0) ∧ a.off + lim * k.sz ≤ cs.length ∧ (pre ++ (t ++ post)).length ≤ lim ∧ ∃ fl, Flat k G (pre ++ (t ++ post)) fl ∧ ∀ j v, fl[j]? = some v → cs[a.off + j]? = some v⟩
 | none => emp
structure Mw (A0 A : Option Addr) (np n c lim sz : Nat) : Prop where
 ok : c = 0 ∨ ∃ g o, A0 = some ⟨g, o, none⟩ ∧ A = some ⟨g, o + np * sz, none⟩
 le : n ≤ c
section
variable {P : Program} {ro : Option Nat} {N : Nat} {ops : Array Oper} {rest : List Oper} {Q : ji} {r : Rg} {ds : List Deferred} {w : World}
variable {d : Option Nat} {ty : TypeId} {ps : String} {af : Array Edge} {gd : Option (Nat × Bool)} {x y : Operand} {G Gx : Gh} {L : List eP}
variable {α : Type} {kd : Kd α} {A0 A : Option Addr} {pre t post : List α} {n c lim : Nat} {T : TypeId}
theorem jK {β : Type} {u : List β} (hn : u.length = n) {j : Int} (h : j < (u.length : Int)) : j < (n : Int) := by rw [← hn]; exact h
theorem Db {β : Type} {u : List β} (hn : u.length = n) {j : Int} (h : j ≤ (u.length : Int)) : j ≤ (n : Int) := by rw [← hn]; exact h
theorem te {β γ : Type} {u : List β} {u' : List γ} (hn : u.length = n) (hn' : u'.length = n) {j : Int} (h : j ≤ (u'.length : Int)) : j ≤ (u.length : Int) := by rw [hn, ← hn']; exact h
theorem cB {j : Nat} {y : α} (hn : t.length = n) : (t.set j y).length = n := by rw [List.length_set]; exact hn
theorem dm {G' : Gh} {x y : α} {old news : List Value} (ho : kd.K Gx x old) (hl : news.length = kd.sz) (h : kd.K G' y news) : kd.K G' y (fq old 0 news) := by
 rw [vA _ _ (by rw [kd.len ho, hl])]; exact h
theorem Mw.ad {np sz : Nat} (hM : Mw A0 A np n c lim sz) {j : Int} (h0 : 0 ≤ j) (h1 : j < (n : Int)) : ∃ ad, A = some ad := by
 have hle := hM.le
 rcases hM.ok with h | ⟨g, o, _, h⟩
 ·omega
 ·exact ⟨_, h⟩
theorem add_zero' (a : Addr) : a.add 0 = a := by simp [Addr.add]
theorem cell0 {a : Addr} {v : Value} (h : w.cell? (a.add 0) = some v) : w.cell? a = some v := by rwa [add_zero'] at h
theorem Hp.rwGet (I : Hp G L w) (i : Nat) (hk : L[i]? = some (gn Gx kd A0 pre t post lim T)) (hM : Mw A0 A pre.length n c lim kd.sz) (hn : t.length = n) {ad : Addr} (hA : A = some ad) (z : α) {j : Int} (h0 : 0 ≤ j) (h1 : j < (n : Int)) :
  ∃ cs, kd.K Gx (t.getD j.toNat z) cs ∧ cs.length = kd.sz ∧ ∀ q v, cs[q]? = some v → w.cell? ((ad.add (j.toNat * kd.sz)).add q) = some v := by
 have hle := hM.le
 rcases hM.ok with h | ⟨g, o, rfl, h⟩
 ·omega
 ·subst hA; cases h
  obtain ⟨ob, hb, _, cs, rfl, hsz, hlim, fl, hF, hfl⟩ := I.at i hk rfl
  have hlt : j.toNat < t.length := by omega
  have hx : (pre ++ (t ++ post))[pre.length + j.toNat]? = some (t.getD j.toNat z) := by
   rw [List.getElem?_append_right (by omega), show pre.length + j.toNat - pre.length = j.toNat by omega, List.getElem?_append_left hlt, List.getD_eq_getElem?_getD, List.getElem?_eq_getElem hlt]; rfl
  obtain ⟨c1, hK, hc1⟩ := Flat.get _ hF hx
  refine ⟨c1, hK, kd.len hK, fun q v hv => ?_⟩
  have := hfl _ v (hc1 q v hv)
  rw [add_plain, add_plain]
  refine cell_of_block hb ?_
  simp only [List.getElem?_toArray]
  rwa [show o + pre.length * kd.sz + j.toNat * kd.sz + q = o + ((pre.length + j.toNat) * kd.sz + q) by rw [Nat.add_mul]; omega]
theorem set_mid (pre t post : List α) (j : Nat) (y : α) (h : j < t.length) : (pre ++ (t ++ post)).set (pre.length + j) y = pre ++ (t.set j y ++ post) := by
 rw [List.set_append_right _ _ (by omega), show pre.length + j - pre.length = j by omega, List.set_append_left _ _ h]
theorem jI {Gy : Gh} (I : Hp G L w) (i : Nat) {U : TypeId} {b : Bool} {m off : Nat} {ad a' : Addr} {j : Int} {v : Value} {news : List Value} (z y' : α) (hT : fK P U = some (b, m)) (hk : L[i]? = some (gn Gx kd A0 pre t post lim T)) (hM : Mw A0 A pre.length n c lim kd.sz) (hn : t.length = n)
  (hA : A = some ad) (h0 : 0 ≤ j) (h1 : j < (n : Int)) (ha : (ad.add (j.toNat * kd.sz)).add off = a') (hx : ev N r x = .pointer (some a')) (hy : ev N r y = v) (hv : v.cells.toList = news) (hl : news.length = m) (hone : news.all one = true) (hoff : off + m ≤ kd.sz) (hG : Gx ≤ Gy)
  (hK : ∀ old, kd.K Gx (t.getD j.toNat z) old → kd.K Gy y' (fq old off news))
  (k : ∀ w', Hp G (L.set i (gn Gy kd A0 pre (t.set j.toNat y') post lim T)) w' → ca P ro N ops rest Q (r.putO d undef) ds w') (hw : Region.wanted ⟨d, .store U x y, ty, ps, af, gd⟩ (aH ops N r) = true := by rfl) :
  ca P ro N ops (⟨d, .store U x y, ty, ps, af, gd⟩ :: rest) Q r ds w := by
 have hle := hM.le
 rcases hM.ok with h | ⟨g, o, rfl, h⟩
 ·omega
 ·subst hA; cases h
  obtain ⟨ob, hb, _, cs, rfl, hsz, hlim, fl, hF, hfl⟩ := I.at i hk rfl
  have hlt : j.toNat < t.length := by omega
  have hx' : (pre ++ (t ++ post))[pre.length + j.toNat]? = some (t.getD j.toNat z) := by
   rw [List.getElem?_append_right (by omega), show pre.length + j.toNat - pre.length = j.toNat by omega, List.getElem?_append_left hlt, List.getD_eq_getElem?_getD, List.getElem?_eq_getElem hlt]; rfl
  have hfll := hF.len
  have hin : (pre.length + j.toNat) * kd.sz + kd.sz ≤ fl.length := by
   rw [hfll, ← Nat.succ_mul]
   exact Nat.mul_le_mul_right _ (by simp; omega)
  have hflc : o + fl.length ≤ cs.length := by
   rw [hfll]
   exact Nat.le_trans (Nat.add_le_add_left (Nat.mul_le_mul_right _ hlim) _) hsz
  have I1 : Hp G (L.set i (BI g o cs T)) w := I.retell i hk (it' := BI g o cs T) rfl rfl (Nat.le_refl _) (fun o' ho' hp => by rw [hb] at ho'; cases ho'; rfl)
  have hil : i < L.length := (List.getElem?_eq_some_iff.1 hk).1
  have hoo : o + pre.length * kd.sz + j.toNat * kd.sz + off = o + ((pre.length + j.toNat) * kd.sz + off) := by rw [Nat.add_mul]; omega
  obtain ⟨w', hr, I2⟩ := sO (P := P) g o news cs (o + ((pre.length + j.toNat) * kd.sz + off)) 0 w _ I1 i (List.getElem?_set_self hil) (fun v hv => List.all_eq_true.1 hone v hv) (by omega) (by omega)
  rw [List.set_set, Nat.add_zero] at I2
  have hil2 : i < (L.set i (BI g o (fq cs (o + ((pre.length + j.toNat) * kd.sz + off)) news) T)).length := by rw [List.length_set]; exact hil
  have I3 := I2.retell i (List.getElem?_set_self hil) (it' := gn Gy kd (some ⟨g, o, none⟩) pre (t.set j.toNat y') post lim T) rfl rfl (Nat.le_refl _) (fun o' ho' hp => by
   cases hp
   refine ⟨rfl, _, rfl, by rw [ou]; exact hsz, by simpa using hlim, _, ?_, y9 (p := (pre.length + j.toNat) * kd.sz + off) (by omega) hfl hflc⟩
   rw [← set_mid _ _ _ _ _ hlt]
   exact Flat.set hG (by omega) _ hF hx' hK)
  rw [List.set_set] at I3
  refine yJ hw (by simp) (w' := w') ?_ (k w' I3)
  have hszv : v.cells.size = m := by rw [← Array.length_toList, hv, hl]
  subst ha
  have e : ((⟨g, o + pre.length * kd.sz, none⟩ : Addr).add (j.toNat * kd.sz)).add off = ⟨g, o + ((pre.length + j.toNat) * kd.sz + off), none⟩ := by rw [add_plain, add_plain, hoo]
  rw [e] at hx
  simp [aC, run_pure', aQ, aw, andThen_ok, Sem.run_bind, execOp, hx, hy, Instr.storeAt, Instr.sureAddr, storeVar, qm hT, hszv, hv, hr]
theorem EE {pre' t' post' : List α} (h : pre ++ (t ++ post) = pre' ++ (t' ++ post')) : gn Gx kd A0 pre t post lim T = gn Gx kd A0 pre' t' post' lim T := by
 unfold gn
 rw [h]
theorem Hp.rwRe (I : Hp G L w) (i : Nat) (hk : L[i]? = some (gn Gx kd A0 pre t post lim T)) {pre' t' post' : List α} (h : pre ++ (t ++ post) = pre' ++ (t' ++ post')) : Hp G (L.set i (gn Gx kd A0 pre' t' post' lim T)) w := by
 rw [← EE h]
 obtain ⟨hlt, he⟩ := List.getElem?_eq_some_iff.1 hk
 rw [← he, List.set_getElem_self hlt]
 exact I
theorem Hp.rwUp (I : Hp G L w) (i : Nat) (hk : L[i]? = some (gn Gx kd A0 pre t post lim T)) {G' : Gh} (hG : Gx ≤ G') : Hp G (L.set i (gn G' kd A0 pre t post lim T)) w := by
 cases A0 with
 | none =>
  obtain ⟨hlt, he⟩ := List.getElem?_eq_some_iff.1 hk
  have : gn G' kd none pre t post lim T = L[i] := by rw [he]; rfl
  rw [this, List.set_getElem_self hlt]
  exact I
 | some a =>
  exact I.retell i hk (it' := gn G' kd (some a) pre t post lim T) rfl rfl (Nat.le_refl _) (fun o ho hp => by
   obtain ⟨h1, cs, h2, h3, h4, fl, h5, h6⟩ := hp
   exact ⟨h1, cs, h2, h3, h4, fl, h5.mono hG, h6⟩)
theorem xI (t post pre : List α) {l h : Int} (h0 : 0 ≤ l) (h1 : l ≤ h) (h2 : h ≤ (t.length : Int)) : pre ++ (t ++ post) = (pre ++ t.take l.toNat) ++ (fk t l h ++ (t.drop h.toNat ++ post)) := by
 unfold fk
 have e1 : t.take h.toNat = t.take l.toNat ++ (t.take h.toNat).drop l.toNat := by
  have := List.take_append_drop l.toNat (t.take h.toNat)
  rw [List.take_take, Nat.min_eq_left (by omega)] at this
  exact this.symm
 have e2 : t = t.take l.toNat ++ ((t.take h.toNat).drop l.toNat ++ t.drop h.toNat) := by
  rw [← List.append_assoc, ← e1, List.take_append_drop]
 conv => lhs; rw [e2]
 simp [List.append_assoc]
theorem tK (t post pre u : List α) (l h : Int) : (pre ++ t.take l.toNat) ++ (u ++ (t.drop h.toNat ++ post)) = pre ++ ((t.take l.toNat ++ (u ++ t.drop h.toNat)) ++ post) := by simp [List.append_assoc]
theorem Mw.win (hM : Mw A0 A pre.length n c lim kd.sz) (hn : t.length = n) {l h : Int} (h0 : 0 ≤ l) (h1 : l ≤ h) (h2 : h ≤ (t.length : Int)) :
  Mw A0 (if c = l.toNat then A else A.map (·.add (l.toNat * kd.sz))) (pre ++ t.take l.toNat).length (h.toNat - l.toNat) (c - l.toNat) lim kd.sz := by
 have hle := hM.le
 refine ⟨?_, by omega⟩
 by_cases e : c = l.toNat
 ·exact .inl (by omega)
 ·rcases hM.ok with h | ⟨g, o, hA0, hA⟩
  ·exact .inl (by omega)
  ·refine .inr ⟨g, o, hA0, ?_⟩
   rw [if_neg e, hA, Option.map_some, add_plain, List.length_append, List.length_take, Nat.min_eq_left (by omega), Nat.add_mul, ← Nat.add_assoc]
theorem ve {l h : Int} (h0 : 0 ≤ l) (h1 : l ≤ h) (h2 : h ≤ (t.length : Int)) : (fk t l h).length = h.toNat - l.toNat := by unfold fk; simp; omega
theorem ss {u : List α} {l h : Int} (hn : t.length = n) (h0 : 0 ≤ l) (h1 : l ≤ h) (h2 : h ≤ (t.length : Int)) (hu : u.length = h.toNat - l.toNat) : (t.take l.toNat ++ (u ++ t.drop h.toNat)).length = n := by simp [hu]; omega
theorem Mw.new (g : Nat) (n sz : Nat) : Mw (some ⟨g, 0, none⟩) (some ⟨g, 0, none⟩) ([] : List α).length n n n sz := ⟨.inr ⟨g, 0, rfl, by simp⟩, Nat.le_refl _⟩
theorem Hp.rwFreeze (I : Hp G L w) (i : Nat) (hk : L[i]? = some (gn Gx kd A [] t [] c T)) (hM : Mw A A ([] : List α).length n c c kd.sz) (hn : t.length = n) (hG : Gx ≤ G) :
  ∃ G', G ≤ G' ∧ Hp G' (L.set i (tk (.slice A t.length c) kd.sz T)) w ∧ Dat kd G' A t ∧ Own A c ∧ t.length ≤ c := by
 have hle := hM.le
 subst hn
 cases A with
 | none =>
  have hc : c = 0 := by
   rcases hM.ok with h | ⟨g, o, h, _⟩
   ·exact h
   ·cases h
  subst hc
  have ht : t = [] := List.eq_nil_of_length_eq_zero (by omega)
  subst ht
  refine ⟨G, Gh.le_refl _, ?_, Dat.nil _ _ _, Own.nil, Nat.le_refl _⟩
  obtain ⟨hlt, he⟩ := List.getElem?_eq_some_iff.1 hk
  have : tk (.slice none ([] : List α).length 0) kd.sz T = L[i] := by rw [he]; rfl
  rw [this, List.set_getElem_self hlt]
  exact I
 | some a =>
  obtain ⟨ob, hb, hsp, cs, rfl, hsz, hlim, fl, hF, hfl⟩ := I.at i hk rfl
  obtain ⟨g, o, s⟩ := a
  simp only at hsp hb hsz hfl
  subst hsp
  have hil : i < L.length := (List.getElem?_eq_some_iff.1 hk).1
  have hfll := hF.len
  simp only [List.nil_append, List.append_nil] at hF hfll hlim
  have I1 : Hp G (L.set i (tk (.slice (some ⟨g, o, none⟩) t.length c) kd.sz T)) w := I.retell i hk (it' := tk (.slice (some ⟨g, o, none⟩) t.length c) kd.sz T) rfl rfl (Nat.le_add_right _ _) (fun o' ho' hp => by
   rw [hb] at ho'; cases ho'
   exact ⟨_, rfl, by simpa using hsz⟩)
  obtain ⟨I2, hG2⟩ := I1.add g (fun j => if o ≤ j ∧ j < o + t.length * kd.sz then fl[j - o]? else none) (fun j v hv => by
   split at hv
   ·rename_i hj
    have := hfl (j - o) v hv
    rw [show o + (j - o) = j by omega] at this
    exact cell_of_block hb (by simpa using this)
   ·cases hv) (fun it hit hg j hj => by
   split
   ·rename_i hjj
    obtain ⟨m, hm⟩ := List.getElem?_of_mem hit
    by_cases hmk : m = i
    ·subst hmk
     rw [List.getElem?_set_self hil] at hm
     cases hm
     simp only [tk, ar] at hj
     omega
    ·exfalso
     have hmm := (List.getElem?_eq_some_iff.1 hm).1
     have hkk : i < (L.set i (tk (.slice (some ⟨g, o, none⟩) t.length c) kd.sz T)).length := by rw [List.length_set]; exact hil
     have hLm := (List.getElem?_eq_some_iff.1 hm).2
     have hLk : (L.set i (tk (.slice (some ⟨g, o, none⟩) t.length c) kd.sz T))[i] = tk (.slice (some ⟨g, o, none⟩) t.length c) kd.sz T := by rw [List.getElem_set_self]
     have hp := List.pairwise_iff_getElem.1 I1.sepL
     rcases Nat.lt_or_gt_of_ne hmk with hlt' | hgt
     ·exact hp m i hmm hkk hlt' g (by rw [hLm]; exact hg) (by rw [hLk]; rfl)
     ·exact hp i m hkk hmm hgt g (by rw [hLk]; rfl) (by rw [hLm]; exact hg)
   ·rfl)
  refine ⟨_, hG2, I2, ?_, .mk _ _ _, hle⟩
  refine Dat.of_cells ((hF.mono hG).mono hG2) fun j v hv => ?_
  rw [add_plain]
  refine Gh.add_cel ?_
  have hj := (List.getElem?_eq_some_iff.1 hv).1
  rw [if_pos (by omega), show o + j - o = j by omega]
  exact hv
theorem Hp.rowLit {g : Nat} {cs : List Value} (I : Hp G (LG.bx g cs T :: L) w) (hF : Flat kd G t cs) (hn : n = t.length) : Hp G (gn G kd (some ⟨g, 0, none⟩) [] t [] n T :: L) w := by
 subst hn
 have hl := hF.len
 exact I.retell 0 rfl (it' := gn G kd (some ⟨g, 0, none⟩) [] t [] t.length T) (g := g) rfl rfl (Nat.le_refl _) (fun o ho hp => by
  cases hp
  exact ⟨rfl, cs, rfl, by simp [hl], by simp, cs, by simpa using hF, fun j v hv => by simpa using hv⟩)
theorem flat_get {zs : List Value} : ∀ (n j : Nat), ((List.replicate n zs).flatten)[j]? = if j < n * zs.length then zs[j % zs.length]? else none
 | 0, j => by simp
 | n + 1, j => by
  rw [List.replicate_succ, List.flatten_cons, List.getElem?_append]
  by_cases h : j < zs.length
  ·rw [if_pos h, if_pos (by rw [Nat.add_mul, Nat.one_mul]; omega), Nat.mod_eq_of_lt h]
  ·rw [if_neg h, flat_get n (j - zs.length)]
   by_cases h2 : j < (n + 1) * zs.length
   ·rw [if_pos h2, if_pos (by rw [Nat.add_mul, Nat.one_mul] at h2; omega), ← Nat.mod_eq_sub_mod (by omega)]
   ·rw [if_neg h2, if_neg (by rw [Nat.add_mul, Nat.one_mul] at h2; omega)]
theorem zo {zs : List Value} (n : Nat) : (madeCells zs.toArray (n * zs.length)).toList = (List.replicate n zs).flatten := by
 apply List.ext_getElem?
 intro j
 rw [flat_get]
 simp only [madeCells, Array.toList_map, Array.toList_range, List.getElem?_map, List.getElem?_range']
 by_cases h : j < n * zs.length
 ·have h0 : 0 < zs.length := by
   rcases Nat.eq_zero_or_pos zs.length with h0 | h0
   ·rw [h0] at h; simp at h
   ·exact h0
  have hm : j % zs.length < zs.length := Nat.mod_lt _ h0
  rw [if_pos h, List.getElem?_range h, Option.map_some, List.getElem?_eq_getElem hm]
  simp [hm]
 ·rw [if_neg h, List.getElem?_eq_none (by simpa using h)]; rfl
theorem yr (I : Hp G L w) {tt e by_ : Nat} {zs : List Value} {z : α} {kl kc : IntKind} {m : Int} (hE : k9 P tt = some (e, kd.sz, by_)) (hz : gG P e = some zs) (hzl : zs.length = kd.sz) (hK : kd.K G z zs) (hx : ev N r x = .int kl m) (hy : ev N r y = .int kc m)
  (h0 : 0 ≤ m) (hb : (by_ : Int) * m ≤ 281474976710656) (h63 : m ≤ 9223372036854775807)
  (k : ∀ g n w', (List.replicate m.toNat z).length = n → Hp G (gn G kd (some ⟨g, 0, none⟩) [] (List.replicate m.toNat z) [] n e :: L) w' → ca P ro N ops rest Q (r.putO d (.slice (some ⟨g, 0, none⟩) n n)) ds w')
  (hw : Region.wanted ⟨d, .makeSlice tt x y, ty, ps, af, gd⟩ (aH ops N r) = true := by rfl) : ca P ro N ops (⟨d, .makeSlice tt x y, ty, ps, af, gd⟩ :: rest) Q r ds w := by
 obtain ⟨hu, inf, hi, hsz, hby⟩ := kL hE
 obtain ⟨zv, hzv, hzc⟩ := mb hz
 obtain ⟨inf', hi', hzero⟩ := q6 hzv
 rw [hi] at hi'; cases hi'
 have hrun := run_make (P := P) w tt e inf zv hu hi hzero kl kc m m h0 (Int.le_refl _) (by rw [hby]; exact hb) h63
 rw [hzc, hsz, ← hzl] at hrun
 have hrow : madeCells zs.toArray (m.toNat * zs.length) = ((List.replicate m.toNat zs).flatten).toArray := by rw [← zo, Array.toArray_toList]
 rw [hrow] at hrun
 refine cW hw (by simp) (v := .slice (some ⟨w.heap.size, 0, none⟩) m.toNat m.toNat) (w' := w.alloc (.cells ((List.replicate m.toNat zs).flatten).toArray e)) ?_ (k _ _ _ (by simp) ?_)
 ·simp [execOp, hx, hy, hrun]
 ·exact Hp.rowLit (I.alloc_bx _ e) (Flat.replicate hK _) (by simp)
theorem Dg {u : TypeId} (I : Hp G L w) (i : Nat) (hu : gX P u = some 1) (hk : L[i]? = some (gn Gx kd A0 pre t post lim T)) (hM : Mw A0 A pre.length n c lim kd.sz) (hn : t.length = n) : ∃ news, Src P u (.slice A n c) n kd.sz news w ∧ Flat kd Gx t news := by
 have hle := hM.le
 by_cases h0 : n = 0
 ·subst h0
  have : t = [] := List.eq_nil_of_length_eq_zero hn
  subst this
  exact ⟨[], .inl ⟨hu, .inl ⟨rfl, rfl, A, c, rfl⟩⟩, rfl⟩
 ·rcases hM.ok with h | ⟨g, o, rfl, rfl⟩
  ·omega
  ·obtain ⟨ob, hb, _, cs, rfl, hsz, hlim, fl, hF, hfl⟩ := I.at i hk rfl
   obtain ⟨f1, f2, rfl, h1, h2⟩ := Flat.split hF
   obtain ⟨f3, f4, rfl, h3, h4⟩ := Flat.split h2
   have l1 := h1.len
   have l3 := h3.len
   refine ⟨f3, .inl ⟨hu, .inr ⟨⟨g, o + pre.length * kd.sz, none⟩, c, rfl, by rw [l3, hn], fun j v hv => ?_⟩⟩, h3⟩
   have hj := (List.getElem?_eq_some_iff.1 hv).1
   rw [add_plain]
   refine cell_of_block hb ?_
   have := hfl (f1.length + j) v (by rw [List.getElem?_append_right (by omega), show f1.length + j - f1.length = j by omega, List.getElem?_append_left hj]; exact hv)
   simp only [List.getElem?_toArray]
   rwa [show o + (f1.length + j) = o + pre.length * kd.sz + j by omega] at this
theorem pO {t' : Nat} {β : Type} {u : List β} (hE : gX P t' = some 1) (hx : ev N r x = .slice A n c) (hn : u.length = n)
  (k : ca P ro N ops rest Q (r.putO d (.int .i64 (u.length : Int))) ds w) (hw : Region.wanted ⟨d, .call { callee := .builtin .len, args := #[x], argTypes := #[t'] }, ty, ps, af, gd⟩ (aH ops N r) = true := by rfl) :
  ca P ro N ops (⟨d, .call { callee := .builtin .len, args := #[x], argTypes := #[t'] }, ty, ps, af, gd⟩ :: rest) Q r ds w := by
 subst hn
 exact q_len hE hx k hw
theorem Bj {T' U : TypeId} {kk k' : IntKind} {a b : Int} {m : Nat} (hx : ev N r x = .int kk a) (hy : ev N r y = .int k' b) (hb : b = (m : Int)) (k : ca P ro N ops rest Q (r.putO d (.int kk (Int.fdiv a (2 ^ m)))) ds w) (hm : Nat.min m kk.bits = m := by rfl)
  (hw : Region.wanted ⟨d, .binOp .shr T' x y U, ty, ps, af, gd⟩ (aH ops N r) = true := by rfl) : ca P ro N ops (⟨d, .binOp .shr T' x y U, ty, ps, af, gd⟩ :: rest) Q r ds w := by
 subst hb
 have hm' : min m kk.bits = m := hm
 have h0 : ¬ ((m : Int) < 0) := by omega
 refine cW (v := .int kk (Int.fdiv a (2 ^ m))) (w' := w) hw (by simp) ?_ k
 simp [aC, run_pure', aQ, aw, andThen_ok, Sem.run_bind, execOp, hx, hy, fd, binOp, Op.shift, h0, hm']
theorem Dat.none {β : Type} {k : Kd β} {G' : Gh} {xs : List β} (h : Dat k G' none xs) : xs = [] := by
 cases xs with
 | nil => rfl
 | cons x xs =>
  obtain ⟨a, ha, _⟩ := h (by simp)
  cases ha
theorem Mw.nil {np sz : Nat} (hM : Mw A0 none np n c lim sz) (hn : t.length = n) : t = [] := by
 have := hM.le
 rcases hM.ok with h | ⟨g, o, _, h⟩
 ·exact List.eq_nil_of_length_eq_zero (by omega)
 ·cases h
theorem xc {T' e : TypeId} (hu : P.underlying T' = some (.slice e)) (dd : Nat) : (Op.equalIn (dd + 1) T' (.slice none n c) (.slice none 0 0)).run P w = .ok true w := by
 simp [Op.equalIn, run_underlying hu, Sem.run_bind, andThen_ok, run_pure']
theorem xa {T' e : TypeId} {a : Addr} (hu : P.underlying T' = some (.slice e)) (dd : Nat) : (Op.equalIn (dd + 1) T' (.slice (some a) n c) (.slice none 0 0)).run P w = .ok false w := by
 simp [Op.equalIn, run_underlying hu, Sem.run_bind, andThen_ok, run_pure']
theorem uC {T' U : TypeId} (hT : gX P T' = some 1) (hx : ev N r x = .slice none n c) (hy : ev N r y = .slice none 0 0) (k : ca P ro N ops rest Q (r.putO d (.bool true)) ds w)
  (hw : Region.wanted ⟨d, .binOp .eql T' x y U, ty, ps, af, gd⟩ (aH ops N r) = true := by rfl) : ca P ro N ops (⟨d, .binOp .eql T' x y U, ty, ps, af, gd⟩ :: rest) Q r ds w := by
 obtain ⟨e, hu⟩ := n9 hT
 have he : (Op.equalIn Op.maxDepth T' (.slice none n c) (.slice none 0 0)).run P w = .ok true w := xc hu 9999
 refine cW (v := .bool true) (w' := w) hw (by simp) ?_ k
 simp [execOp, hx, hy, eqGuard, binOp, Op.equal, he, Sem.run_bind, andThen_ok, run_pure']
theorem uy {T' U : TypeId} {a : Addr} (hT : gX P T' = some 1) (hx : ev N r x = .slice (some a) n c) (hy : ev N r y = .slice none 0 0) (k : ca P ro N ops rest Q (r.putO d (.bool false)) ds w)
  (hw : Region.wanted ⟨d, .binOp .eql T' x y U, ty, ps, af, gd⟩ (aH ops N r) = true := by rfl) : ca P ro N ops (⟨d, .binOp .eql T' x y U, ty, ps, af, gd⟩ :: rest) Q r ds w := by
 obtain ⟨e, hu⟩ := n9 hT
 have he : (Op.equalIn Op.maxDepth T' (.slice (some a) n c) (.slice none 0 0)).run P w = .ok false w := xa hu 9999
 refine cW (v := .bool false) (w' := w) hw (by simp) ?_ k
 simp [execOp, hx, hy, eqGuard, binOp, Op.equal, he, Sem.run_bind, andThen_ok, run_pure']
end
end Go.LG
