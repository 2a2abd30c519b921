/-
 LG, part S: rows whose elements are written.
-/
import Derived.Test.YtlcfemplcaejgaaLgN
import Derived.Laws.MakeOwn
set_option linter.unusedVariables false
set_option linter.unusedSimpArgs false
namespace Go.LG
open Go.RowKit

def n1 (g lo : Nat) (cs : List Value) (T : TypeId) : dv := ⟨some g, lo, fun o => o = .cells cs.toArray T (0, 0)⟩
section
variable {P : Program} {G : Gh} {L : List dv} {w : World}
theorem Hp.retell (I : Hp G L w) (k : Nat) {it it' : dv} (hk : L[k]? = some it) {g : Nat} (hg : it.blk = some g) (hg' : it'.blk = some g) (hlo : it.lo ≤ it'.lo) (h : ∀ o, w.heap[g]? = some o → it.P o → it'.P o) : Hp G (L.set k it') w := by
 obtain ⟨o, ho, hp⟩ := I.at k hk hg
 exact I.write k hk (it' := it') hg hg' hlo (w' := w) rfl rfl rfl (fun _ _ => rfl) (fun _ _ _ => rfl) ho (h o ho hp)
theorem jd (g lo : Nat) {U : TypeId} : ∀ (cs vs : List Value) (o i : Nat) (w : World) (L : List dv), Hp G L w → ∀ k, L[k]? = some (n1 g lo vs U) → (∀ v ∈ cs, one v = true) → lo ≤ o + i → o + i + cs.length ≤ vs.length →
  ∃ w', (storeCells ⟨g, o, none⟩ cs i).run P w = .ok () w' ∧ Hp G (L.set k (n1 g lo (cF vs (o + i) cs) U)) w'
 | [], vs, o, i, w, L, hI, k, hk, _, _, _ => ⟨w, rfl, by
   have : L.set k (n1 g lo vs U) = L := by
    obtain ⟨hlt, he⟩ := List.getElem?_eq_some_iff.1 hk
    rw [← he]; exact List.set_getElem_self hlt
   show Hp G (L.set k (n1 g lo vs U)) w
   rw [this]; exact hI⟩
 | c :: cs, vs, o, i, w, L, hI, k, hk, h1, hlo, hl => by
  simp only [List.length_cons] at hl
  have hlt : o + i < vs.length := by omega
  obtain ⟨ob, hb, rfl⟩ := hI.at k hk rfl
  have hcell : w.cell? ⟨g, o + i, none⟩ = some vs[o + i] := by simp [World.cell?, hb, hlt]
  have hfr : w.frozen? ⟨g, o + i, none⟩ = false := by simp [World.frozen?, hb]
  have hI' : Hp G (L.set k (n1 g lo (vs.set (o + i) c) U)) (w.setCell ⟨g, o + i, none⟩ c) :=
   hI.write k hk (it' := n1 g lo (vs.set (o + i) c) U) rfl rfl (Nat.le_refl _) rfl rfl rfl (fun j hj => gn w _ c hj)
    (fun a ha hl => World.cell?_setCell_other w _ a c (fun e => by subst e; exact absurd hlo (Nat.not_le_of_lt hl))) (heap_setCell_same w g _ c hb) (by simp [n1])
  have hkl : k < L.length := (List.getElem?_eq_some_iff.1 hk).1
  obtain ⟨w', hr, hI2⟩ := jd g lo cs (vs.set (o + i) c) o (i + 1) _ _ hI' k (List.getElem?_set_self hkl) (fun v hv => h1 v (List.mem_cons_of_mem _ hv)) (by omega) (by simp; omega)
  refine ⟨w', ?_, ?_⟩
  ·have e := run_store (P := P) (w := w) hcell hfr (h1 c (List.mem_cons_self ..))
   simp only [storeCells, Sem.run_bind, add_plain, e, andThen_ok]
   exact hr
  ·rw [List.set_set] at hI2
   exact hI2
end
theorem eP : ∀ (cs vs : List Value) (p : Nat) (j : Nat), p + cs.length ≤ vs.length → (cF vs p cs)[j]? = if p ≤ j ∧ j < p + cs.length then cs[j - p]? else vs[j]?
 | [], vs, p, j, _ => by
  rw [cF, if_neg (by simp only [List.length_nil]; omega)]
 | c :: cs, vs, p, j, h => by
  simp only [List.length_cons] at h
  rw [cF, eP cs (vs.set p c) (p + 1) j (by simp; omega)]
  by_cases h1 : p + 1 ≤ j ∧ j < p + 1 + cs.length
  ·rw [if_pos h1, if_pos (by simp; omega), show j - p = (j - (p + 1)) + 1 by omega, List.getElem?_cons_succ]
  ·rw [if_neg h1]
   by_cases h2 : j = p
   ·subst h2
    rw [if_pos (by simp), List.getElem?_set_self (by omega)]; simp
   ·rw [if_neg (by simp; omega), List.getElem?_set_ne (fun e => h2 e.symm)]
theorem lY (cs vs : List Value) (h : cs.length = vs.length) : cF vs 0 cs = cs := by
 apply List.ext_getElem?
 intro j
 rw [eP cs vs 0 j (by omega)]
 by_cases hj : j < cs.length
 ·rw [if_pos (by omega), Nat.sub_zero]
 ·rw [if_neg (by omega), List.getElem?_eq_none (by omega), List.getElem?_eq_none (by omega)]
theorem nG {fl cs news : List Value} {b p : Nat} (hp : p + news.length ≤ fl.length) (hb : ∀ j v, fl[j]? = some v → cs[b + j]? = some v) (hc : b + fl.length ≤ cs.length) :
  ∀ j v, (cF fl p news)[j]? = some v → (cF cs (b + p) news)[b + j]? = some v := by
 intro j v hv
 rw [eP _ _ _ _ hp] at hv
 rw [eP _ _ _ _ (by omega)]
 by_cases h : p ≤ j ∧ j < p + news.length
 ·rw [if_pos h] at hv
  rw [if_pos (by omega), show b + j - (b + p) = j - p by omega]; exact hv
 ·rw [if_neg h] at hv
  rw [if_neg (by omega)]; exact hb j v hv
theorem mp (c1 c2 : List Value) (p : Nat) (news : List Value) (h : p + news.length ≤ c1.length) : cF (c1 ++ c2) p news = cF c1 p news ++ c2 := by
 apply List.ext_getElem?
 intro j
 have hl : (cF c1 p news).length = c1.length := f0 _ _ _
 rw [eP _ _ _ _ (by simp; omega), List.getElem?_append, List.getElem?_append, hl]
 by_cases h1 : j < c1.length
 ·rw [if_pos h1, if_pos h1, eP _ _ _ _ h]
 ·rw [if_neg h1, if_neg h1, if_neg (by omega)]
theorem lN (c1 c2 : List Value) (p : Nat) (news : List Value) (h : p + news.length ≤ c2.length) : cF (c1 ++ c2) (c1.length + p) news = c1 ++ cF c2 p news := by
 apply List.ext_getElem?
 intro j
 rw [eP _ _ _ _ (by simp; omega), List.getElem?_append, List.getElem?_append]
 by_cases h1 : j < c1.length
 ·rw [if_pos h1, if_pos h1, if_neg (by omega)]
 ·rw [if_neg h1, if_neg h1, eP _ _ _ _ h]
  by_cases h2 : p ≤ j - c1.length ∧ j - c1.length < p + news.length
  ·rw [if_pos h2, if_pos (by omega), show j - (c1.length + p) = j - c1.length - p by omega]
  ·rw [if_neg h2, if_neg (by omega)]
theorem Flat.split {α : Type} {k : Kd α} {G : Gh} : ∀ {xs ys : List α} {cs : List Value}, Flat k G (xs ++ ys) cs → ∃ c1 c2, cs = c1 ++ c2 ∧ Flat k G xs c1 ∧ Flat k G ys c2
 | [], ys, cs, h => ⟨[], cs, rfl, rfl, h⟩
 | x :: xs, ys, cs, ⟨c1, c2, h, h1, h2⟩ => by
  obtain ⟨d1, d2, rfl, h3, h4⟩ := Flat.split h2
  exact ⟨c1 ++ d1, d2, by rw [h, List.append_assoc], ⟨c1, d1, rfl, h1, h3⟩, h4⟩
theorem Flat.set {α : Type} {k : Kd α} {G G' : Gh} (hG : G ≤ G') {y : α} {off : Nat} {news : List Value} (hoff : off + news.length ≤ k.sz) : ∀ {xs : List α} {fl : List Value} (i : Nat) {x : α}, Flat k G xs fl → xs[i]? = some x → (∀ old, k.K G x old → k.K G' y (cF old off news)) →
  Flat k G' (xs.set i y) (cF fl (i * k.sz + off) news)
 | [], fl, i, x, _, hx, _ => by simp at hx
 | x :: xs, fl, 0, z, ⟨c1, c2, h, h1, h2⟩, hx, hK => by
  simp at hx; subst hx
  subst h
  rw [Nat.zero_mul, Nat.zero_add, mp _ _ _ _ (by rw [k.len h1]; exact hoff)]
  exact ⟨_, _, rfl, hK _ h1, h2.mono hG⟩
 | x :: xs, fl, i + 1, z, ⟨c1, c2, h, h1, h2⟩, hx, hK => by
  subst h
  have hi : i < xs.length := by
   have := (List.getElem?_eq_some_iff.1 hx).1
   simpa using this
  have hl := h2.len
  have hm : i * k.sz + k.sz ≤ xs.length * k.sz := by
   rw [← Nat.succ_mul]; exact Nat.mul_le_mul_right _ hi
  rw [show (i + 1) * k.sz + off = c1.length + (i * k.sz + off) by rw [k.len h1, Nat.add_mul, Nat.one_mul]; omega, lN _ _ _ _ (by omega)]
  exact ⟨_, _, rfl, k.mono hG h1, Flat.set hG hoff i h2 (by simpa using hx) hK⟩
theorem Flat.get {α : Type} {k : Kd α} {G : Gh} : ∀ {xs : List α} {fl : List Value} (i : Nat) {x : α}, Flat k G xs fl → xs[i]? = some x → ∃ cs, k.K G x cs ∧ ∀ q v, cs[q]? = some v → fl[i * k.sz + q]? = some v
 | [], fl, i, x, _, hx => by simp at hx
 | x :: xs, fl, 0, z, ⟨c1, c2, h, h1, h2⟩, hx => by
  simp at hx; subst hx
  refine ⟨c1, h1, fun q v hv => ?_⟩
  have hq := (List.getElem?_eq_some_iff.1 hv).1
  rw [h, Nat.zero_mul, Nat.zero_add, List.getElem?_append, if_pos hq]; exact hv
 | x :: xs, fl, i + 1, z, ⟨c1, c2, h, h1, h2⟩, hx => by
  obtain ⟨cs, hK, hc⟩ := Flat.get i h2 (by simpa using hx)
  refine ⟨cs, hK, fun q v hv => ?_⟩
  rw [h, show (i + 1) * k.sz + q = c1.length + (i * k.sz + q) by rw [k.len h1, Nat.add_mul, Nat.one_mul]; omega, List.getElem?_append_right (by omega)]
  rw [show c1.length + (i * k.sz + q) - c1.length = i * k.sz + q by omega]; exact hc q v hv
theorem Flat.replicate {α : Type} {k : Kd α} {G : Gh} {z : α} {zs : List Value} (h : k.K G z zs) : ∀ n, Flat k G (List.replicate n z) ((List.replicate n zs).flatten)
 | 0 => rfl
 | n + 1 => ⟨zs, _, by rw [List.replicate_succ, List.flatten_cons], h, Flat.replicate h n⟩

def bO {α : Type} (G : Gh) (k : Kd α) (A0 : Option Addr) (pre t post : List α) (lim : Nat) (T : TypeId) : dv :=
 match A0 with
 | some a => ⟨some a.block, a.off, fun o => a.spot = none ∧ ∃ cs : List Value, o = .cells cs.toArray T (0, 0) ∧ a.off + lim * k.sz ≤ cs.length ∧ (pre ++ (t ++ post)).length ≤ lim ∧ ∃ fl, Flat k G (pre ++ (t ++ post)) fl ∧ ∀ j v, fl[j]? = some v → cs[a.off + j]? = some v⟩
 | none => emp
structure Mw (A0 A : Option Addr) (np n c lim sz : Nat) : Prop where
 ok : c = 0 ∨ ∃ g o, A0 = some ⟨g, o, none⟩ ∧ A = some ⟨g, o + np * sz, none⟩
 le : n ≤ c
section
variable {P : Program} {ro : Option Nat} {N : Nat} {ops : Array Oper} {rest : List Oper} {Q : d6} {r : Rg} {ds : List Deferred} {w : World}
variable {d : Option Nat} {ty : TypeId} {ps : String} {af : Array Edge} {gd : Option (Nat × Bool)} {x y : Operand} {G Gx : Gh} {L : List dv}
variable {α : Type} {kd : Kd α} {A0 A : Option Addr} {pre t post : List α} {n c lim : Nat} {T : TypeId}
theorem iy {β : Type} {u : List β} (hn : u.length = n) {j : Int} (h : j < (u.length : Int)) : j < (n : Int) := by rw [← hn]; exact h
theorem ef {j : Nat} {y : α} (hn : t.length = n) : (t.set j y).length = n := by rw [List.length_set]; exact hn
theorem oq {G' : Gh} {x y : α} {old news : List Value} (ho : kd.K Gx x old) (hl : news.length = kd.sz) (h : kd.K G' y news) : kd.K G' y (cF old 0 news) := by
 rw [lY _ _ (by rw [kd.len ho, hl])]; exact h
theorem Mw.ad {np sz : Nat} (hM : Mw A0 A np n c lim sz) {j : Int} (h0 : 0 ≤ j) (h1 : j < (n : Int)) : ∃ ad, A = some ad := by
 have hle := hM.le
 rcases hM.ok with h | ⟨g, o, _, h⟩
 ·omega
 ·exact ⟨_, h⟩
theorem add_zero' (a : Addr) : a.add 0 = a := by simp [Addr.add]
theorem cell0 {a : Addr} {v : Value} (h : w.cell? (a.add 0) = some v) : w.cell? a = some v := by rwa [add_zero'] at h
theorem Hp.rwGet (I : Hp G L w) (i : Nat) (hk : L[i]? = some (bO Gx kd A0 pre t post lim T)) (hM : Mw A0 A pre.length n c lim kd.sz) (hn : t.length = n) {ad : Addr} (hA : A = some ad) (z : α) {j : Int} (h0 : 0 ≤ j) (h1 : j < (n : Int)) :
  ∃ cs, kd.K Gx (t.getD j.toNat z) cs ∧ cs.length = kd.sz ∧ ∀ q v, cs[q]? = some v → w.cell? ((ad.add (j.toNat * kd.sz)).add q) = some v := by
 have hle := hM.le
 rcases hM.ok with h | ⟨g, o, rfl, h⟩
 ·omega
 ·subst hA; cases h
  obtain ⟨ob, hb, _, cs, rfl, hsz, hlim, fl, hF, hfl⟩ := I.at i hk rfl
  have hlt : j.toNat < t.length := by omega
  have hx : (pre ++ (t ++ post))[pre.length + j.toNat]? = some (t.getD j.toNat z) := by
   rw [List.getElem?_append_right (by omega), show pre.length + j.toNat - pre.length = j.toNat by omega, List.getElem?_append_left hlt, List.getD_eq_getElem?_getD, List.getElem?_eq_getElem hlt]; rfl
  obtain ⟨c1, hK, hc1⟩ := Flat.get _ hF hx
  refine ⟨c1, hK, kd.len hK, fun q v hv => ?_⟩
  have := hfl _ v (hc1 q v hv)
  rw [add_plain, add_plain]
  refine cell_of_block hb ?_
  simp only [List.getElem?_toArray]
  rwa [show o + pre.length * kd.sz + j.toNat * kd.sz + q = o + ((pre.length + j.toNat) * kd.sz + q) by rw [Nat.add_mul]; omega]
theorem set_mid (pre t post : List α) (j : Nat) (y : α) (h : j < t.length) : (pre ++ (t ++ post)).set (pre.length + j) y = pre ++ (t.set j y ++ post) := by
 rw [List.set_append_right _ _ (by omega), show pre.length + j - pre.length = j by omega, List.set_append_left _ _ h]
theorem kp {Gy : Gh} (I : Hp G L w) (i : Nat) {U : TypeId} {b : Bool} {m off : Nat} {ad a' : Addr} {j : Int} {v : Value} {news : List Value} (z y' : α) (hT : er P U = some (b, m)) (hk : L[i]? = some (bO Gx kd A0 pre t post lim T)) (hM : Mw A0 A pre.length n c lim kd.sz) (hn : t.length = n)
  (hA : A = some ad) (h0 : 0 ≤ j) (h1 : j < (n : Int)) (ha : (ad.add (j.toNat * kd.sz)).add off = a') (hx : ev N r x = .pointer (some a')) (hy : ev N r y = v) (hv : v.cells.toList = news) (hl : news.length = m) (hone : news.all one = true) (hoff : off + m ≤ kd.sz) (hG : Gx ≤ Gy)
  (hK : ∀ old, kd.K Gx (t.getD j.toNat z) old → kd.K Gy y' (cF old off news))
  (k : ∀ w', Hp G (L.set i (bO Gy kd A0 pre (t.set j.toNat y') post lim T)) w' → bE P ro N ops rest Q (r.putO d undef) ds w') (hw : Region.wanted ⟨d, .store U x y, ty, ps, af, gd⟩ (aC ops N r) = true := by rfl) :
  bE P ro N ops (⟨d, .store U x y, ty, ps, af, gd⟩ :: rest) Q r ds w := by
 have hle := hM.le
 rcases hM.ok with h | ⟨g, o, rfl, h⟩
 ·omega
 ·subst hA; cases h
  obtain ⟨ob, hb, _, cs, rfl, hsz, hlim, fl, hF, hfl⟩ := I.at i hk rfl
  have hlt : j.toNat < t.length := by omega
  have hx' : (pre ++ (t ++ post))[pre.length + j.toNat]? = some (t.getD j.toNat z) := by
   rw [List.getElem?_append_right (by omega), show pre.length + j.toNat - pre.length = j.toNat by omega, List.getElem?_append_left hlt, List.getD_eq_getElem?_getD, List.getElem?_eq_getElem hlt]; rfl
  have hfll := hF.len
  have hin : (pre.length + j.toNat) * kd.sz + kd.sz ≤ fl.length := by
   rw [hfll, ← Nat.succ_mul]
   exact Nat.mul_le_mul_right _ (by simp; omega)
  have hflc : o + fl.length ≤ cs.length := by
   rw [hfll]
   exact Nat.le_trans (Nat.add_le_add_left (Nat.mul_le_mul_right _ hlim) _) hsz
  have I1 : Hp G (L.set i (n1 g o cs T)) w := I.retell i hk (it' := n1 g o cs T) rfl rfl (Nat.le_refl _) (fun o' ho' hp => by rw [hb] at ho'; cases ho'; rfl)
  have hil : i < L.length := (List.getElem?_eq_some_iff.1 hk).1
  have hoo : o + pre.length * kd.sz + j.toNat * kd.sz + off = o + ((pre.length + j.toNat) * kd.sz + off) := by rw [Nat.add_mul]; omega
  obtain ⟨w', hr, I2⟩ := jd (P := P) g o news cs (o + ((pre.length + j.toNat) * kd.sz + off)) 0 w _ I1 i (List.getElem?_set_self hil) (fun v hv => List.all_eq_true.1 hone v hv) (by omega) (by omega)
  rw [List.set_set, Nat.add_zero] at I2
  have hil2 : i < (L.set i (n1 g o (cF cs (o + ((pre.length + j.toNat) * kd.sz + off)) news) T)).length := by rw [List.length_set]; exact hil
  have I3 := I2.retell i (List.getElem?_set_self hil) (it' := bO Gy kd (some ⟨g, o, none⟩) pre (t.set j.toNat y') post lim T) rfl rfl (Nat.le_refl _) (fun o' ho' hp => by
   cases hp
   refine ⟨rfl, _, rfl, by rw [f0]; exact hsz, by simpa using hlim, _, ?_, nG (p := (pre.length + j.toNat) * kd.sz + off) (by omega) hfl hflc⟩
   rw [← set_mid _ _ _ _ _ hlt]
   exact Flat.set hG (by omega) _ hF hx' hK)
  rw [List.set_set] at I3
  refine pQ hw (by simp) (w' := w') ?_ (k w' I3)
  have hszv : v.cells.size = m := by rw [← Array.length_toList, hv, hl]
  subst ha
  have e : ((⟨g, o + pre.length * kd.sz, none⟩ : Addr).add (j.toNat * kd.sz)).add off = ⟨g, o + ((pre.length + j.toNat) * kd.sz + off), none⟩ := by rw [add_plain, add_plain, hoo]
  rw [e] at hx
  simp [aB, run_pure', aL, az, andThen_ok, Sem.run_bind, execOp, hx, hy, Instr.storeAt, Instr.sureAddr, storeVar, i7 hT, hszv, hv, hr]
theorem Hp.rwUp (I : Hp G L w) (i : Nat) (hk : L[i]? = some (bO Gx kd A0 pre t post lim T)) {G' : Gh} (hG : Gx ≤ G') : Hp G (L.set i (bO G' kd A0 pre t post lim T)) w := by
 cases A0 with
 | none =>
  obtain ⟨hlt, he⟩ := List.getElem?_eq_some_iff.1 hk
  have : bO G' kd none pre t post lim T = L[i] := by rw [he]; rfl
  rw [this, List.set_getElem_self hlt]
  exact I
 | some a =>
  exact I.retell i hk (it' := bO G' kd (some a) pre t post lim T) rfl rfl (Nat.le_refl _) (fun o ho hp => by
   obtain ⟨h1, cs, h2, h3, h4, fl, h5, h6⟩ := hp
   exact ⟨h1, cs, h2, h3, h4, fl, h5.mono hG, h6⟩)
theorem Mw.new (g : Nat) (n sz : Nat) : Mw (some ⟨g, 0, none⟩) (some ⟨g, 0, none⟩) ([] : List α).length n n n sz := ⟨.inr ⟨g, 0, rfl, by simp⟩, Nat.le_refl _⟩
theorem Hp.rwFreeze (I : Hp G L w) (i : Nat) (hk : L[i]? = some (bO Gx kd A [] t [] c T)) (hM : Mw A A ([] : List α).length n c c kd.sz) (hn : t.length = n) (hG : Gx ≤ G) :
  ∃ G', G ≤ G' ∧ Hp G' (L.set i (tk (.slice A t.length c) kd.sz T)) w ∧ Dat kd G' A t ∧ Own A c ∧ t.length ≤ c := by
 have hle := hM.le
 subst hn
 cases A with
 | none =>
  have hc : c = 0 := by
   rcases hM.ok with h | ⟨g, o, h, _⟩
   ·exact h
   ·cases h
  subst hc
  have ht : t = [] := List.eq_nil_of_length_eq_zero (by omega)
  subst ht
  refine ⟨G, Gh.le_refl _, ?_, Dat.nil _ _ _, Own.nil, Nat.le_refl _⟩
  obtain ⟨hlt, he⟩ := List.getElem?_eq_some_iff.1 hk
  have : tk (.slice none ([] : List α).length 0) kd.sz T = L[i] := by rw [he]; rfl
  rw [this, List.set_getElem_self hlt]
  exact I
 | some a =>
  obtain ⟨ob, hb, hsp, cs, rfl, hsz, hlim, fl, hF, hfl⟩ := I.at i hk rfl
  obtain ⟨g, o, s⟩ := a
  simp only at hsp hb hsz hfl
  subst hsp
  have hil : i < L.length := (List.getElem?_eq_some_iff.1 hk).1
  have hfll := hF.len
  simp only [List.nil_append, List.append_nil] at hF hfll hlim
  have I1 : Hp G (L.set i (tk (.slice (some ⟨g, o, none⟩) t.length c) kd.sz T)) w := I.retell i hk (it' := tk (.slice (some ⟨g, o, none⟩) t.length c) kd.sz T) rfl rfl (Nat.le_add_right _ _) (fun o' ho' hp => by
   rw [hb] at ho'; cases ho'
   exact ⟨_, rfl, by simpa using hsz⟩)
  obtain ⟨I2, hG2⟩ := I1.add g (fun j => if o ≤ j ∧ j < o + t.length * kd.sz then fl[j - o]? else none) (fun j v hv => by
   split at hv
   ·rename_i hj
    have := hfl (j - o) v hv
    rw [show o + (j - o) = j by omega] at this
    exact cell_of_block hb (by simpa using this)
   ·cases hv) (fun it hit hg j hj => by
   split
   ·rename_i hjj
    obtain ⟨m, hm⟩ := List.getElem?_of_mem hit
    by_cases hmk : m = i
    ·subst hmk
     rw [List.getElem?_set_self hil] at hm
     cases hm
     simp only [tk, ar] at hj
     omega
    ·exfalso
     have hmm := (List.getElem?_eq_some_iff.1 hm).1
     have hkk : i < (L.set i (tk (.slice (some ⟨g, o, none⟩) t.length c) kd.sz T)).length := by rw [List.length_set]; exact hil
     have hLm := (List.getElem?_eq_some_iff.1 hm).2
     have hLk : (L.set i (tk (.slice (some ⟨g, o, none⟩) t.length c) kd.sz T))[i] = tk (.slice (some ⟨g, o, none⟩) t.length c) kd.sz T := by rw [List.getElem_set_self]
     have hp := List.pairwise_iff_getElem.1 I1.sepL
     rcases Nat.lt_or_gt_of_ne hmk with hlt' | hgt
     ·exact hp m i hmm hkk hlt' g (by rw [hLm]; exact hg) (by rw [hLk]; rfl)
     ·exact hp i m hkk hmm hgt g (by rw [hLk]; rfl) (by rw [hLm]; exact hg)
   ·rfl)
  refine ⟨_, hG2, I2, ?_, .mk _ _ _, hle⟩
  refine Dat.of_cells ((hF.mono hG).mono hG2) fun j v hv => ?_
  rw [add_plain]
  refine Gh.add_cel ?_
  have hj := (List.getElem?_eq_some_iff.1 hv).1
  rw [if_pos (by omega), show o + j - o = j by omega]
  exact hv
theorem Hp.rowLit {g : Nat} {cs : List Value} (I : Hp G (LG.bx g cs T :: L) w) (hF : Flat kd G t cs) (hn : n = t.length) : Hp G (bO G kd (some ⟨g, 0, none⟩) [] t [] n T :: L) w := by
 subst hn
 have hl := hF.len
 exact I.retell 0 rfl (it' := bO G kd (some ⟨g, 0, none⟩) [] t [] t.length T) (g := g) rfl rfl (Nat.le_refl _) (fun o ho hp => by
  cases hp
  exact ⟨rfl, cs, rfl, by simp [hl], by simp, cs, by simpa using hF, fun j v hv => by simpa using hv⟩)
theorem flat_get {zs : List Value} : ∀ (n j : Nat), ((List.replicate n zs).flatten)[j]? = if j < n * zs.length then zs[j % zs.length]? else none
 | 0, j => by simp
 | n + 1, j => by
  rw [List.replicate_succ, List.flatten_cons, List.getElem?_append]
  by_cases h : j < zs.length
  ·rw [if_pos h, if_pos (by rw [Nat.add_mul, Nat.one_mul]; omega), Nat.mod_eq_of_lt h]
  ·rw [if_neg h, flat_get n (j - zs.length)]
   by_cases h2 : j < (n + 1) * zs.length
   ·rw [if_pos h2, if_pos (by rw [Nat.add_mul, Nat.one_mul] at h2; omega), ← Nat.mod_eq_sub_mod (by omega)]
   ·rw [if_neg h2, if_neg (by rw [Nat.add_mul, Nat.one_mul] at h2; omega)]
theorem nY {zs : List Value} (n : Nat) : (madeCells zs.toArray (n * zs.length)).toList = (List.replicate n zs).flatten := by
 apply List.ext_getElem?
 intro j
 rw [flat_get]
 simp only [madeCells, Array.toList_map, Array.toList_range, List.getElem?_map, List.getElem?_range']
 by_cases h : j < n * zs.length
 ·have h0 : 0 < zs.length := by
   rcases Nat.eq_zero_or_pos zs.length with h0 | h0
   ·rw [h0] at h; simp at h
   ·exact h0
  have hm : j % zs.length < zs.length := Nat.mod_lt _ h0
  rw [if_pos h, List.getElem?_range h, Option.map_some, List.getElem?_eq_getElem hm]
  simp [hm]
 ·rw [if_neg h, List.getElem?_eq_none (by simpa using h)]; rfl
theorem nr (I : Hp G L w) {tt e by_ : Nat} {zs : List Value} {z : α} {kl kc : IntKind} {m : Int} (hE : gE P tt = some (e, kd.sz, by_)) (hz : eo P e = some zs) (hzl : zs.length = kd.sz) (hK : kd.K G z zs) (hx : ev N r x = .int kl m) (hy : ev N r y = .int kc m)
  (h0 : 0 ≤ m) (hb : (by_ : Int) * m ≤ 281474976710656) (h63 : m ≤ 9223372036854775807)
  (k : ∀ g n w', (List.replicate m.toNat z).length = n → Hp G (bO G kd (some ⟨g, 0, none⟩) [] (List.replicate m.toNat z) [] n e :: L) w' → bE P ro N ops rest Q (r.putO d (.slice (some ⟨g, 0, none⟩) n n)) ds w')
  (hw : Region.wanted ⟨d, .makeSlice tt x y, ty, ps, af, gd⟩ (aC ops N r) = true := by rfl) : bE P ro N ops (⟨d, .makeSlice tt x y, ty, ps, af, gd⟩ :: rest) Q r ds w := by
 obtain ⟨hu, inf, hi, hsz, hby⟩ := gG hE
 obtain ⟨zv, hzv, hzc⟩ := fS hz
 obtain ⟨inf', hi', hzero⟩ := iv hzv
 rw [hi] at hi'; cases hi'
 have hrun := run_make (P := P) w tt e inf zv hu hi hzero kl kc m m h0 (Int.le_refl _) (by rw [hby]; exact hb) h63
 rw [hzc, hsz, ← hzl] at hrun
 have hrow : madeCells zs.toArray (m.toNat * zs.length) = ((List.replicate m.toNat zs).flatten).toArray := by rw [← nY, Array.toArray_toList]
 rw [hrow] at hrun
 refine ck hw (by simp) (v := .slice (some ⟨w.heap.size, 0, none⟩) m.toNat m.toNat) (w' := w.alloc (.cells ((List.replicate m.toNat zs).flatten).toArray e)) ?_ (k _ _ _ (by simp) ?_)
 ·simp [execOp, hx, hy, hrun]
 ·exact Hp.rowLit (I.alloc_bx _ e) (Flat.replicate hK _) (by simp)
theorem pV {u : TypeId} (I : Hp G L w) (i : Nat) (hu : dj P u = some 1) (hk : L[i]? = some (bO Gx kd A0 pre t post lim T)) (hM : Mw A0 A pre.length n c lim kd.sz) (hn : t.length = n) : ∃ news, Src P u (.slice A n c) n kd.sz news w ∧ Flat kd Gx t news := by
 have hle := hM.le
 by_cases h0 : n = 0
 ·subst h0
  have : t = [] := List.eq_nil_of_length_eq_zero hn
  subst this
  exact ⟨[], .inl ⟨hu, .inl ⟨rfl, rfl, A, c, rfl⟩⟩, rfl⟩
 ·rcases hM.ok with h | ⟨g, o, rfl, rfl⟩
  ·omega
  ·obtain ⟨ob, hb, _, cs, rfl, hsz, hlim, fl, hF, hfl⟩ := I.at i hk rfl
   obtain ⟨f1, f2, rfl, h1, h2⟩ := Flat.split hF
   obtain ⟨f3, f4, rfl, h3, h4⟩ := Flat.split h2
   have l1 := h1.len
   have l3 := h3.len
   refine ⟨f3, .inl ⟨hu, .inr ⟨⟨g, o + pre.length * kd.sz, none⟩, c, rfl, by rw [l3, hn], fun j v hv => ?_⟩⟩, h3⟩
   have hj := (List.getElem?_eq_some_iff.1 hv).1
   rw [add_plain]
   refine cell_of_block hb ?_
   have := hfl (f1.length + j) v (by rw [List.getElem?_append_right (by omega), show f1.length + j - f1.length = j by omega, List.getElem?_append_left hj]; exact hv)
   simp only [List.getElem?_toArray]
   rwa [show o + (f1.length + j) = o + pre.length * kd.sz + j by omega] at this
theorem ov {Gy : Gh} (I : Hp G L w) (i : Nat) {tt u e by_ m : Nat} {ys : List α} {news zs : List Value} {src : Value} (hE : gE P tt = some (e, kd.sz, by_)) (hz : eo P e = some zs) (hzl : zs.length = kd.sz) (hx : ev N r x = .slice A n c) (hy : ev N r y = src)
  (hk : L[i]? = some (bO Gx kd A [] t [] c e)) (hM : Mw A A ([] : List α).length n c c kd.sz) (hn : t.length = n) (hS : Src P u src m kd.sz news w) (hF : Flat kd Gy ys news) (hm : m = ys.length) (hG : Gx ≤ Gy)
  (hb : (t.length + ys.length) * by_ ≤ 140737488355328) (hb0 : t.length + ys.length ≤ 9223372036854775807)
  (k : ∀ A' n' c' w', (t ++ ys).length = n' → Mw A' A' ([] : List α).length n' c' c' kd.sz → Hp G (L.set i (bO Gy kd A' [] (t ++ ys) [] c' e)) w' → bE P ro N ops rest Q (r.putO d (.slice A' n' c')) ds w')
  (hw : Region.wanted ⟨d, .call { callee := .builtin .append, args := #[x, y], argTypes := #[tt, u] }, ty, ps, af, gd⟩ (aC ops N r) = true := by rfl) :
  bE P ro N ops (⟨d, .call { callee := .builtin .append, args := #[x, y], argTypes := #[tt, u] }, ty, ps, af, gd⟩ :: rest) Q r ds w := by
 obtain ⟨hu, inf, hi, hsz, hby⟩ := gG hE
 obtain ⟨z, hz, hzc⟩ := fS hz
 obtain ⟨inf', hi', hzv⟩ := iv hz
 rw [hi] at hi'; cases hi'
 have hud := lD hS
 have hlen := hS.lenOf w
 have hcells := hS.cells
 have hone : ∀ v ∈ news, LG.one v = true := fun v hv => List.all_eq_true.1 hF.one v hv
 have hnl := hS.len
 have hil : i < L.length := (List.getElem?_eq_some_iff.1 hk).1
 have hle := hM.le
 subst hm; subst hn
 rw [← hsz] at hcells
 have goal : ∃ A' c' w', (Builtin.append_ #[tt, u] ty #[.slice A t.length c, src]).run P w = .ok (.slice A' (t ++ ys).length c') w' ∧ Mw A' A' ([] : List α).length (t ++ ys).length c' c' kd.sz ∧ Hp G (L.set i (bO Gy kd A' [] (t ++ ys) [] c' e)) w' := by
  by_cases hroom : t.length + ys.length ≤ c
  ·cases A with
   | none =>
    have hc : c = 0 := by
     rcases hM.ok with h | ⟨g, o, h, _⟩
     ·exact h
     ·cases h
    have ht : t = [] := List.eq_nil_of_length_eq_zero (by omega)
    have hy' : ys = [] := List.eq_nil_of_length_eq_zero (by omega)
    subst hc; subst ht; subst hy'
    have hnn : news = [] := hF
    subst hnn
    refine ⟨none, 0, w, f8 hu hi hud hlen hcells (Nat.le_refl 0) rfl, ⟨.inl rfl, Nat.le_refl _⟩, ?_⟩
    have : L.set i (bO Gy kd none [] ([] ++ [] : List α) [] 0 e) = L := by
     obtain ⟨hlt, he⟩ := List.getElem?_eq_some_iff.1 hk
     have : bO Gy kd none [] ([] ++ [] : List α) [] 0 e = L[i] := by rw [he]; rfl
     rw [this]; exact List.set_getElem_self hlt
    rw [this]; exact I
   | some a =>
    obtain ⟨ob, hb', hsp, cs, rfl, hszc, hlim, fl, hFl, hfl⟩ := I.at i hk rfl
    obtain ⟨g, o, s⟩ := a
    simp only at hsp hb' hszc hfl
    subst hsp
    simp only [List.nil_append, List.append_nil] at hFl hlim
    have hfll := hFl.len
    have hmul : t.length * kd.sz + ys.length * kd.sz ≤ c * kd.sz := by rw [← Nat.add_mul]; exact Nat.mul_le_mul_right _ hroom
    have I1 : Hp G (L.set i (n1 g o cs e)) w := I.retell i hk (it' := n1 g o cs e) rfl rfl (Nat.le_refl _) (fun o' ho' hp => by rw [hb'] at ho'; cases ho'; rfl)
    obtain ⟨w', hr, I2⟩ := jd (P := P) g o news cs (o + t.length * kd.sz) 0 w _ I1 i (List.getElem?_set_self hil) hone (by omega) (by omega)
    rw [List.set_set, Nat.add_zero] at I2
    have I3 := I2.retell i (List.getElem?_set_self hil) (it' := bO Gy kd (some ⟨g, o, none⟩) [] (t ++ ys) [] c e) rfl rfl (Nat.le_refl _) (fun o' ho' hp => by
     cases hp
     refine ⟨rfl, _, rfl, by rw [f0]; exact hszc, by simpa using hroom, fl ++ news, by simpa using (hFl.mono hG).append hF, fun j v hv => ?_⟩
     show (cF cs (o + t.length * kd.sz) news)[o + j]? = some v
     rw [eP _ _ _ _ (by omega)]
     rw [List.getElem?_append] at hv
     split at hv
     ·rw [if_neg (by omega)]; exact hfl j v hv
     ·have := (List.getElem?_eq_some_iff.1 hv).1
      rw [if_pos (by omega), show o + j - (o + t.length * kd.sz) = j - fl.length by omega]; exact hv)
    rw [List.set_set] at I3
    refine ⟨some ⟨g, o, none⟩, c, w', ?_, ⟨.inr ⟨g, o, rfl, by simp⟩, by rw [List.length_append]; exact hroom⟩, I3⟩
    have hr' : (storeCells ((⟨g, o, none⟩ : Addr).add (t.length * inf.size)) news).run P w = .ok () w' := by rw [add_plain, hsz]; exact hr
    rw [List.length_append]
    exact f8 hu hi hud hlen hcells hroom hr'
  ·have ht1 : dj P tt = some 1 := by unfold dj; rw [hu]
   obtain ⟨olds, hSo, hFo⟩ := pV (P := P) (u := tt) I i ht1 hk hM rfl
   have hfirst := hSo.drew.cells
   have hcap := growslice_fits (need := t.length + ys.length) (old := c) (bytes := by_) (by omega) hb
   have hcellsd := hS.drew.cells
   rw [← hsz] at hcellsd hfirst
   have hrun := i9 (ty := ty) hu hi hzv hud hlen hcellsd hfirst hroom hb0 (by rw [hby]; exact hcap)
   have hge := grownCap_ge w (t.length + ys.length) c e
   generalize grownCap w (t.length + ys.length) c e = nc at hrun hge
   generalize hcs : olds ++ news ++ (Builtin.zeroCells z.cells (nc - (t.length + ys.length))).toList = cells at hrun
   have hfl2 : Flat kd Gy (t ++ ys) (olds ++ news) := (hFo.mono hG).append hF
   have hcl : cells.length = nc * kd.sz := by
    have h0 : (Builtin.zeroCells z.cells (nc - (t.length + ys.length))).toList.length = (nc - (t.length + ys.length)) * kd.sz := by
     show (Builtin.zeroCells z.cells (nc - (t.length + ys.length))).size = _
     rw [size_zeroCells, hzc, List.size_toArray, hzl]
    rw [← hcs, List.length_append, hfl2.len, h0, List.length_append, ← Nat.add_mul]
    congr 1
    omega
   have I1 : Hp G (bO Gy kd (some ⟨w.heap.size, 0, none⟩) [] (t ++ ys) [] nc e :: L) (w.drew.alloc (.cells cells.toArray e)) := I.drew.alloc _ 0 _ ⟨rfl, cells, rfl, by simp [hcl], by simp; omega, olds ++ news, by simpa using hfl2, fun j v hv => by
    have hj := (List.getElem?_eq_some_iff.1 hv).1
    rw [← hcs, show (0 : Nat) + j = j by omega, List.getElem?_append_left hj]; exact hv⟩
   refine ⟨some ⟨w.heap.size, 0, none⟩, nc, _, by rw [List.length_append]; exact hrun, ⟨.inr ⟨w.heap.size, 0, rfl, by simp⟩, by rw [List.length_append]; exact hge⟩, I1.replace i hk⟩
 obtain ⟨A', c', w', hr, h1, h2⟩ := goal
 refine ck hw (by simp) ?_ (k A' _ c' w' rfl h1 h2)
 simp [execOp, resolve, invoke, builtin, hx, hy, hr, Sem.run_bind, andThen_ok, run_pure']
theorem gC {t' : Nat} {β : Type} {u : List β} (hE : dj P t' = some 1) (hx : ev N r x = .slice A n c) (hn : u.length = n)
  (k : bE P ro N ops rest Q (r.putO d (.int .i64 (u.length : Int))) ds w) (hw : Region.wanted ⟨d, .call { callee := .builtin .len, args := #[x], argTypes := #[t'] }, ty, ps, af, gd⟩ (aC ops N r) = true := by rfl) :
  bE P ro N ops (⟨d, .call { callee := .builtin .len, args := #[x], argTypes := #[t'] }, ty, ps, af, gd⟩ :: rest) Q r ds w := by
 subst hn
 exact q_len hE hx k hw
theorem Dat.none {β : Type} {k : Kd β} {G' : Gh} {xs : List β} (h : Dat k G' none xs) : xs = [] := by
 cases xs with
 | nil => rfl
 | cons x xs =>
  obtain ⟨a, ha, _⟩ := h (by simp)
  cases ha
theorem Mw.nil {np sz : Nat} (hM : Mw A0 none np n c lim sz) (hn : t.length = n) : t = [] := by
 have := hM.le
 rcases hM.ok with h | ⟨g, o, _, h⟩
 ·exact List.eq_nil_of_length_eq_zero (by omega)
 ·cases h
end
end Go.LG
