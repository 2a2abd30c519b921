/-
 LG, part T: arrays of numbers in a box; the bytes of a string as a slice.
-/
import Derived.Test.YtaemgcpcfnbmdaaGreatDoorLgS
import Derived.Laws.IdiomStrings
set_option linter.unusedVariables false
set_option linter.unusedSimpArgs false
namespace Go.LG
open Go.RowKit
def zx (P : Program) (t : TypeId) : Option (Nat × TypeId × Nat) :=
 match P.underlying t with
 | some (.array n e) => (P.info? e).map fun i => (n, e, i.size)
 | _ => none
theorem uE {P : Program} {t e : TypeId} {n s : Nat} (h : zx P t = some (n, e, s)) : P.underlying t = some (.array n e) ∧ ∃ i, P.info? e = some i ∧ i.size = s := by
 unfold zx at h
 split at h
 ·rename_i n' e' hu
  simp only [Option.map_eq_some_iff] at h
  obtain ⟨i, hi, he⟩ := h
  simp only [Prod.mk.injEq] at he
  obtain ⟨rfl, rfl, h2⟩ := he
  exact ⟨hu, i, hi, h2⟩
 ·cases h
section
variable {P : Program} {ro : Option Nat} {N : Nat} {ops : Array Oper} {rest : List Oper} {Q : ji} {r : Rg} {ds : List Deferred} {w : World}
variable {d : Option Nat} {ty : TypeId} {ps : String} {af : Array Edge} {gd : Option (Nat × Bool)} {x y : Operand} {G Gx : Gh} {L : List eP}
theorem C2 {t e sz n : Nat} {ad : Addr} {kk : IntKind} {i : Int} (hE : zx P t = some (n, e, sz)) (hx : ev N r x = .pointer (some ad)) (hy : ev N r y = .int kk i) (h0 : 0 ≤ i) (h1 : i < (n : Int)) {a' : Addr} (ha : ad.add (i.toNat * sz) = a')
  (k : ca P ro N ops rest Q (r.putO d (.pointer (some a'))) ds w) (hw : Region.wanted ⟨d, .indexAddr t x y, ty, ps, af, gd⟩ (aH ops N r) = true := by rfl) :
  ca P ro N ops (⟨d, .indexAddr t x y, ty, ps, af, gd⟩ :: rest) Q r ds w := by
 obtain ⟨hu, inf, hi, hs⟩ := uE hE
 subst hs; subst ha
 refine cW hw (by simp) ?_ k
 simp [aC, run_pure', aQ, aw, andThen_ok, Sem.run_bind, execOp, hx, hy, Instr.indexAt, Instr.sureAddr, asIntOf, run_underlying hu, run_sizeOf hi, h0, h1]
theorem BS {α β : Type} (f : α → β) (xs : List α) (z : α) {o : Nat} (h : o < xs.length) : (List.map f xs)[o]? = some (f (xs.getD o z)) := by
 rw [List.getElem?_map, List.getD_eq_getElem?_getD, List.getElem?_eq_getElem h]; rfl
theorem Er {α : Type} (f : α → Value) {xs : List α} (I : Hp G L w) (i : Nat) {T : TypeId} {n g o m : Nat} {U : TypeId} (z : α) (hT : fK P T = some (false, n)) (hx : ev N r x = .pointer (some ⟨g, o, none⟩)) (hk : L[i]? = some (bx g (List.map f xs) U)) (hn : xs.length = m) (ho : o < m)
  (k : ca P ro N ops rest Q (r.putO d (f (xs.getD o z))) ds w) (hw : Region.wanted ⟨d, .load T x, ty, ps, af, gd⟩ (aH ops N r) = true := by rfl) : ca P ro N ops (⟨d, .load T x, ty, ps, af, gd⟩ :: rest) Q r ds w :=
 DS I i hT hx hk (BS f xs z (by omega)) k hw
theorem D2 {S T e s2 b2 : Nat} {s : ByteArray} (I : Hp G L w) (hS : gX P S = some 0) (hT : k9 P T = some (e, s2, b2)) (he : qK P e = some .u8) (hx : ev N r x = .string s)
  (k : ∀ A c G' w', G ≤ G' → (gb s).length ≤ c → Dat (Kd.int .u8) G' A (gb s) → Hp G' L w' → ca P ro N ops rest Q (r.putO d (.slice A (gb s).length c)) ds w')
  (hw : Region.wanted ⟨d, .convert S T x, ty, ps, af, gd⟩ (aH ops N r) = true := by rfl) : ca P ro N ops (⟨d, .convert S T x, ty, ps, af, gd⟩ :: rest) Q r ds w := by
 obtain ⟨hu, inf, hi, hsz, hby⟩ := kL hT
 have hrun := run_bytes_of_string (P := P) w S T e s (jt hS) hu (l5 he)
 have hge := grownCap_ge w s.size 0 e
 have hl : (gb s).length = s.size := by unfold gb; simp
 generalize grownCap w s.size 0 e = nc at hrun hge
 generalize hC : bytesRow s nc = C at hrun
 have hCj : ∀ (j : Nat) (v : Value), ((gb s).map (Value.int .u8))[j]? = some v → C[j]? = some v := by
  intro j v hv
  have hj : j < s.data.size := by
   have := (List.getElem?_eq_some_iff.1 hv).1
   simp [hl] at this
   exact this
  rw [← hC]
  unfold bytesRow
  rw [Array.getElem?_append_left (by simpa using hj), Array.getElem?_map, Array.getElem?_eq_getElem hj]
  unfold gb at hv
  rw [List.map_map, List.getElem?_map, Array.getElem?_toList, Array.getElem?_eq_getElem hj] at hv
  exact hv
 have I1 := I.drew.alloc (.cells C e (C.size, C.size + 1)) s.size (fun _ => True) trivial
 have hb := sx w.drew (.cells C e (C.size, C.size + 1))
 obtain ⟨I2, hG2⟩ := I1.add w.heap.size (fun j => ((gb s).map (Value.int .u8))[j]?) (fun j v hv => cell_of_block hb (hCj j v hv)) (fun it hit hg j hj => by
  rcases List.mem_cons.1 hit with rfl | hit
  ·simp only at hj
   exact List.getElem?_eq_none (by simp [hl]; exact hj)
  ·exact absurd hg ((List.pairwise_cons.1 I1.sepL).1 it hit w.heap.size rfl))
 have hF : ∀ xs : List Int, Flat (Kd.int .u8) (Gh.add G w.heap.size (fun j => ((gb s).map (Value.int .u8))[j]?)) xs (xs.map (Value.int .u8)) := by
  intro xs
  induction xs with
  | nil => rfl
  | cons x xs ih => exact ⟨[Value.int .u8 x], xs.map (Value.int .u8), rfl, rfl, ih⟩
 have hD : Dat (Kd.int .u8) (Gh.add G w.heap.size (fun j => ((gb s).map (Value.int .u8))[j]?)) (some ⟨w.heap.size, 0, none⟩) (gb s) :=
  Dat.of_cells (hF _) fun j v hv => by
   rw [add_plain, Nat.zero_add]
   exact Gh.add_cel hv
 refine cW hw (by simp) (v := .slice (some ⟨w.heap.size, 0, none⟩) (gb s).length nc) ?_ (k _ nc _ _ hG2 (by rw [hl]; exact hge) hD I2.drop)
 simp [aC, run_pure', aQ, aw, andThen_ok, Sem.run_bind, execOp, hx, hrun, hl]
theorem tx {T e sz m : Nat} {parts : Array (Nat × Operand)} {zs cs : List Value} {vs : List (Nat × Value)} (hz : gG P T = some zs) (hp : zx P T = some (m, e, sz))
  (hv : parts.toList.map (fun p => (p.1, ev N r p.2)) = vs) (hf : tu (fun i => some (i * sz, sz)) zs vs = some cs)
  (k : ca P ro N ops rest Q (r.putO d (.agg cs.toArray)) ds w) (hw : Region.wanted ⟨d, .build T parts, ty, ps, af, gd⟩ (aH ops N r) = true := by rfl) :
  ca P ro N ops (⟨d, .build T parts, ty, ps, af, gd⟩ :: rest) Q r ds w := by
 obtain ⟨hu, i, hi, hs⟩ := uE hp
 obtain ⟨z, hz, hc⟩ := mb hz
 have hvs : (parts.map fun p => (p.1, ev N r p.2)).toList = vs := by rw [Array.toList_map]; exact hv
 have hfl := tg _ vs _ cs hf
 refine cW hw (by simp) ?_ k
 simp only [execOp, Instr.build, Sem.run_bind, kA hz, andThen_ok, run_underlying hu, run_sizeOf hi, hs, hc, hvs, hfl]
 rfl
theorem DZ {S e : TypeId} {sz b n c m : Nat} {A : Option Addr} {lo hi : Option Operand} {l h : Int} (hS : k9 P S = some (e, sz, b)) (hx : ev N r x = .slice A n c)
  (hl : (lo = none ∧ l = 0) ∨ ∃ o, lo = some o ∧ ev N r o = .int .i64 l) (hh : (hi = none ∧ h = n) ∨ ∃ o, hi = some o ∧ ev N r o = .int .i64 h)
  (hc : n ≤ c) (h0 : 0 ≤ l) (h1 : l ≤ h) (h2 : h ≤ (n : Int)) (hm : Int.toNat h - Int.toNat l = m)
  (kk : ca P ro N ops rest Q (r.putO d (.slice (if c = Int.toNat l then A else Option.map (fun a => Addr.add a (Int.toNat l * sz)) A) m (c - Int.toNat l))) ds w)
  (hw : Region.wanted ⟨d, .slice S x lo hi none, ty, ps, af, gd⟩ (aH ops N r) = true := by rfl) : ca P ro N ops (⟨d, .slice S x lo hi none, ty, ps, af, gd⟩ :: rest) Q r ds w := by
 subst hm; exact Cs hS hx hl hh hc h0 h1 h2 kk hw
end
end Go.LG
