/-
 LG, part Z: a strings.Builder (its box and its bytes); an error that is only held against nil; what grows behind the heap.
-/
import Derived.Test.YtoladeanenmepaaGreatDoorLgU
import Derived.Shelf.Strings.Builder1
import Derived.Lib.AppendIntMem
import Derived.WideLaws
set_option linter.unusedVariables false
set_option linter.unusedSimpArgs false
set_option maxRecDepth 100000
namespace Go.LG
open Go.RowKit Go.Shelf Go.Proofs

abbrev slfV (g : Nat) (b : Bool) : Value := match b with | true => .pointer (some ⟨g, 0, none⟩) | false => .pointer none
def ErrIs (x : Value) (b : Bool) : Prop := (b = false ∧ x = .nilIface) ∨ (b = true ∧ ∃ t v, x = .iface t v)
section
variable {P : Program} {ro : Option Nat} {N : Nat} {ops : Array Oper} {rest : List Oper} {Q : Post} {r : Rg} {ds : List Deferred} {w : World}
variable {d : Option Nat} {ty : TypeId} {ps : String} {af : Array Edge} {gd : Option (Nat × Bool)} {x y : Operand} {G Gx : Gh} {L : List Itm}
theorem src_str {u : TypeId} {s : ByteArray} (hu : sortB P u = some 0) : Src P u (.string s) s.size 1 ((sbytes s).map (Value.int .u8)) w :=
 .inr ⟨hu, rfl, s, rfl, rfl, by simp [sbytes, List.map_map, Function.comp_def]⟩
theorem flat_int (k : IntKind) (xs : List Int) : Flat (Kd.int k) G xs (xs.map (Value.int k)) := by
 induction xs with
 | nil => rfl
 | cons x xs ih => exact ⟨[Value.int k x], xs.map (Value.int k), rfl, rfl, ih⟩
theorem sbytes_len (s : ByteArray) : s.size = (sbytes s).length := by unfold sbytes; simp
theorem q_err_neq {T' U : TypeId} {v : Value} {b : Bool} (hT : P.underlying T' = some (.interface (P.methodsAt T'))) (hb : ErrIs v b) (hx : ev N r x = v) (k : wpq P ro N ops rest Q (r.putO d (.bool b)) ds w)
  (hw : Region.wanted ⟨d, .binOp .neq T' x (.const .nilIface) U, ty, ps, af, gd⟩ (yieldR ops N r) = true := by rfl) : wpq P ro N ops (⟨d, .binOp .neq T' x (.const .nilIface) U, ty, ps, af, gd⟩ :: rest) Q r ds w := by
 refine wpq_v (v := .bool b) (w' := w) hw (by simp) ?_ k
 have hy : ev N r (.const .nilIface) = .nilIface := rfl
 rcases hb with ⟨rfl, rfl⟩ | ⟨rfl, t, v, rfl⟩
 ·simp [execOp, hx, hy, eqGuard_nil_constR, run_neq_nil_nil w T' hT, Sem.run_bind, andThen_ok, run_pure']
 ·simp [execOp, hx, hy, eqGuard, run_neq_held_nil w T' t v hT, Sem.run_bind, andThen_ok, run_pure']
theorem q_mvE {v : Value} (hx : ev N r x = v) (k : wpq P ro N ops rest Q (r.putO d v) ds w) (hw : Region.wanted ⟨d, .move x, ty, ps, af, gd⟩ (yieldR ops N r) = true := by rfl) :
  wpq P ro N ops (⟨d, .move x, ty, ps, af, gd⟩ :: rest) Q r ds w := q_mv hx k hw
theorem q_asE {v : Value} (hx : ev N r x = v) (k : wpq P ro N ops rest Q (r.putO d v) ds w) (hw : Region.wanted ⟨d, .assign x, ty, ps, af, gd⟩ (yieldR ops N r) = true := by rfl) :
  wpq P ro N ops (⟨d, .assign x, ty, ps, af, gd⟩ :: rest) Q r ds w := q_as hx k hw
theorem q_exE {i : Nat} {vs : List Value} {v : Value} (hx : ev N r x = .tuple vs.toArray) (hv : vs[i]? = some v)
  (k : wpq P ro N ops rest Q (r.putO d v) ds w) (hw : Region.wanted ⟨d, .extract x i, ty, ps, af, gd⟩ (yieldR ops N r) = true := by rfl) :
  wpq P ro N ops (⟨d, .extract x i, ty, ps, af, gd⟩ :: rest) Q r ds w := q_ex hx hv k hw
theorem Hp.grow (I : Hp G L w) (k : Nat) (os : Array Obj) : Hp G L (Go.Sort.grow (w.drewN k) os) := I.below (Go.Lib.below_grow _ w (Nat.le_refl _) k os)

theorem cell_freeze (w : World) (p : Addr) (n : Nat) (a : Addr) : (w.freeze p n).cell? a = w.cell? a := by
 unfold World.freeze
 split
 ·rfl
 ·unfold World.cell?
  simp only [Array.getElem?_modify]
  by_cases h : p.block = a.block
  ·simp only [if_pos h]
   cases w.heap[a.block]? with
   | none => rfl
   | some o => cases o <;> rfl
  ·simp only [if_neg h]
theorem heap_freeze_ne (w : World) (p : Addr) (n : Nat) {j : Nat} (h : j ≠ p.block) : (w.freeze p n).heap[j]? = w.heap[j]? := by
 unfold World.freeze
 split
 ·rfl
 ·simp only [Array.getElem?_modify]
  rw [if_neg (fun e => h e.symm)]
theorem os_freeze (w : World) (p : Addr) (n : Nat) : (w.freeze p n).os = w.os ∧ (w.freeze p n).tape = w.tape ∧ (w.freeze p n).output = w.output := by
 unfold World.freeze
 split <;> exact ⟨rfl, rfl, rfl⟩
theorem heap_freeze_same (w : World) (p : Addr) (n : Nat) {o : Obj} (h : w.heap[p.block]? = some o) : ∃ o', (w.freeze p n).heap[p.block]? = some o' := by
 unfold World.freeze
 split
 ·exact ⟨o, h⟩
 ·simp only [Array.getElem?_modify, if_pos rfl, h]
  exact ⟨_, rfl⟩
theorem Hp.frozen {it : Itm} {g : Nat} (h : Hp G (it :: L) w) (hg : it.blk = some g) (o n : Nat) : Hp G L (w.freeze ⟨g, o, none⟩ n) := by
 obtain ⟨ob, hb, _⟩ := h.own it (List.mem_cons_self ..) g hg
 obtain ⟨o', ho'⟩ := heap_freeze_same w ⟨g, o, none⟩ n hb
 have k := h.write 0 (it := it) (it' := ⟨some g, it.lo, fun _ => True⟩) rfl hg rfl (Nat.le_refl _) (w' := w.freeze ⟨g, o, none⟩ n) (os_freeze _ _ _).1 (os_freeze _ _ _).2.1 (os_freeze _ _ _).2.2
  (fun j hj => heap_freeze_ne w _ n hj) (fun a _ _ => cell_freeze w _ n a) ho' trivial
 exact k.drop

theorem load_bytes : ∀ (l : List Int) (a : Addr) (acc : ByteArray), (∀ j x, l[j]? = some x → w.cell? (a.add j) = some (.int .u8 x)) →
  (loadBytes a acc l.length).run P w = .ok ⟨acc.data ++ (l.map fun n => UInt8.ofNat n.toNat).toArray⟩ w
 | [], a, acc, _ => by simp [loadBytes]
 | x :: l, a, acc, h => by
  have h0 : w.cell? a = some (.int .u8 x) := by
   have := h 0 x rfl
   simpa [Addr.add] using this
  have ih := load_bytes l (a.add 1) (acc.push (x.toNat.toUInt8)) (fun j y hy => by
   have := h (j + 1) y (by simpa using hy)
   have e : (a.add 1).add j = a.add (j + 1) := by
    unfold Addr.add
    by_cases hj : j = 0
    ·subst hj; simp
    ·simp [hj]; omega
   rw [e]; exact this)
  simp only [List.length_cons, loadBytes, Sem.run_bind, run_load h0, Result.andThen]
  rw [ih]
  congr 1
  apply ByteArray.ext
  simp [ByteArray.push, Nat.toUInt8]
theorem lies_bytes {e : TypeId} (hc : P.cellsOf e = 1) (count o n : Nat) (hn : o + n ≤ count) : liesAt P P.depth e count o e n = true := by
 have hd : P.depth = (2 * (P.types.size + Made.depth) + 1) + 1 := rfl
 rw [hd]
 simp only [liesAt, Bool.or_eq_true]
 left
 rw [hd]
 simp [rowAt, hc, hn, sameLayout, Nat.mod_one]
theorem run_ustr (pt it ty e : TypeId) (hp : P.underlying pt = some (.pointer e)) (hc : P.cellsOf e = 1) (g o cells : Nat) (hsh : w.shape? g = some (e, cells)) (l : List Int) (h0 : l ≠ []) (hn : o + l.length ≤ cells) (h63 : l.length ≤ 9223372036854775807)
  (hcell : ∀ j x, l[j]? = some x → w.cell? ((⟨g, o, none⟩ : Addr).add j) = some (.int .u8 x)) :
  (Builtin.unsafeString_ #[pt, it] ty #[.pointer (some ⟨g, o, none⟩), .int .i64 l.length]).run P w = .ok (.string (bstr l)) (w.freeze ⟨g, o, none⟩ l.length) := by
 have hl : l.length ≠ 0 := by simpa using h0
 have hlb := load_bytes (P := P) (w := w) l ⟨g, o, none⟩ .empty hcell
 have hlies := lies_bytes (P := P) hc (cells / P.cellsOf e) o l.length (by rw [hc]; simpa using hn)
 have h63' : ¬ (9223372036854775807 : Int) < (l.length : Int) := by omega
 have hdef : Builtin.unsafeString_ #[pt, it] ty #[.pointer (some ⟨g, o, none⟩), .int .i64 l.length] =
   (do
    let n ← asInt (.int .i64 l.length)
    if n < 0 then runtimePanic (.error "unsafe.String: len out of range")
    if n > IntKind.i64.max then unsupported (.unsafePointer "String: a length above the largest int")
    if n = 0 then pure (.string .empty)
    else if ← variablesAt ⟨g, o, none⟩ (← elemOf pt) n.toNat then do
     let s ← loadBytes ⟨g, o, none⟩ .empty n.toNat
     freeze ⟨g, o, none⟩ n.toNat
     pure (.string s)
    else unsupported (.unsafePointer "String: not so many bytes at ptr")) := rfl
 rw [hdef]
 have hmax : IntKind.i64.max = 9223372036854775807 := rfl
 have hneg : ¬ (l.length : Int) < 0 := by omega
 simp [asInt, asIntOf, hmax, h63', hneg, hl, variablesAt, hsh, elemOf, run_underlying hp, hlies, hlb]
 rfl

variable {ρ : Ren}
theorem bld_check (Ly : Lays.n240 P ρ) (X : Builder.X72 P ρ) {g : Nat} {u : Bool} {v : Value} (I : Hp G (bx g [slfV g u, v] (ρ.t 72) :: L) w) :
  Calls P (ρ.f 240) [Value.pointer (some ⟨g, 0, none⟩)].toArray w fun e w' => Hp G (bx g [slfV g true, v] (ρ.t 72) :: L) w' ∧ e = .returned (.tuple [].toArray) := by
 have hb := I.bx 0 rfl
 cases u with
 | true =>
  refine (Any.Builder_copyCheck_used Ly X g w (I.bx_cell 0 rfl rfl)).mono ?_
  rintro e w' ⟨rfl, rfl⟩
  exact ⟨I, rfl⟩
 | false =>
  refine (Any.Builder_copyCheck_fresh Ly X g w (I.bx_cell 0 rfl rfl) (by simp [World.shape?, hb]) (I.bx_frozen 0 rfl 0)).mono ?_
  rintro e w' ⟨rfl, rfl⟩
  exact ⟨I.store 0 rfl 0 _, rfl⟩
set_option maxHeartbeats 2000000 in
theorem bld_str (L : Lays.n169 P ρ) (X : Builder.Extra P ρ) (b : Nat) (p : Value) (A q : Option Addr) (n c : Nat) (s : ByteArray) (w w1 w2 : World) (c1 : w.drew.cell? ⟨b, 1, none⟩ = some (.slice A n c)) (c2 : w1.cell? ⟨b, 1, none⟩ = some (.slice A n c))
  (hSD : (Builtin.unsafeSliceData_ #[(ρ.t 37)] (ρ.t 127) #[.slice A n c]).run P w.drew = .ok (.pointer q) w1)
  (hUS : (Builtin.unsafeString_ #[(ρ.t 127), (ρ.t 3)] (ρ.t 9) #[.pointer q, .int .i64 n]).run P w1 = .ok (.string s) w2) :
  Calls P (ρ.f 169) #[.pointer (some ⟨b, 0, none⟩)] w fun e w' => e = .returned (.string s) ∧ w' = w2 := by
 have mixed := L.mixed
 have t72 := L.t72; have a72 := L.a72; have z72 := L.z72; have v72 := L.v72; have u72 := Go.run_underlying L.t72
 have t70 := L.t70; have a70 := L.a70; have z70 := L.z70; have v70 := L.v70; have u70 := Go.run_underlying L.t70
 have t37 := L.t37; have a37 := L.a37; have z37 := L.z37; have v37 := L.v37; have u37 := Go.run_underlying L.t37
 have t127 := L.t127; have a127 := L.a127; have z127 := L.z127; have v127 := L.v127; have u127 := Go.run_underlying L.t127
 have t3 := L.t3; have a3 := L.a3; have z3 := L.z3; have v3 := L.v3; have u3 := Go.run_underlying L.t3
 have t9 := L.t9; have a9 := L.a9; have z9 := L.z9; have v9 := L.v9; have u9 := Go.run_underlying L.t9
 go_enter L.f169, Body.n169_ntmps ρ
 go_wp2
 go_region_o
 all_goals (go_wp2; go_ret; exact ⟨rfl, rfl⟩)
theorem bld_String (Ly : Lays.n169 P ρ) (X : Builder.Extra P ρ) {g : Nat} {p : Value} {A : Option Addr} {c : Nat} {bs : List Int} (I : Hp G (bx g [p, .slice A bs.length c] (ρ.t 72) :: tk (.slice A bs.length c) 1 (ρ.t 5) :: L) w)
  (hl : bs.length ≤ c) (hD : Dat (Kd.int .u8) G A bs) (ho : Own A c) (h63 : bs.length ≤ 9223372036854775807) :
  Calls P (ρ.f 169) [Value.pointer (some ⟨g, 0, none⟩)].toArray w fun e w' => Hp G (bx g [p, .slice A bs.length c] (ρ.t 72) :: L) w' ∧ e = .returned (.string (bstr bs)) := by
 have c1 : w.drew.cell? ⟨g, 1, none⟩ = some (.slice A bs.length c) := I.drew.bx_cell 0 rfl rfl
 have Id : Hp G (bx g [p, .slice A bs.length c] (ρ.t 72) :: L) w.drew := I.drew.sub ((List.sublist_cons_self _ _).cons_cons _)
 rcases ho with ⟨rfl, rfl⟩ | ⟨gr, o, rfl⟩
 ·have hb : bs = [] := List.eq_nil_of_length_eq_zero (by omega)
  subst hb
  refine (bld_str Ly X g p none none 0 0 (bstr []) w w.drew w.drew c1 c1 rfl (Lib.run_unsafeString_none _ _ _ _ none)).mono ?_
  rintro e w' ⟨rfl, rfl⟩
  exact ⟨Id, rfl⟩
 ·obtain ⟨ob, hob, C, rfl, hC⟩ := I.drew.own _ (List.mem_cons_of_mem _ (List.mem_cons_self ..)) gr rfl
  have hsh : w.drew.shape? gr = some ((ρ.t 5), C.size) := by simp [World.shape?, hob]
  by_cases hc : c = 0
  ·subst hc
   have hb : bs = [] := List.eq_nil_of_length_eq_zero (by omega)
   subst hb
   have Ia : Hp G (bx g [p, .slice (some ⟨gr, o, none⟩) 0 0] (ρ.t 72) :: L) (w.drew.alloc (.view ⟨gr, o, none⟩ (ρ.t 5))) := Id.alloc_lost _
   refine (bld_str Ly X g p (some ⟨gr, o, none⟩) (some ⟨w.drew.heap.size, 0, none⟩) 0 0 (bstr []) w (w.drew.alloc (.view ⟨gr, o, none⟩ (ρ.t 5))) _ c1 (Ia.bx_cell 0 rfl rfl)
    (Lib.run_unsafeSliceData_zero w.drew _ _ (ρ.t 5) Ly.t127 ⟨gr, o, none⟩ 0 _ hsh) (Lib.run_unsafeString_none _ _ _ _ _)).mono ?_
   rintro e w' ⟨rfl, rfl⟩
   exact ⟨Ia, rfl⟩
  ·by_cases hb : bs = []
   ·subst hb
    refine (bld_str Ly X g p (some ⟨gr, o, none⟩) (some ⟨gr, o, none⟩) 0 c (bstr []) w w.drew w.drew c1 c1 (Lib.run_unsafeSliceData_row _ _ _ _ _ _ hc) (Lib.run_unsafeString_none _ _ _ _ _)).mono ?_
    rintro e w' ⟨rfl, rfl⟩
    exact ⟨Id, rfl⟩
   ·have hcell : ∀ j x, bs[j]? = some x → w.drew.cell? ((⟨gr, o, none⟩ : Addr).add j) = some (.int .u8 x) := by
     obtain ⟨a, ha, hd⟩ := hD hb
     cases ha
     intro j x hx
     obtain ⟨cs, hK, hc'⟩ := hd j x hx
     obtain rfl : cs = [.int .u8 x] := hK
     have := hc' 0 _ rfl
     have e : j * (Kd.int .u8).sz + 0 = j := by show j * 1 + 0 = j; omega
     rw [e] at this
     exact I.drew.cel _ _ this
    have hroom : o + bs.length ≤ C.size := by
     have h1 : o + c * 1 ≤ C.size := hC
     omega
    have I2 : Hp G (tk (.slice (some ⟨gr, o, none⟩) bs.length c) 1 (ρ.t 5) :: bx g [p, .slice (some ⟨gr, o, none⟩) bs.length c] (ρ.t 72) :: L) w.drew := I.drew.perm (List.Perm.swap _ _ _)
    have If : Hp G (bx g [p, .slice (some ⟨gr, o, none⟩) bs.length c] (ρ.t 72) :: L) (w.drew.freeze ⟨gr, o, none⟩ bs.length) := Hp.frozen I2 rfl o bs.length
    refine (bld_str Ly X g p (some ⟨gr, o, none⟩) (some ⟨gr, o, none⟩) bs.length c (bstr bs) w w.drew _ c1 c1 (Lib.run_unsafeSliceData_row _ _ _ _ _ _ hc)
     (run_ustr _ _ _ (ρ.t 5) Ly.t127 X.cellsByte gr o C.size hsh bs hb hroom h63 hcell)).mono ?_
    rintro e w' ⟨rfl, rfl⟩
    exact ⟨If, rfl⟩
end
end Go.LG
