/-
  What the rows of this seat have in common: what they list, and how their arguments are opened.
-/
import Derived.Test.YtoladeanenmepaaGreatDoorCards
import Derived.Test.YtoladeanenmepaaGreatDoorTie
import Derived.Test.YtoladeanenmepaaGreatDoorLgO
import Derived.Test.YtoladeanenmepaaGreatDoorTy
import Derived.Test.YtoladeanenmepaaGreatDoorLa
import Derived.Lib.LaidTab
import Derived.Lib.LaidU8
set_option linter.unusedVariables false
set_option linter.unusedSimpArgs false
set_option maxRecDepth 100000
namespace Go.Proofs.YtoladeanenmepaaGreatDoor
open Go.ChangeShapes Go.WideShapes Go.ChangeAt Go.RowKit Go.LG Go.Lib Go.Shelf
theorem own : ownKnob Tryz.prog.godebug = none := by kernel_rfl
theorem laidOut : laidOutB Tryz.prog = true := by kernel_rfl
def ok_api_Slice (x : LG.api_Slice) : Prop := (Lit.int .i64 x.Node).wf = true ∧ (Lit.int .i64 x.Table).wf = true ∧ (Lit.int .i64 x.X).wf = true ∧ (Lit.int .i64 x.Y).wf = true ∧ (Lit.int .i64 x.H).wf = true ∧ x.Text.size ≤ 140737488351232 ∧ True ∧ True
theorem op_api_Slice {H : Type} {enc : TypeId × Value → H} {W : World} : Opn enc Tryz.prog W 42 LG.k_api_Slice ok_api_Slice :=
  op_ok (op_iso (op_struct Tryz.underlying42 (by kernel_rfl) (opf_cons rfl rfl (by kernel_rfl) (op_int Tryz.underlying3) (opf_cons rfl rfl (by kernel_rfl) (op_int Tryz.underlying3) (opf_cons rfl rfl (by kernel_rfl) (op_int Tryz.underlying3) (opf_cons rfl rfl (by kernel_rfl) (op_int Tryz.underlying3) (opf_cons rfl rfl (by kernel_rfl) (op_int Tryz.underlying3) (opf_cons rfl rfl (by kernel_rfl) (op_str Tryz.underlying9) (opf_cons rfl rfl (by kernel_rfl) (op_bool Tryz.underlying4) (opf_last rfl rfl (by kernel_rfl) (op_bool Tryz.underlying4)))))))))) (fun a => ⟨a.1, a.2.1, a.2.2.1, a.2.2.2.1, a.2.2.2.2.1, a.2.2.2.2.2.1, a.2.2.2.2.2.2.1, a.2.2.2.2.2.2.2⟩) (fun _ => rfl)) (fun _ h => h)
def ok_api_Page (x : LG.api_Page) : Prop := (Lit.int .i64 x.Number).wf = true ∧ (x.Slices.length * 64 ≤ 140737488351232 ∧ ∀ y0 ∈ x.Slices, ok_api_Slice y0)
theorem op_api_Page {H : Type} {enc : TypeId × Value → H} {W : World} : Opn enc Tryz.prog W 40 LG.k_api_Page ok_api_Page :=
  op_ok (op_iso (op_struct Tryz.underlying40 (by kernel_rfl) (opf_cons rfl rfl (by kernel_rfl) (op_int Tryz.underlying3) (opf_last rfl rfl (by kernel_rfl) (op_slice (b := 64) Tryz.underlying38 (by kernel_rfl) (by kernel_rfl) op_api_Slice)))) (fun a => ⟨a.1, a.2⟩) (fun _ => rfl)) (fun _ h => h)
theorem big {n : Nat} (h : n ≤ 140737488351232) : n ≤ 9223372036854775807 := by omega
theorem big2 {n : Nat} (h : n ≤ 140737488351232) : n ≤ 4611686018427387000 := by omega
theorem first_is : (Go.Pinned.utf8First : DataW Unit) = Lib.firstData := by kernel_rfl
theorem accept_is : (Rows.laid_unicode_utf8_acceptRanges : DataW Unit) = Lib.acceptData := by kernel_rfl
abbrev theLaid : List (String × DataW Unit) := [("math/bits.deBruijn32tab", Rows.laid_math_bits_deBruijn32tab), ("math/bits.deBruijn64tab", Rows.laid_math_bits_deBruijn64tab), ("internal/strconv.uint64pow10", Rows.laid_internal_strconv_uint64pow10), ("unicode/utf8.acceptRanges", Rows.laid_unicode_utf8_acceptRanges), ("strconv.ErrRange", Rows.laid_strconv_ErrRange), ("strconv.ErrSyntax", Rows.laid_strconv_ErrSyntax), ("unicode/utf8.first", Rows.laid_unicode_utf8_first)]
theorem pow_is : (Rows.laid_internal_strconv_uint64pow10 : DataW Unit) = Lib.tabData .u64 Lib.pow10Tab := by kernel_rfl
theorem plain_laid {W : World} (h : laidMetH Tryz.prog theLaid W) : laidMet Tryz.prog theLaid W := by
  unfold laidMetH at h
  rw [show (theLaid.filter fun x => x.2.handleName?.isSome) = [] by kernel_rfl] at h
  exact h
/-- What the rows' list gives. -/
theorem tab {W : World} (hL : laidMetH Tryz.prog theLaid W) (hS : W.ShapedOpen Tryz.prog) : LG.Tab W := {
  errsyntax := by
    obtain ⟨g, t, cs, fuel, p, hg, ht, hv, hd⟩ := Lib.laidMet.reads (plain_laid hL) (n := "strconv.ErrSyntax") (d := Rows.laid_strconv_ErrSyntax) (by unfold theLaid; simp only [List.mem_cons, true_or, or_true])
    obtain rfl := Option.some.inj ((show Tryz.prog.globalNamed "strconv.ErrSyntax" = some 1 by kernel_rfl).symm.trans hg)
    obtain rfl := Option.some.inj ((show (Tryz.prog.globals[1]?).map (·.type) = some 77 by kernel_rfl).symm.trans ht)
    obtain ⟨_, u, v, hcs, _, _⟩ := iface_of_trod Tryz.underlying77 hd
    obtain ⟨l⟩ := cs
    simp only at hcs
    subst hcs
    exact ⟨.iface u v, (show W.cell? ⟨1, 0, none⟩ = some (.iface u v) by simpa using World.var?_cell hg hv 0), .inr ⟨u, v, rfl⟩⟩
  pow10 := by
    obtain ⟨g, t, cs, fuel, p, hg, ht, hv, hd⟩ := Lib.laidMet.reads (plain_laid hL) (n := "internal/strconv.uint64pow10") (d := Rows.laid_internal_strconv_uint64pow10) (by unfold theLaid; simp only [List.mem_cons, true_or, or_true])
    obtain rfl := Option.some.inj ((show Tryz.prog.globalNamed "internal/strconv.uint64pow10" = some 3 by kernel_rfl).symm.trans hg)
    obtain rfl := Option.some.inj ((show (Tryz.prog.globals[3]?).map (·.type) = some 341 by kernel_rfl).symm.trans ht)
    rw [pow_is] at hd
    have h := Lib.cells_of_tab Tryz.underlying341 Tryz.underlying122 (by kernel_rfl) (by kernel_rfl) hd
    unfold Lib.TabIs
    rw [hv]
    congr 1
    exact Array.toList_inj.1 (by simpa using h) }
/-- What is known stays known. -/
theorem tab_cel {W : World} (h : LG.Tab W) : LG.Gl (Gh.whole W) := fun w hw hb => by
  obtain ⟨⟨x, hx, hi⟩, hp⟩ := h
  refine ⟨⟨x, hw _ _ hx, hi⟩, ?_⟩
  unfold Lib.TabIs World.var? at hp ⊢
  rw [show Tryz.prog.globalNamed "internal/strconv.uint64pow10" = some 3 by kernel_rfl] at hp ⊢
  simp only [Option.bind_some] at hp ⊢
  cases ho : W.heap[3]? with
  | none => rw [ho] at hp; cases hp
  | some o => rw [hb 3 o ho]; rw [ho] at hp; exact hp
noncomputable def low : Nat := (World.holding Tryz.prog default ⟨#[], #[], []⟩).heap.size
/-- A world for the witness: the listed variables as their initialisers lay them. -/
noncomputable def laidWorld (os : Os) : World :=
  let w0 := World.holding Tryz.prog os ⟨#[.cells #[.string ⟨#[118, 97, 108, 117, 101, 32, 111, 117, 116, 32, 111, 102, 32, 114, 97, 110, 103, 101]⟩] 406, .cells #[.string ⟨#[105, 110, 118, 97, 108, 105, 100, 32, 115, 121, 110, 116, 97, 120]⟩] 406], #[], []⟩
  let put (h : Array Obj) (g : Nat) (cs : Array Value) : Array Obj := h.modify g fun
    | .cells _ t frozen => .cells cs t frozen
    | o => o
  { w0 with heap := put (put (put (put (put (put (put (w0.heap) 4 (([0, 1, 28, 2, 29, 14, 24, 3, 30, 22, 20, 15, 25, 17, 4, 8, 31, 27, 13, 23, 21, 19, 16, 7, 26, 12, 18, 6, 11, 5, 10, 9] : List Int).map fun z => Value.int .u8 z).toArray) 5 (([0, 1, 56, 2, 57, 49, 28, 3, 61, 58, 42, 50, 38, 29, 17, 4, 62, 47, 59, 36, 45, 43, 51, 22, 53, 39, 33, 30, 24, 18, 12, 5, 63, 55, 48, 27, 60, 41, 37, 16, 46, 35, 44, 21, 52, 32, 23, 11, 54, 26, 40, 15, 34, 20, 31, 10, 25, 14, 19, 9, 13, 8, 7, 6] : List Int).map fun z => Value.int .u8 z).toArray) 3 (([1, 10, 100, 1000, 10000, 100000, 1000000, 10000000, 100000000, 1000000000, 10000000000, 100000000000, 1000000000000, 10000000000000, 100000000000000, 1000000000000000, 10000000000000000, 100000000000000000, 1000000000000000000, 10000000000000000000] : List Int).map fun z => Value.int .u64 z).toArray) 7 ((List.range 16).flatMap fun i => [Value.int .u8 (Lib.accLo i), Value.int .u8 (Lib.accHi i)]).toArray) 2 #[.iface 404 (.pointer (some ⟨low + 0, 0, none⟩))]) 1 #[.iface 404 (.pointer (some ⟨low + 1, 0, none⟩))]) 6 (Lib.firstTab.map fun z => Value.int .u8 z).toArray }
theorem laid_met (os : Os) (args : Array Value) : laidMet Tryz.prog theLaid ((laidWorld os).forCall (fun _ _ => 0) ⟨#[], args, []⟩).memory :=
  laidMet_of_run' 8 (by kernel_rfl) (by kernel_rfl)
theorem and_t {a b : Bool} (h : a = true) (k : b = true) : (a && b) = true := by rw [h, k]; rfl
theorem no_go : Tryz.prog.funcs.any Func.goes = false := by kernel_rfl
/-- Where no body of the translation starts a goroutine, none that the call comes to does. -/
theorem goes_no {P : Program} (h : P.funcs.any Func.goes = false) (c : OpenClaim) (hs : c.start = .entering) : false = c.goesBy P := by
  have h1 : ∀ g : Nat, (P.funcs[g]?).any Func.goes = false := fun g => by
    cases hg : P.funcs[g]? with
    | none => rfl
    | some fn =>
      obtain ⟨hlt, he⟩ := Array.getElem?_eq_some_iff.1 hg
      have := (Array.any_eq_false.1 h) g hlt
      subst he
      simpa using this
  have h2 : ∀ f, P.goes f = false := fun f => by
    unfold Program.goes
    rw [h]
    simp [h1]
  unfold OpenClaim.goesBy Program.goesAt Program.goesFrom
  rw [hs]
  cases P.funcNamed c.func <;> simp [h2]
end Go.Proofs.YtoladeanenmepaaGreatDoor
