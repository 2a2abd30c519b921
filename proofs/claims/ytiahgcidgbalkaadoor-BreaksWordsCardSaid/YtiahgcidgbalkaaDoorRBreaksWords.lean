/-
  BreaksWords: the parts of a text without hyphens are its words. Conditions: the two tables of package utf8 that the row lists hold what their initialisers lay (the card ties them); none beside.
-/
import Derived.Test.YtiahgcidgbalkaaDoorRc
import Derived.Test.YtiahgcidgbalkaaDoorSBreaksWords
import Derived.Test.YtiahgcidgbalkaaDoorBw
set_option linter.unusedVariables false
set_option linter.unusedSimpArgs false
set_option maxRecDepth 100000
namespace Go.Proofs.YtiahgcidgbalkaaDoor.BreaksWords
open Go.ChangeShapes Go.WideShapes Go.ChangeAt Go.RowKit Go.LG
theorem contract (H : Type) (enc : TypeId × Value → H) (W : World) (base : Nat) (args : Array Value) (ds gs : List (DataW H)) (before : List MemPlace)
    (hval : ∀ (j : Nat) t v, Tryd.f8.params[j]? = some t → args[j]? = some v → Value.okWide Tryd.prog W .any base t v)
    (hW : DataW.Whole enc Tryd.prog Tryd.f8.params.toList Rows.breaksWordsSpec.vars false W args.toList ds gs before) (hL : laidMetH Tryd.prog theLaid W) (hS : W.ShapedOpen Tryd.prog) {vt : List TypeId}
    (hR : (DataW.weightsEach Tryd.prog (Tryd.f8.params.toList ++ vt) (ds ++ gs)).all (· ≤ reachBytes) = true) :
    Calls Tryd.prog 8 args W fun e W' => ∃ v, e = .returned v ∧ Rows.breaksWordsSpec.post enc Tryd.prog Tryd.f8 false true false false W args v W' := by
  have hW' := hW
  obtain ⟨p, q, hA0, hV, rfl, hfz, hnd⟩ := hW
  have hA : DataW.TrodAll enc Tryd.prog W 0 (fun _ => true) true Tryd.f8.params.toList args.toList ds p := hA0
  rw [Tryd.params8] at hA hval hR
  obtain ⟨v0, vs0, d0, ds0, p0, q0, hargs0, rfl, rfl, h0, r0⟩ := trodAll_cons hA
  obtain ⟨v1, vs1, d1, ds1, p1, q1, hargs1, rfl, rfl, h1, r1⟩ := trodAll_cons r0
  subst hargs1
  obtain ⟨rfl, rfl, rfl⟩ := trodAll_nil r1
  obtain rfl : args = #[v0, v1] := Array.toList_inj.1 hargs0
  obtain ⟨rfl, rfl⟩ := trodVars_none hV
  obtain ⟨x0, cs0, rfl, K0, ok0⟩ := arg_struct Tryd.underlying24 op_api_Breaks (hval 0 24 v0 rfl rfl) h0 (wt_arg hR 0 rfl rfl)
  obtain ⟨A0_0, c0_0, hl0_0, hD0_0, rfl⟩ := LG.open_api_Breaks K0
  obtain ⟨x1, rfl, ok1⟩ := arg_str Tryd.underlying9 (hval 1 9 v1 rfl rfl) h1 (wt_arg hR 1 rfl rfl)
  have walk := to_below (L := []) (LG.formelaw08_BreaksWords_spec (Hp.whole W) hl0_0 hD0_0 (tab_cel (tab hL hS)) (LG.words_true x0 x1 (big ok1)))
  refine Calls.mono walk fun e W' ⟨he, hb⟩ => ⟨_, he, ?_⟩
  exact law_post Tryd.underlying4 (by kernel_rfl) laidOut (by intro t ht; rw [Tryd.params8] at ht; simp only [List.mem_cons, List.mem_nil_iff, or_false] at ht; rcases ht with rfl | rfl <;> exact ⟨by kernel_rfl, of_decide_eq_true (by kernel_rfl)⟩) rfl hW' rfl hb
theorem reads (os : Os) {H : Type} (enc : TypeId × Value → H) : ∃ places, DataW.whole enc Tryd.prog ((laidWorld os).forCall (fun _ _ => 0) ⟨#[], #[Value.agg #[Value.int .i64 0, Value.int .i64 0, Value.slice none 0 0], Value.string ⟨#[]⟩], []⟩).memory Tryd.f8.params.toList Rows.breaksWordsSpec.vars false #[Value.agg #[Value.int .i64 0, Value.int .i64 0, Value.slice none 0 0], Value.string ⟨#[]⟩].toList 8 = some ([.agg [.lit (.int .i64 0), .lit (.int .i64 0), .nil], .lit (.string [])], [], places) :=
  ⟨[], by kernel_rfl⟩
set_option maxRecDepth 100000 in
theorem lifted (os : Os) (started : os.Started) (H : Type) (enc : TypeId × Value → H) (F : Stop.Interp) :
    ReturnsInHanded {} Tryd.checked os 8 .any ((OpenSpec.ofChange Rows.breaksWordsSpec).preRow enc Tryd.prog Tryd.f8 Rows.breaksWordsRow.domain false Rows.breaksWordsRow.laid) (((OpenSpec.ofChange Rows.breaksWordsSpec).at F).post enc Tryd.prog Tryd.f8 false true false false) := by
  obtain ⟨places, hx⟩ := reads os enc
  refine returnsInHanded_of_row (C := Tryd.checked) (s := OpenSpec.ofChange Rows.breaksWordsSpec) own started (by kernel_rfl) Tryd.func8
    (witness_row_at (enc := enc) (C := Tryd.checked) false (laidWorld os) #[Value.agg #[Value.int .i64 0, Value.int .i64 0, Value.slice none 0 0], Value.string ⟨#[]⟩] rfl (by kernel_rfl) (by kernel_rfl) (by kernel_rfl)
      (OpenSpec.preRow_of_cond 8 hx (by kernel_rfl) (fun k hk => by cases hk) (by kernel_rfl) (laid_met os _))) ?_
  intro W base args ds gs before hval hW _ _ hR hL hS _
  exact contract H enc W base args ds gs before hval hW hL hS hR
theorem said : Rows.BreaksWordsSaid :=
  OpenClaim.holds_of_cond 8 Tryd.f8 rfl rfl rfl rfl rfl rfl rfl ⟨rfl, rfl, rfl, rfl, rfl⟩ rfl rfl rfl rfl rfl (by kernel_rfl) Tryd.func8 (by kernel_rfl)
    (of_decide_eq_true (by kernel_rfl)) (by unfold Func.isWrapper; first | (rw [if_pos (by decide +kernel)]; kernel_rfl) | (rw [if_neg (by decide +kernel)]; exact ⟨rfl, rfl⟩))
    (fun os started H enc _ F => by rw [OpenClaim.pre_eq_preRow]; exact lifted os started H enc F)
theorem plain (f : FuncId) (fn : Func) (hf : Tryd.pinned.checked.prog.funcNamed "forme/formelaw08.BreaksWords" = some f) (hfn : Tryd.pinned.checked.prog.funcs[f]? = some fn) :
    false = Tryd.pinned.checked.prog.looks [] ∧ ∀ (j : Nat) t, fn.params[j]? = some t → Tryd.pinned.checked.prog.wantsStandIn t = false := by
  obtain rfl : f = 8 := Option.some.inj ((show Tryd.prog.funcNamed "forme/formelaw08.BreaksWords" = some 8 by kernel_rfl).symm.trans hf) |>.symm
  obtain rfl : fn = Tryd.f8 := (Option.some.inj (Tryd.func8.symm.trans hfn)).symm
  refine ⟨by kernel_rfl, fun j t ht => ?_⟩
  rw [Tryd.params8] at ht
  have hm : t ∈ [24, 9] := by simpa using Array.mem_of_getElem? ht
  have hall : ([24, 9].all fun u => !Tryd.prog.wantsStandIn u) = true := by kernel_rfl
  exact (show Tryd.prog.wantsStandIn t = false by simpa using List.all_eq_true.1 hall t hm)
end Go.Proofs.YtiahgcidgbalkaaDoor.BreaksWords
namespace Go.Proofs.YtiahgcidgbalkaaDoor
theorem breaksWords_card : Rows.BreaksWordsCardSaid :=
  Claim7.holds_tied_plain_at .later [] _ _ _ _ BreaksWords.said (fun _ h => by cases h) (by kernel_rfl) (fun _ h => by cases h) breaksWords_row_tie rfl ⟨rfl, rfl⟩ (by kernel_rfl) rfl BreaksWords.plain (by kernel_rfl)
#print axioms breaksWords_card
end Go.Proofs.YtiahgcidgbalkaaDoor
