/-
  WrapMatchesReference: for all fonts, rules, texts, floats and numbers, Lines returns what the reference implementation returns (few glyphs and kerns, texts of up to 80 bytes, up to 20 floats). Conditions: the two tables of package utf8 that the row lists hold what their initialisers lay (the card ties them); none beside.
-/
import Derived.Test.YtaemgcpcfnbmdaaGreatDoorRc
import Derived.Test.YtaemgcpcfnbmdaaGreatDoorSWrapMatchesReference
import Derived.Test.YtaemgcpcfnbmdaaGreatDoorWe
set_option linter.unusedVariables false
set_option linter.unusedSimpArgs false
set_option maxRecDepth 100000
namespace Go.Proofs.YtaemgcpcfnbmdaaGreatDoor.WrapMatchesReference
open Go.ChangeShapes Go.WideShapes Go.ChangeAt Go.RowKit Go.LG
theorem contract (H : Type) (enc : TypeId × Value → H) (W : World) (base : Nat) (args : Array Value) (ds gs : List (DataW H)) (before : List MemPlace)
    (hval : ∀ (j : Nat) t v, Tryz.f3.params[j]? = some t → args[j]? = some v → Value.okWide Tryz.prog W .any base t v)
    (hW : DataW.Whole enc Tryz.prog Tryz.f3.params.toList Rows.wrapMatchesReferenceSpec.vars false W args.toList ds gs before) (hL : laidMetH Tryz.prog theLaid W) (hS : W.ShapedOpen Tryz.prog) {vt : List TypeId}
    (hR : (DataW.weightsEach Tryz.prog (Tryz.f3.params.toList ++ vt) (ds ++ gs)).all (· ≤ reachBytes) = true) :
    Calls Tryz.prog 3 args W fun e W' => ∃ v, e = .returned v ∧ Rows.wrapMatchesReferenceSpec.post enc Tryz.prog Tryz.f3 false true false false W args v W' := by
  have hW' := hW
  obtain ⟨p, q, hA0, hV, rfl, hfz, hnd⟩ := hW
  have hA : DataW.TrodAll enc Tryz.prog W 0 (fun _ => true) true Tryz.f3.params.toList args.toList ds p := hA0
  rw [Tryz.params3] at hA hval hR
  obtain ⟨v0, vs0, d0, ds0, p0, q0, hargs0, rfl, rfl, h0, r0⟩ := trodAll_cons hA
  obtain ⟨v1, vs1, d1, ds1, p1, q1, hargs1, rfl, rfl, h1, r1⟩ := trodAll_cons r0
  subst hargs1
  obtain ⟨v2, vs2, d2, ds2, p2, q2, hargs2, rfl, rfl, h2, r2⟩ := trodAll_cons r1
  subst hargs2
  obtain ⟨v3, vs3, d3, ds3, p3, q3, hargs3, rfl, rfl, h3, r3⟩ := trodAll_cons r2
  subst hargs3
  obtain ⟨v4, vs4, d4, ds4, p4, q4, hargs4, rfl, rfl, h4, r4⟩ := trodAll_cons r3
  subst hargs4
  obtain ⟨rfl, rfl, rfl⟩ := trodAll_nil r4
  obtain rfl : args = #[v0, v1, v2, v3, v4] := Array.toList_inj.1 hargs0
  obtain ⟨rfl, rfl⟩ := trodVars_none hV
  obtain ⟨x0, cs0, rfl, K0, ok0⟩ := q5 Tryz.underlying25 op_api_Font (hval 0 25 v0 rfl rfl) h0 (ua hR 0 rfl rfl)
  obtain ⟨A0_0, c0_0, hl0_0, hD0_0, A0_1, c0_1, hl0_1, hD0_1, rfl⟩ := LG.uj K0
  obtain ⟨x1, cs1, rfl, K1, ok1⟩ := q5 Tryz.underlying28 op_api_Breaks (hval 1 28 v1 rfl rfl) h1 (ua hR 1 rfl rfl)
  obtain ⟨A1_0, c1_0, hl1_0, hD1_0, rfl⟩ := LG.ta K1
  obtain ⟨x2, rfl, ok2⟩ := Ca Tryz.underlying9 (hval 2 9 v2 rfl rfl) h2 (ua hR 2 rfl rfl)
  obtain ⟨x3, cs3, rfl, K3, ok3⟩ := q5 Tryz.underlying30 op_formelaw21_Set (hval 3 30 v3 rfl rfl) h3 (ua hR 3 rfl rfl)
  obtain rfl := LG.qx K3
  obtain ⟨x4, A4, c4, rfl, hl4, hD4, ok4⟩ := zd Tryz.underlying31 (rD (b := 40) Tryz.underlying31 (by kernel_rfl) (by kernel_rfl) op_api_Float) (hval 4 31 v4 rfl rfl) h4 (ua hR 4 rfl rfl)
  have walk := zI (L := []) (LG.kt (LG.vG x0 x1 x2 x3 x4 (show _ ∧ _ ∧ _ ∧ _ from ok1).2.2.1) (Hp.whole W) hl0_0 hD0_0 hl0_1 hD0_1 hl1_0 hD1_0 hl4 hD4 (tab_cel (tab hL hS)))
  refine Calls.mono walk fun e W' ⟨he, hb⟩ => ⟨_, he, ?_⟩
  exact Bu Tryz.underlying4 (by kernel_rfl) laidOut (by intro t ht; rw [Tryz.params3] at ht; simp only [List.mem_cons, List.mem_nil_iff, or_false] at ht; rcases ht with rfl | rfl | rfl | rfl | rfl <;> exact ⟨by kernel_rfl, of_decide_eq_true (by kernel_rfl)⟩) rfl hW' rfl hb
theorem reads (os : Os) {H : Type} (enc : TypeId × Value → H) : ∃ places, DataW.whole enc Tryz.prog ((laidWorld os).forCall (fun _ _ => 0) ⟨#[], #[Value.agg #[Value.slice none 0 0, Value.slice none 0 0], Value.agg #[Value.int .i64 0, Value.int .i64 0, Value.slice none 0 0], Value.string ⟨#[]⟩, Value.agg #[Value.int .i64 0, Value.int .i64 0, Value.int .i64 0, Value.int .i64 0, Value.int .i64 0, Value.int .i64 0], Value.slice none 0 0], []⟩).memory Tryz.f3.params.toList Rows.wrapMatchesReferenceSpec.vars false #[Value.agg #[Value.slice none 0 0, Value.slice none 0 0], Value.agg #[Value.int .i64 0, Value.int .i64 0, Value.slice none 0 0], Value.string ⟨#[]⟩, Value.agg #[Value.int .i64 0, Value.int .i64 0, Value.int .i64 0, Value.int .i64 0, Value.int .i64 0, Value.int .i64 0], Value.slice none 0 0].toList 8 = some ([.agg [.nil, .nil], .agg [.lit (.int .i64 0), .lit (.int .i64 0), .nil], .lit (.string []), .agg [.lit (.int .i64 0), .lit (.int .i64 0), .lit (.int .i64 0), .lit (.int .i64 0), .lit (.int .i64 0), .lit (.int .i64 0)], .nil], [], places) :=
  ⟨[], by kernel_rfl⟩
set_option maxRecDepth 100000 in
theorem lifted (os : Os) (started : os.Started) (H : Type) (enc : TypeId × Value → H) (F : Stop.Interp) :
    ReturnsInHanded {} Tryz.checked os 3 .any ((OpenSpec.ofChange Rows.wrapMatchesReferenceSpec).preRow enc Tryz.prog Tryz.f3 Rows.wrapMatchesReferenceRow.domain false Rows.wrapMatchesReferenceRow.laid) (((OpenSpec.ofChange Rows.wrapMatchesReferenceSpec).at F).post enc Tryz.prog Tryz.f3 false true false false) := by
  obtain ⟨places, hx⟩ := reads os enc
  refine returnsInHanded_of_row (C := Tryz.checked) (s := OpenSpec.ofChange Rows.wrapMatchesReferenceSpec) own started (by kernel_rfl) Tryz.func3
    (witness_row_at (enc := enc) (C := Tryz.checked) false (laidWorld os) #[Value.agg #[Value.slice none 0 0, Value.slice none 0 0], Value.agg #[Value.int .i64 0, Value.int .i64 0, Value.slice none 0 0], Value.string ⟨#[]⟩, Value.agg #[Value.int .i64 0, Value.int .i64 0, Value.int .i64 0, Value.int .i64 0, Value.int .i64 0, Value.int .i64 0], Value.slice none 0 0] rfl (by kernel_rfl) (by kernel_rfl) (by kernel_rfl)
      (OpenSpec.preRow_of_cond 8 hx (by kernel_rfl) (fun k hk => by cases hk) (by kernel_rfl) (laid_met os _))) ?_
  intro W base args ds gs before hval hW _ _ hR hL hS _
  exact contract H enc W base args ds gs before hval hW hL hS hR
theorem said : Rows.WrapMatchesReferenceSaid :=
  OpenClaim.holds_of_cond 3 Tryz.f3 rfl rfl rfl rfl rfl rfl rfl ⟨rfl, rfl, rfl, rfl, rfl⟩ rfl rfl rfl rfl rfl (by kernel_rfl) Tryz.func3 (by kernel_rfl)
    (of_decide_eq_true (by kernel_rfl)) (by unfold Func.isWrapper; first | (rw [if_pos (by decide +kernel)]; kernel_rfl) | (rw [if_neg (by decide +kernel)]; exact ⟨rfl, rfl⟩))
    (fun os started H enc _ F => by rw [OpenClaim.pre_eq_preRow]; exact lifted os started H enc F)
theorem plain (f : FuncId) (fn : Func) (hf : Tryz.pinned.checked.prog.funcNamed "forme/formelaw21.WrapMatchesReference" = some f) (hfn : Tryz.pinned.checked.prog.funcs[f]? = some fn) :
    false = Tryz.pinned.checked.prog.looks [] ∧ ∀ (j : Nat) t, fn.params[j]? = some t → Tryz.pinned.checked.prog.wantsStandIn t = false := by
  obtain rfl : f = 3 := Option.some.inj ((show Tryz.prog.funcNamed "forme/formelaw21.WrapMatchesReference" = some 3 by kernel_rfl).symm.trans hf) |>.symm
  obtain rfl : fn = Tryz.f3 := (Option.some.inj (Tryz.func3.symm.trans hfn)).symm
  refine ⟨by kernel_rfl, fun j t ht => ?_⟩
  rw [Tryz.params3] at ht
  have hm : t ∈ [25, 28, 9, 30, 31] := by simpa using Array.mem_of_getElem? ht
  have hall : ([25, 28, 9, 30, 31].all fun u => !Tryz.prog.wantsStandIn u) = true := by kernel_rfl
  exact (show Tryz.prog.wantsStandIn t = false by simpa using List.all_eq_true.1 hall t hm)
end Go.Proofs.YtaemgcpcfnbmdaaGreatDoor.WrapMatchesReference
namespace Go.Proofs.YtaemgcpcfnbmdaaGreatDoor
theorem wrapMatchesReference_card : Rows.WrapMatchesReferenceCardSaid :=
  Claim7.holds_tied_plain_at .later [] _ _ _ _ WrapMatchesReference.said (fun _ h => by cases h) (by kernel_rfl) (fun _ h => by cases h) wrapMatchesReference_row_tie rfl ⟨rfl, rfl⟩ (by kernel_rfl) rfl WrapMatchesReference.plain (by kernel_rfl)
#print axioms wrapMatchesReference_card
end Go.Proofs.YtaemgcpcfnbmdaaGreatDoor
