/-
  WrapMoves: if the beginning and all floats are moved down, all lines are, as long as they are above 1000000000 (texts of up to 80 bytes, up to 20 floats). Conditions: the two tables of package utf8 that the row lists hold what their initialisers lay (the card ties them); none beside.
-/
import Derived.Test.YtaemgcpcfnbmdaaGreatDoorRc
import Derived.Test.YtaemgcpcfnbmdaaGreatDoorSWrapMoves
import Derived.Test.YtaemgcpcfnbmdaaGreatDoorWm
set_option linter.unusedVariables false
set_option linter.unusedSimpArgs false
set_option maxRecDepth 100000
namespace Go.Proofs.YtaemgcpcfnbmdaaGreatDoor.WrapMoves
open Go.ChangeShapes Go.WideShapes Go.ChangeAt Go.RowKit Go.LG
theorem contract (H : Type) (enc : TypeId × Value → H) (W : World) (base : Nat) (args : Array Value) (ds gs : List (DataW H)) (before : List MemPlace)
    (hval : ∀ (j : Nat) t v, Tryz.f9.params[j]? = some t → args[j]? = some v → Value.okWide Tryz.prog W .any base t v)
    (hW : DataW.Whole enc Tryz.prog Tryz.f9.params.toList Rows.wrapMovesSpec.vars false W args.toList ds gs before) (hL : laidMetH Tryz.prog theLaid W) (hS : W.ShapedOpen Tryz.prog) {vt : List TypeId}
    (hR : (DataW.weightsEach Tryz.prog (Tryz.f9.params.toList ++ vt) (ds ++ gs)).all (· ≤ reachBytes) = true) :
    Calls Tryz.prog 9 args W fun e W' => ∃ v, e = .returned v ∧ Rows.wrapMovesSpec.post enc Tryz.prog Tryz.f9 false true false false W args v W' := by
  have hW' := hW
  obtain ⟨p, q, hA0, hV, rfl, hfz, hnd⟩ := hW
  have hA : DataW.TrodAll enc Tryz.prog W 0 (fun _ => true) true Tryz.f9.params.toList args.toList ds p := hA0
  rw [Tryz.params9] at hA hval hR
  obtain ⟨v0, vs0, d0, ds0, p0, q0, hargs0, rfl, rfl, h0, r0⟩ := trodAll_cons hA
  obtain ⟨v1, vs1, d1, ds1, p1, q1, hargs1, rfl, rfl, h1, r1⟩ := trodAll_cons r0
  subst hargs1
  obtain ⟨v2, vs2, d2, ds2, p2, q2, hargs2, rfl, rfl, h2, r2⟩ := trodAll_cons r1
  subst hargs2
  obtain ⟨v3, vs3, d3, ds3, p3, q3, hargs3, rfl, rfl, h3, r3⟩ := trodAll_cons r2
  subst hargs3
  obtain ⟨v4, vs4, d4, ds4, p4, q4, hargs4, rfl, rfl, h4, r4⟩ := trodAll_cons r3
  subst hargs4
  obtain ⟨v5, vs5, d5, ds5, p5, q5, hargs5, rfl, rfl, h5, r5⟩ := trodAll_cons r4
  subst hargs5
  obtain ⟨rfl, rfl, rfl⟩ := trodAll_nil r5
  obtain rfl : args = #[v0, v1, v2, v3, v4, v5] := Array.toList_inj.1 hargs0
  obtain ⟨rfl, rfl⟩ := trodVars_none hV
  obtain ⟨x0, cs0, rfl, K0, ok0⟩ := arg_struct Tryz.underlying25 op_api_Font (hval 0 25 v0 rfl rfl) h0 (wt_arg hR 0 rfl rfl)
  obtain ⟨A0_0, c0_0, hl0_0, hD0_0, A0_1, c0_1, hl0_1, hD0_1, rfl⟩ := LG.open_api_Font K0
  obtain ⟨x1, cs1, rfl, K1, ok1⟩ := arg_struct Tryz.underlying28 op_api_Breaks (hval 1 28 v1 rfl rfl) h1 (wt_arg hR 1 rfl rfl)
  obtain ⟨A1_0, c1_0, hl1_0, hD1_0, rfl⟩ := LG.open_api_Breaks K1
  obtain ⟨x2, rfl, ok2⟩ := arg_str Tryz.underlying9 (hval 2 9 v2 rfl rfl) h2 (wt_arg hR 2 rfl rfl)
  obtain ⟨x3, cs3, rfl, K3, ok3⟩ := arg_struct Tryz.underlying30 op_formelaw21_Set (hval 3 30 v3 rfl rfl) h3 (wt_arg hR 3 rfl rfl)
  obtain rfl := LG.open_formelaw21_Set K3
  obtain ⟨x4, A4, c4, rfl, hl4, hD4, ok4⟩ := arg_slice Tryz.underlying31 (op_slice (b := 40) Tryz.underlying31 (by kernel_rfl) (by kernel_rfl) op_api_Float) (hval 4 31 v4 rfl rfl) h4 (wt_arg hR 4 rfl rfl)
  obtain ⟨x5, rfl, ok5⟩ := arg_int Tryz.underlying66 (hval 5 66 v5 rfl rfl) h5
  have walk := to_below0 (L := []) (LG.formelaw21_WrapMoves_spec (LG.moves_true x0 x1 x2 x3 x4 x5 (show _ ∧ _ ∧ _ ∧ _ from ok1).2.2.1 (by have h := ok5; unfold Lit.wf at h; rw [Bool.and_eq_true] at h; exact ⟨of_decide_eq_true h.1, of_decide_eq_true h.2⟩)) (Hp.whole W) hl0_0 hD0_0 hl0_1 hD0_1 hl1_0 hD1_0 hl4 hD4 (tab_cel (tab hL hS)))
  refine Calls.mono walk fun e W' ⟨he, hb⟩ => ⟨_, he, ?_⟩
  exact law_post Tryz.underlying4 (by kernel_rfl) laidOut (by intro t ht; rw [Tryz.params9] at ht; simp only [List.mem_cons, List.mem_nil_iff, or_false] at ht; rcases ht with rfl | rfl | rfl | rfl | rfl | rfl <;> exact ⟨by kernel_rfl, of_decide_eq_true (by kernel_rfl)⟩) rfl hW' rfl hb
theorem reads (os : Os) {H : Type} (enc : TypeId × Value → H) : ∃ places, DataW.whole enc Tryz.prog ((laidWorld os).forCall (fun _ _ => 0) ⟨#[], #[Value.agg #[Value.slice none 0 0, Value.slice none 0 0], Value.agg #[Value.int .i64 0, Value.int .i64 0, Value.slice none 0 0], Value.string ⟨#[]⟩, Value.agg #[Value.int .i64 0, Value.int .i64 0, Value.int .i64 0, Value.int .i64 0, Value.int .i64 0, Value.int .i64 0], Value.slice none 0 0, Value.int .u16 0], []⟩).memory Tryz.f9.params.toList Rows.wrapMovesSpec.vars false #[Value.agg #[Value.slice none 0 0, Value.slice none 0 0], Value.agg #[Value.int .i64 0, Value.int .i64 0, Value.slice none 0 0], Value.string ⟨#[]⟩, Value.agg #[Value.int .i64 0, Value.int .i64 0, Value.int .i64 0, Value.int .i64 0, Value.int .i64 0, Value.int .i64 0], Value.slice none 0 0, Value.int .u16 0].toList 8 = some ([.agg [.nil, .nil], .agg [.lit (.int .i64 0), .lit (.int .i64 0), .nil], .lit (.string []), .agg [.lit (.int .i64 0), .lit (.int .i64 0), .lit (.int .i64 0), .lit (.int .i64 0), .lit (.int .i64 0), .lit (.int .i64 0)], .nil, .lit (.int .u16 0)], [], places) :=
  ⟨[], by kernel_rfl⟩
set_option maxRecDepth 100000 in
theorem lifted (os : Os) (started : os.Started) (H : Type) (enc : TypeId × Value → H) (F : Stop.Interp) :
    ReturnsInHanded {} Tryz.checked os 9 .any ((OpenSpec.ofChange Rows.wrapMovesSpec).preRow enc Tryz.prog Tryz.f9 Rows.wrapMovesRow.domain false Rows.wrapMovesRow.laid) (((OpenSpec.ofChange Rows.wrapMovesSpec).at F).post enc Tryz.prog Tryz.f9 false true false false) := by
  obtain ⟨places, hx⟩ := reads os enc
  refine returnsInHanded_of_row (C := Tryz.checked) (s := OpenSpec.ofChange Rows.wrapMovesSpec) own started (by kernel_rfl) Tryz.func9
    (witness_row_at (enc := enc) (C := Tryz.checked) false (laidWorld os) #[Value.agg #[Value.slice none 0 0, Value.slice none 0 0], Value.agg #[Value.int .i64 0, Value.int .i64 0, Value.slice none 0 0], Value.string ⟨#[]⟩, Value.agg #[Value.int .i64 0, Value.int .i64 0, Value.int .i64 0, Value.int .i64 0, Value.int .i64 0, Value.int .i64 0], Value.slice none 0 0, Value.int .u16 0] rfl (by kernel_rfl) (by kernel_rfl) (by kernel_rfl)
      (OpenSpec.preRow_of_cond 8 hx (by kernel_rfl) (fun k hk => by cases hk) (by kernel_rfl) (laid_met os _))) ?_
  intro W base args ds gs before hval hW _ _ hR hL hS _
  exact contract H enc W base args ds gs before hval hW hL hS hR
theorem said : Rows.WrapMovesSaid :=
  OpenClaim.holds_of_cond 9 Tryz.f9 rfl rfl rfl rfl rfl rfl rfl ⟨rfl, rfl, rfl, rfl, rfl⟩ rfl rfl rfl rfl rfl (by kernel_rfl) Tryz.func9 (by kernel_rfl)
    (of_decide_eq_true (by kernel_rfl)) (by unfold Func.isWrapper; first | (rw [if_pos (by decide +kernel)]; kernel_rfl) | (rw [if_neg (by decide +kernel)]; exact ⟨rfl, rfl⟩))
    (fun os started H enc _ F => by rw [OpenClaim.pre_eq_preRow]; exact lifted os started H enc F)
theorem plain (f : FuncId) (fn : Func) (hf : Tryz.pinned.checked.prog.funcNamed "forme/formelaw21.WrapMoves" = some f) (hfn : Tryz.pinned.checked.prog.funcs[f]? = some fn) :
    false = Tryz.pinned.checked.prog.looks [] ∧ ∀ (j : Nat) t, fn.params[j]? = some t → Tryz.pinned.checked.prog.wantsStandIn t = false := by
  obtain rfl : f = 9 := Option.some.inj ((show Tryz.prog.funcNamed "forme/formelaw21.WrapMoves" = some 9 by kernel_rfl).symm.trans hf) |>.symm
  obtain rfl : fn = Tryz.f9 := (Option.some.inj (Tryz.func9.symm.trans hfn)).symm
  refine ⟨by kernel_rfl, fun j t ht => ?_⟩
  rw [Tryz.params9] at ht
  have hm : t ∈ [25, 28, 9, 30, 31, 66] := by simpa using Array.mem_of_getElem? ht
  have hall : ([25, 28, 9, 30, 31, 66].all fun u => !Tryz.prog.wantsStandIn u) = true := by kernel_rfl
  exact (show Tryz.prog.wantsStandIn t = false by simpa using List.all_eq_true.1 hall t hm)
end Go.Proofs.YtaemgcpcfnbmdaaGreatDoor.WrapMoves
namespace Go.Proofs.YtaemgcpcfnbmdaaGreatDoor
theorem wrapMoves_card : Rows.WrapMovesCardSaid :=
  Claim7.holds_tied_plain_at .later [] _ _ _ _ WrapMoves.said (fun _ h => by cases h) (by kernel_rfl) (fun _ h => by cases h) wrapMoves_row_tie rfl ⟨rfl, rfl⟩ (by kernel_rfl) rfl WrapMoves.plain (by kernel_rfl)
#print axioms wrapMoves_card
end Go.Proofs.YtaemgcpcfnbmdaaGreatDoor
