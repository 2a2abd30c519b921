/-
  PagesRoom: whatever the input, the law returns true. Conditions: none.
-/
import Derived.Test.YtlcfemplcaejgaaRc
import Derived.Test.YtlcfemplcaejgaaSPagesRoom
import Derived.Test.YtlcfemplcaejgaaGc
set_option linter.unusedVariables false
set_option linter.unusedSimpArgs false
set_option maxRecDepth 100000
namespace Go.Proofs.Ytlcfemplcaejgaa.PagesRoom
open Go.ChangeShapes Go.WideShapes Go.ChangeAt Go.RowKit Go.LG
theorem contract (H : Type) (enc : TypeId × Value → H) (W : World) (base : Nat) (args : Array Value) (ds gs : List (DataW H)) (before : List MemPlace)
    (hval : ∀ (j : Nat) t v, Try.f4.params[j]? = some t → args[j]? = some v → Value.okWide Try.prog W .any base t v)
    (hW : DataW.Whole enc Try.prog Try.f4.params.toList Rows.pagesRoomSpec.vars false W args.toList ds gs before) (hL : laidMetH Try.prog theLaid W) (hS : W.ShapedOpen Try.prog) {vt : List TypeId}
    (hR : (DataW.weightsEach Try.prog (Try.f4.params.toList ++ vt) (ds ++ gs)).all (· ≤ reachBytes) = true) :
    Calls Try.prog 4 args W fun e W' => ∃ v, e = .returned v ∧ Rows.pagesRoomSpec.post enc Try.prog Try.f4 false true false false W args v W' := by
  have hW' := hW
  obtain ⟨p, q, hA0, hV, rfl, hfz, hnd⟩ := hW
  have hA : DataW.TrodAll enc Try.prog W 0 (fun _ => true) true Try.f4.params.toList args.toList ds p := hA0
  rw [Try.params4] at hA hval hR
  obtain ⟨v0, vs0, d0, ds0, p0, q0, hargs0, rfl, rfl, h0, r0⟩ := trodAll_cons hA
  obtain ⟨v1, vs1, d1, ds1, p1, q1, hargs1, rfl, rfl, h1, r1⟩ := trodAll_cons r0
  subst hargs1
  obtain ⟨v2, vs2, d2, ds2, p2, q2, hargs2, rfl, rfl, h2, r2⟩ := trodAll_cons r1
  subst hargs2
  obtain ⟨rfl, rfl, rfl⟩ := trodAll_nil r2
  obtain rfl : args = #[v0, v1, v2] := Array.toList_inj.1 hargs0
  obtain ⟨rfl, rfl⟩ := trodVars_none hV
  obtain ⟨x0, cs0, rfl, K0, ok0⟩ := m8 Try.underlying23 op_api_Paper (hval 0 23 v0 rfl rfl) h0 (m4 hR 0 rfl rfl)
  obtain rfl := LG.kP K0
  obtain ⟨x1, A1, c1, rfl, hl1, hD1, ok1⟩ := lJ Try.underlying24 (mg (b := 64) Try.underlying24 (by kernel_rfl) (by kernel_rfl) op_api_Slice) (hval 1 24 v1 rfl rfl) h1 (m4 hR 1 rfl rfl)
  obtain ⟨x2, A2, c2, rfl, hl2, hD2, ok2⟩ := lJ Try.underlying25 (mg (b := 1) Try.underlying25 (by kernel_rfl) (by kernel_rfl) (lS Try.underlying4)) (hval 2 25 v2 rfl rfl) h2 (m4 hR 2 rfl rfl)
  have walk := nW (L := []) (LG.gI (LG.kG x0 x1 x2 (Nat.le_trans (by have := ok1.1; omega) (Nat.le_refl _)) (fun s hs => big (ok1.2 s hs).2.2.2.2.2.1)) (Hp.whole W) hl1 hD1 hl2 hD2)
  refine Calls.mono walk fun e W' ⟨he, hb⟩ => ⟨_, he, ?_⟩
  exact oi Try.underlying4 (by kernel_rfl) laidOut (by intro t ht; rw [Try.params4] at ht; simp only [List.mem_cons, List.mem_nil_iff, or_false] at ht; rcases ht with rfl | rfl | rfl <;> exact ⟨by kernel_rfl, of_decide_eq_true (by kernel_rfl)⟩) rfl hW' rfl hb
theorem reads (os : Os) {H : Type} (enc : TypeId × Value → H) : ∃ places, DataW.whole enc Try.prog ((laidWorld os).forCall (fun _ _ => 0) ⟨#[], #[Value.agg #[Value.int .i64 0, Value.int .i64 0, Value.int .i64 0, Value.int .i64 0, Value.int .i64 0, Value.int .i64 0], Value.slice none 0 0, Value.slice none 0 0], []⟩).memory Try.f4.params.toList Rows.pagesRoomSpec.vars false #[Value.agg #[Value.int .i64 0, Value.int .i64 0, Value.int .i64 0, Value.int .i64 0, Value.int .i64 0, Value.int .i64 0], Value.slice none 0 0, Value.slice none 0 0].toList 8 = some ([.agg [.lit (.int .i64 0), .lit (.int .i64 0), .lit (.int .i64 0), .lit (.int .i64 0), .lit (.int .i64 0), .lit (.int .i64 0)], .nil, .nil], [], places) :=
  ⟨[], by kernel_rfl⟩
set_option maxRecDepth 100000 in
theorem lifted (os : Os) (started : os.Started) (H : Type) (enc : TypeId × Value → H) (F : Stop.Interp) :
    ReturnsInHanded {} Try.checked os 4 .any ((OpenSpec.ofChange Rows.pagesRoomSpec).preRow enc Try.prog Try.f4 Rows.pagesRoomRow.domain false Rows.pagesRoomRow.laid) (((OpenSpec.ofChange Rows.pagesRoomSpec).at F).post enc Try.prog Try.f4 false true false false) := by
  obtain ⟨places, hx⟩ := reads os enc
  refine returnsInHanded_of_row (C := Try.checked) (s := OpenSpec.ofChange Rows.pagesRoomSpec) own started (by kernel_rfl) Try.func4
    (witness_row_at (enc := enc) (C := Try.checked) false (laidWorld os) #[Value.agg #[Value.int .i64 0, Value.int .i64 0, Value.int .i64 0, Value.int .i64 0, Value.int .i64 0, Value.int .i64 0], Value.slice none 0 0, Value.slice none 0 0] rfl (by kernel_rfl) (by kernel_rfl) (by kernel_rfl)
      (OpenSpec.preRow_of_cond 8 hx (by kernel_rfl) (fun k hk => by cases hk) (by kernel_rfl) (laid_met os _))) ?_
  intro W base args ds gs before hval hW _ _ hR hL hS _
  exact contract H enc W base args ds gs before hval hW hL hS hR
theorem said : Rows.PagesRoomSaid :=
  OpenClaim.holds_of_cond 4 Try.f4 rfl rfl rfl rfl rfl rfl rfl ⟨rfl, rfl, rfl, rfl, rfl⟩ rfl rfl rfl rfl rfl (by kernel_rfl) Try.func4 (by kernel_rfl)
    (of_decide_eq_true (by kernel_rfl)) (by unfold Func.isWrapper; first | (rw [if_pos (by decide +kernel)]; kernel_rfl) | (rw [if_neg (by decide +kernel)]; exact ⟨rfl, rfl⟩))
    (fun os started H enc _ F => by rw [OpenClaim.pre_eq_preRow]; exact lifted os started H enc F)
end Go.Proofs.Ytlcfemplcaejgaa.PagesRoom
namespace Go.Proofs.Ytlcfemplcaejgaa
theorem pagesRoom_said : Rows.PagesRoomSaid := PagesRoom.said
#print axioms pagesRoom_said
end Go.Proofs.Ytlcfemplcaejgaa
