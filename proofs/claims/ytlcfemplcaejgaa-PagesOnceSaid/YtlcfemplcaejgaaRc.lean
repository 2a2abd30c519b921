/-
  What the rows of this seat have in common: what they list, and how their arguments are opened.
-/
import Derived.Test.YtlcfemplcaejgaaRows
import Derived.Deep.DeepHandedRow
import Derived.JoinedCond
import Derived.LaidLaws
import Derived.Test.YtlcfemplcaejgaaLgO
import Derived.Test.YtlcfemplcaejgaaTy
set_option linter.unusedVariables false
set_option linter.unusedSimpArgs false
set_option maxRecDepth 100000
namespace Go.Proofs.Ytlcfemplcaejgaa
open Go.ChangeShapes Go.WideShapes Go.ChangeAt Go.RowKit Go.LG
theorem own : ownKnob Try.prog.godebug = none := by kernel_rfl
theorem laidOut : laidOutB Try.prog = true := by kernel_rfl
def ok_api_Paper (x : LG.api_Paper) : Prop := (Lit.int .i64 x.Width).wf = true ∧ (Lit.int .i64 x.Height).wf = true ∧ (Lit.int .i64 x.Columns).wf = true ∧ (Lit.int .i64 x.Gap).wf = true ∧ (Lit.int .i64 x.Scale).wf = true ∧ (Lit.int .i64 x.Lang).wf = true
theorem op_api_Paper {H : Type} {enc : TypeId × Value → H} {W : World} : Opn enc Try.prog W 23 LG.k_api_Paper ok_api_Paper :=
  op_ok (op_iso (op_struct Try.underlying23 (by kernel_rfl) (opf_cons rfl rfl (by kernel_rfl) (op_int Try.underlying3) (opf_cons rfl rfl (by kernel_rfl) (op_int Try.underlying3) (opf_cons rfl rfl (by kernel_rfl) (op_int Try.underlying3) (opf_cons rfl rfl (by kernel_rfl) (op_int Try.underlying3) (opf_cons rfl rfl (by kernel_rfl) (op_int Try.underlying3) (opf_last rfl rfl (by kernel_rfl) (op_int Try.underlying3)))))))) (fun a => ⟨a.1, a.2.1, a.2.2.1, a.2.2.2.1, a.2.2.2.2.1, a.2.2.2.2.2⟩) (fun _ => rfl)) (fun _ h => h)
def ok_api_Slice (x : LG.api_Slice) : Prop := (Lit.int .i64 x.Node).wf = true ∧ (Lit.int .i64 x.Table).wf = true ∧ (Lit.int .i64 x.X).wf = true ∧ (Lit.int .i64 x.Y).wf = true ∧ (Lit.int .i64 x.H).wf = true ∧ x.Text.size ≤ 140737488351232 ∧ True ∧ True
theorem op_api_Slice {H : Type} {enc : TypeId × Value → H} {W : World} : Opn enc Try.prog W 36 LG.k_api_Slice ok_api_Slice :=
  op_ok (op_iso (op_struct Try.underlying36 (by kernel_rfl) (opf_cons rfl rfl (by kernel_rfl) (op_int Try.underlying3) (opf_cons rfl rfl (by kernel_rfl) (op_int Try.underlying3) (opf_cons rfl rfl (by kernel_rfl) (op_int Try.underlying3) (opf_cons rfl rfl (by kernel_rfl) (op_int Try.underlying3) (opf_cons rfl rfl (by kernel_rfl) (op_int Try.underlying3) (opf_cons rfl rfl (by kernel_rfl) (op_str Try.underlying9) (opf_cons rfl rfl (by kernel_rfl) (op_bool Try.underlying4) (opf_last rfl rfl (by kernel_rfl) (op_bool Try.underlying4)))))))))) (fun a => ⟨a.1, a.2.1, a.2.2.1, a.2.2.2.1, a.2.2.2.2.1, a.2.2.2.2.2.1, a.2.2.2.2.2.2.1, a.2.2.2.2.2.2.2⟩) (fun _ => rfl)) (fun _ h => h)
theorem big {n : Nat} (h : n ≤ 140737488351232) : n ≤ 9223372036854775807 := by omega
theorem big2 {n : Nat} (h : n ≤ 140737488351232) : n ≤ 4611686018427387000 := by omega
abbrev theLaid : List (String × DataW Unit) := []
noncomputable def laidWorld (os : Os) : World := World.holding Try.prog os ⟨#[], #[], []⟩
theorem laid_met (os : Os) (args : Array Value) : laidMet Try.prog theLaid ((laidWorld os).forCall (fun _ _ => 0) ⟨#[], args, []⟩).memory :=
  ⟨[], rfl, List.nodup_nil, fun _ _ h => by cases h⟩
end Go.Proofs.Ytlcfemplcaejgaa
