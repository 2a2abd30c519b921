/-
  What the rows of this seat have in common: what they list, and how their arguments are opened.
-/
import Derived.Test.YtlcfemplcaejgaaRows
import Derived.Deep.DeepHandedRow
import Derived.JoinedCond
import Derived.LaidLaws
import Derived.Test.YtlcfemplcaejgaaLgO
import Derived.Test.YtlcfemplcaejgaaTy
set_option linter.unusedVariables false
set_option linter.unusedSimpArgs false
set_option maxRecDepth 100000
namespace Go.Proofs.Ytlcfemplcaejgaa
open Go.ChangeShapes Go.WideShapes Go.ChangeAt Go.RowKit Go.LG
theorem own : ownKnob Try.prog.godebug = none := by kernel_rfl
theorem laidOut : laidOutB Try.prog = true := by kernel_rfl
def ok_api_Paper (x : LG.ax) : Prop := (Lit.int .i64 x.Width).wf = true ∧ (Lit.int .i64 x.Height).wf = true ∧ (Lit.int .i64 x.Columns).wf = true ∧ (Lit.int .i64 x.Gap).wf = true ∧ (Lit.int .i64 x.Scale).wf = true ∧ (Lit.int .i64 x.Lang).wf = true
theorem op_api_Paper {H : Type} {enc : TypeId × Value → H} {W : World} : mQ enc Try.prog W 23 LG.kw ok_api_Paper :=
  pT (pa (lF Try.underlying23 (by kernel_rfl) (ep rfl rfl (by kernel_rfl) (gD Try.underlying3) (ep rfl rfl (by kernel_rfl) (gD Try.underlying3) (ep rfl rfl (by kernel_rfl) (gD Try.underlying3) (ep rfl rfl (by kernel_rfl) (gD Try.underlying3) (ep rfl rfl (by kernel_rfl) (gD Try.underlying3) (mB rfl rfl (by kernel_rfl) (gD Try.underlying3)))))))) (fun a => ⟨a.1, a.2.1, a.2.2.1, a.2.2.2.1, a.2.2.2.2.1, a.2.2.2.2.2⟩) (fun _ => rfl)) (fun _ h => h)
def ok_api_Slice (x : LG.ac) : Prop := (Lit.int .i64 x.Node).wf = true ∧ (Lit.int .i64 x.Table).wf = true ∧ (Lit.int .i64 x.X).wf = true ∧ (Lit.int .i64 x.Y).wf = true ∧ (Lit.int .i64 x.H).wf = true ∧ x.Text.size ≤ 140737488351232 ∧ True ∧ True
theorem op_api_Slice {H : Type} {enc : TypeId × Value → H} {W : World} : mQ enc Try.prog W 36 LG.ah ok_api_Slice :=
  pT (pa (lF Try.underlying36 (by kernel_rfl) (ep rfl rfl (by kernel_rfl) (gD Try.underlying3) (ep rfl rfl (by kernel_rfl) (gD Try.underlying3) (ep rfl rfl (by kernel_rfl) (gD Try.underlying3) (ep rfl rfl (by kernel_rfl) (gD Try.underlying3) (ep rfl rfl (by kernel_rfl) (gD Try.underlying3) (ep rfl rfl (by kernel_rfl) (qi Try.underlying9) (ep rfl rfl (by kernel_rfl) (lS Try.underlying4) (mB rfl rfl (by kernel_rfl) (lS Try.underlying4)))))))))) (fun a => ⟨a.1, a.2.1, a.2.2.1, a.2.2.2.1, a.2.2.2.2.1, a.2.2.2.2.2.1, a.2.2.2.2.2.2.1, a.2.2.2.2.2.2.2⟩) (fun _ => rfl)) (fun _ h => h)
theorem big {n : Nat} (h : n ≤ 140737488351232) : n ≤ 9223372036854775807 := by omega
theorem big2 {n : Nat} (h : n ≤ 140737488351232) : n ≤ 4611686018427387000 := by omega
abbrev theLaid : List (String × DataW Unit) := []
noncomputable def laidWorld (os : Os) : World := World.holding Try.prog os ⟨#[], #[], []⟩
theorem laid_met (os : Os) (args : Array Value) : laidMet Try.prog theLaid ((laidWorld os).forCall (fun _ _ => 0) ⟨#[], args, []⟩).memory :=
  ⟨[], rfl, List.nodup_nil, fun _ _ h => by cases h⟩
end Go.Proofs.Ytlcfemplcaejgaa
