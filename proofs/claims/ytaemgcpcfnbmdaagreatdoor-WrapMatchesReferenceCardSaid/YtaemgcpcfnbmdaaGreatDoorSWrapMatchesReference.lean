/-
  The walks: each function computes its plain function: printed by a program out of the translation.
-/
import Derived.Test.YtaemgcpcfnbmdaaGreatDoorSe
set_option linter.unusedVariables false
set_option linter.unusedSimpArgs false
set_option maxRecDepth 100000
namespace Go.Proofs.YtaemgcpcfnbmdaaGreatDoor.LG
open Go Go.LG Go.RowKit Go.Value
set_option maxHeartbeats 1000000
open Go.Lib Go.Shelf Go.Proofs
theorem kt {a1 a10 p a a17 g h i j k l q r D G L w} (H : dr a1 a10 p a a17 = some D) (hI : Hp G L w) (s : a1.Glyphs.length ≤ h) (t : Dat au G g a1.Glyphs) (u : a1.Kerns.length ≤ j) (v : Dat ay G i a1.Kerns) (E : a10.Keep.length ≤ l) (F : Dat Kd.str G k a10.Keep) (x : a17.length ≤ r) (y : Dat bm G q a17) (C : Gl G) :
    Calls Tryz.prog 3 [agg [slice g a1.Glyphs.length h, slice i a1.Kerns.length j].toArray, agg [int .i64 a10.Before, int .i64 a10.Behind, slice k a10.Keep.length l].toArray, string p, agg [int .i64 a.Scale, int .i64 a.Line, int .i64 a.Align, int .i64 a.Dir, int .i64 a.Width, int .i64 a.Y].toArray, slice q a17.length r].toArray w fun e w' => Hp G L w' ∧ e = .returned (bool D) := by
 refine ac (N := 72) Tryz.func3 z z (Nat.le_of_ble_eq_true z)<|?_
 unfold dr at H
 refine sr fun aN R=>io hI z z fun S aO T=>io T z z fun U aP V=>io V z z fun W aQ X=>aj z<|nl<|R _ _ _<|sr fun aR Z=>bK H fun aa ab H=>cv bo10 (qi ab X (C.mono gR)) z z fun aS I=>aj z<|nl<|Z _ _ _<|sQ fun aT ad=>?_
 refine sr fun aU ae=>d9 I 2 fw z z z z<|mv z<|mv z<|bK H fun af ag H=>cv bo11 (qw ag I s t u v x y) z z fun aV m=>be z<|nl<|ae _ _ _<|dC ((!af) = true) (fun n=>?_) fun n=>?_
 refine yK n H fun H=>wt (vY n)<|sr fun aW ah=>mv z<|aj z<|nl<|ah _ _ _<|wr<|have ai:=Hp.pick 3 [] m z;?_
 cases H
 exact rt ⟨_, _, z, z, z⟩ ai
 refine nK n H fun H=>wf (vN n)<|ws<|ad _ _ _<|sr fun aX ak=>d9 m 2 fw z z z z<|d9 m 1 jT z z z z<|mv z<|d9 m 0 ag30 z z z z<|mv z<|xr H fun al am J an H=>fU (vs := [agg [slice g a1.Glyphs.length h, slice i a1.Kerns.length j].toArray, agg [int .i64 a10.Before, int .i64 a10.Behind, slice k a10.Keep.length l].toArray, string p, agg [int .i64 a.Scale, int .i64 a.Line, int .i64 a.Align, int .i64 a.Dir, int .i64 a.Width, int .i64 a.Y].toArray, slice q a17.length r]) bo12 z z (pD an m s t u v E F x y (C.mono gR))<|?_
 rintro _ aY ⟨ao, ap, aZ, o, b, aq, ar, a0, rfl⟩
 refine ⟨_, rfl, ?_⟩
 refine mv z<|cK z z<|cK z z<|cK z z<|aj z<|aj z<|aj z<|nl<|ak _ _ _<|sr fun a2 av=>d9 b 3 fw z z z z<|d9 b 2 jT z z z z<|mv z<|fa Bz z<|?_
 refine ld b 1 bv z z z<|fa AY z<|ld b 1 bv z z z<|fa zZ z<|ld b 1 bv z z z<|fa Bb z<|ld b 1 bv z z z<|fa An z<|ld b 1 bv z z z<|fa Ah z<|ld b 1 bv z z z<|mv z<|xr H fun aw ax K az H=>fU (vs := [agg [slice g a1.Glyphs.length h, slice i a1.Kerns.length j].toArray, agg [int .i64 a10.Before, int .i64 a10.Behind, slice k a10.Keep.length l].toArray, string p, int .i64 a.Scale, int .i64 a.Line, int .i64 a.Align, int .i64 a.Dir, int .i64 a.Width, int .i64 a.Y, slice q a17.length r]) bo13 z z (pz az b s (Dat.mono o t) u (Dat.mono o v) E (Dat.mono o F) x (Dat.mono o y))<|?_
 rintro _ a3 ⟨aA, aB, aC, M, O, aD, aE, a4, rfl⟩
 refine ⟨_, rfl, ?_⟩
 refine mv z<|cK z z<|cK z z<|cK z z<|aj z<|aj z<|aj z<|nl<|av _ _ _<|sr fun a5 aF=>mv z<|mv z<|bK H fun P hC H=>?_
 refine jS 4 aC [(13, int .i64 am), (14, int .i64 J), (16, int .i64 ax), (17, int .i64 K), (61, bool P)] (bx W [int .i64 a.Scale, int .i64 a.Line, int .i64 a.Align, int .i64 a.Dir, int .i64 a.Width, int .i64 a.Y] 30 :: bx U [int .i64 a10.Before, int .i64 a10.Behind, slice k a10.Keep.length l] 28 :: bx S [slice g a1.Glyphs.length h, slice i a1.Kerns.length j] 25 :: tk (slice aA aw.length aB) 5 50 :: tk (slice ao al.length ap) 5 50 :: L) ?_ fun _ a6 A=>?_
 refine have H:=hC;dC (aa = true) (fun c=>?_) fun c=>?_
 refine yK c H fun H=>mv (hw:=gY z z z (vY c)) z<|mv (hw:=gY z z z (vY c)) z<|bK H fun a7 aG H=>cv (hw:=gY z z z (vY c)) Dd (j0 aG O aq (Dat.mono M ar) aD aE) z z fun a8 aH=>bR (vY c) z<|nl<|have aI:=Hp.pick 5 [2, 3, 4, 0, 1] aH z;?_
 cases H
 exact je ⟨z, z, z, z, z, tv⟩ aI
 refine nK c H fun H=>Sk 3 z z (vN c) z<|b7 (vN c) z<|nl<|have aJ:=Hp.pick 5 [2, 3, 4, 0, 1] O z;?_
 cases H
 exact je ⟨z, z, z, z, z, tv⟩ aJ
 refine mv z<|bK H fun Q hC H=>js 4 A [(14, int .i64 J), (17, int .i64 K), (66, bool Q)] ?_ fun _ a9 B=>?_
 refine have H:=hC;dC (P = true) (fun d=>?_) fun d=>?_
 refine yK d H fun H=>mv (hw:=gY z z z (vY d)) z<|mv (hw:=gY z z z (vY d)) z<|bA (hw:=gY z z z (vY d)) z z<|bR (vY d) z<|nl<|?_
 cases H
 exact je ⟨z, z, z, tv⟩ A
 refine nK d H fun H=>Sk 3 z z (vN d) z<|b7 (vN d) z<|nl<|?_
 cases H
 exact je ⟨z, z, z, tv⟩ A
 refine mv z<|bK H fun aK hC H=>js 4 B [(71, bool aK)] ?_ fun _ ba aL=>?_
 refine have H:=hC;dC (Q = true) (fun f=>?_) fun f=>?_
 refine yK f H fun H=>mv (hw:=gY z z z (vY f)) z<|mv (hw:=gY z z z (vY f)) z<|bA (hw:=gY z z z (vY f)) z z<|bR (vY f) z<|nl<|?_
 cases H
 exact je ⟨z, tv⟩ B
 refine nK f H fun H=>Sk 3 z z (vN f) z<|b7 (vN f) z<|nl<|?_
 cases H
 exact je ⟨z, tv⟩ B
 refine aj z<|nl<|aF _ _ _<|wr<|have aM:=Hp.pick 5 [] aL z;?_
 cases H
 exact rt ⟨_, _, z, z, z⟩ (Hp.low (gT o M) aM)
end Go.Proofs.YtaemgcpcfnbmdaaGreatDoor.LG
