/-
  The walks: each function computes its plain function: printed by a program out of the translation.
-/
import Derived.Test.YtlcfemplcaejgaaSg
set_option linter.unusedVariables false
set_option linter.unusedSimpArgs false
set_option maxRecDepth 100000
namespace Go.Proofs.Ytlcfemplcaejgaa.LG
open Go Go.LG Go.RowKit Go.Value
set_option maxHeartbeats 20000000
theorem gI {a1 m} {a7 : List Bool} {F J A8 c9 aV G L w} (H : dF a1 m a7 = some aV) (hI : Hp G L w) (az : m.length ≤ J) (am : Dat ah G F m) (aB : a7.length ≤ c9) (aC : Dat Kd.bool G A8 a7) :
    Calls Try.prog 4 [agg [int .i64 a1.Width, int .i64 a1.Height, int .i64 a1.Columns, int .i64 a1.Gap, int .i64 a1.Scale, int .i64 a1.Lang].toArray, slice F m.length J, slice A8 a7.length c9].toArray w fun e w' => Hp G L w' ∧ e = .returned (bool aV) := by
 refine aw (N := 137) Try.func4 z z (Nat.le_of_ble_eq_true z)<|?_
 unfold dF at H
 refine sr fun du bz=>jW hI z z fun i dv bA=>aK z<|nl<|bz _ _ _<|sr fun dw bB=>bK H fun S bC H=>cv bo6 (jb bC bA) z z fun dy aW=>aK z<|nl<|bB _ _ _<|sQ fun dz bD=>sr fun dB bE=>gg aW 0 k6 z z z z<|?_
 refine mv z<|mv z<|bK H fun bF bG H=>cv bo7 (iE bG aW az am aB aC) z z fun dD aD=>bV z<|nl<|bE _ _ _<|dC ((!bF) = true) (fun U=>?_) fun U=>?_
 refine yK U H fun H=>wt (vY U)<|sr fun dE bI=>mv z<|aK z<|nl<|bI _ _ _<|wr<|have bJ:=Hp.pick 1 [] aD z;?_
 cases H
 exact rt ⟨_, _, z, z, z⟩ bJ
 refine nK U H fun H=>wf (vN U)<|ws<|bD _ _ _<|sr fun dG bM=>gg aD 0 k6 z z z z<|mv z<|mv z<|ms H fun y47 bP bR H=>ft (vs := [agg [int .i64 a1.Width, int .i64 a1.Height, int .i64 a1.Columns, int .i64 a1.Gap, int .i64 a1.Scale, int .i64 a1.Lang].toArray, slice F m.length J, slice A8 a7.length c9]) qY z z (dZ bR aD az am aB aC)<|?_
 rintro _ dH ⟨k, l, dI, V, aX, dK, bS, dL, rfl⟩
 refine ⟨_, rfl, ?_⟩
 refine mv z<|ls z z<|ls z z<|aK z<|aK z<|nl<|bM _ _ _<|sQ fun dM bT=>sr fun dN bU=>mv z<|lx z z<|nl<|bU _ _ _<|dC (¬ bP = 0) (fun W=>?_) fun W=>?_
 refine yK W H fun H=>wt (bY W)<|sr fun dO bW=>aK z<|nl<|bW _ _ _<|wr<|have bX:=Hp.pick 2 [] aX z;?_
 cases H
 exact rt ⟨_, _, z, z, z⟩ (Hp.low V bX)
 refine nK W H fun H=>wf (bN W)<|ws<|bT _ _ _<|sr fun dP bZ=>mv z<|mv z<|ms H fun b y b0 H=>ft (vs := [slice F m.length J, slice A8 a7.length c9]) bo10 z z (i0 b0 aX az (Dat.mono V am) aB (Dat.mono V aC))<|?_
 rintro _ dQ ⟨g, q, h, A, B, p, aE, b1, an, aY, dS, dT, dU, rfl⟩
 refine ⟨_, rfl, ?_⟩
 refine mv z<|ls z z<|ls z z<|aK z<|aK z<|nl<|bZ _ _ _<|sr fun dV b2=>aK z<|aK z<|nl<|b2 _ _ _<|sQ fun dW b3=>sr fun dX b4=>?_
 refine mv z<|gC o9 z an<|mv z<|nl<|b4 _ _ _<|wb<|bK H fun s hC H=>?_
 refine aP (Q := fun e r ds w => e = .exit 0 ∧ ds = [] ∧ Has [(1, slice F m.length J), (3, pointer (some ⟨i, 0, none⟩)), (7, bool S), (8, slice k y47.length l), (10, slice g q h), (12, int .i64 s), (13, int .i64 0)] r ∧ Hp p (bx i [int .i64 a1.Width, int .i64 a1.Height, int .i64 a1.Columns, int .i64 a1.Gap, int .i64 a1.Scale, int .i64 a1.Lang] 23 :: tk (slice A y.length B) 8 36 :: tk (slice k y47.length l) 2 34 :: bO p aR g [] b [] h 42 :: L) w ∧ True) ?_ ?_
 refine have b5:=Hp.pick 4 [3, 1, 2, 0] b1 z;bH fun I E=>?_
 refine bp.partial_correctness b (fun ao d o => ∀ (r : Rg) (w : World), Has [(1, slice F m.length J), (3, pointer (some ⟨i, 0, none⟩)), (7, bool S), (8, slice k y47.length l), (10, slice g q h), (12, int .i64 ao), (13, int .i64 0), (47, slice g q h), (48, int .i64 (b.length : Int)), (49, int .i64 d)] r → Hp p (bx i [int .i64 a1.Width, int .i64 a1.Height, int .i64 a1.Columns, int .i64 a1.Gap, int .i64 a1.Scale, int .i64 a1.Lang] 23 :: tk (slice A y.length B) 8 36 :: tk (slice k y47.length l) 2 34 :: bO p aR g [] b [] h 42 :: L) w → o = s → I r [] w) ?_ 0 0 _ hC _ _ ⟨rfl, rfl, rfl, rfl, rfl, rfl, rfl, rfl, rfl, rfl, tv⟩ b5 rfl
 intro _ ih ao d o H r dY f aG ho
 rw [ho] at H; clear ho
 rw [f.eq]; clear f
 refine E _ _ _<|sr fun d0 b7=>cZ z z<|nl<|b7 _ _ _<|sQ fun d1 b8=>dC (d < (b.length : Int)) (fun Z=>?_) fun Z=>?_
 refine yK Z H fun H=>wt (bY Z)<|ws<|b8 _ _ _<|sQ fun d2 b9=>wb<|sr fun d3 ca=>iK H fun⟨aH, cb⟩H=>have aI:=iy an cb;?_
 obtain ⟨d4, aZ⟩ := Mw.ad aY aH aI
 refine bL iu z aZ z aH aI<|?_
 obtain ⟨_, cc, _, cd⟩ := Hp.rwGet aG 3 rfl aY an aZ ab aH aI
 obtain ⟨aJ, aL, d5, ce, ap, aq, d6, cf, rfl⟩ := jg cc
 refine lP (cs := [slice aJ ((b.getD (Int.toNat d) ab).Slices).length aL, slice ap ((b.getD (Int.toNat d) ab).Notes).length aq, int .i64 ((b.getD (Int.toNat d) ab).End), bool ((b.getD (Int.toNat d) ab).Kept)]) ra z z cd<|bQ aG pr fun a0 d7 cg=>f5 cg 0 ra z z z z z z z fun d8 ch=>nl<|ca _ _ _<|sQ fun d9 ci=>?_
 refine ie dJ (by kernel_rfl) ?_
 refine have ac:=ch.drew;wq (fa kf z bc) z<|wq (ld ac 0 bb z z z bc) z<|wq (fa jT z bc) z<|wq (ld ac 0 cB z z z bc) z<|iK H fun⟨a3, a4⟩H=>?_
 obtain ⟨ea, eb, cj, ck, ec, cl⟩ := Dat.get ce aa (0) a3 a4
 obtain ⟨rfl⟩ := aF ck
 refine wq (bL cA z cj z a3 a4 bc) z<|wq (eS bn z z bc) z<|wq (et ac bb z (gR.cel _ _ (cl 3 _ z)) bc) z<|wq (b6 z z bc) z<|wq (aK z bc) z<|iM<|ci _ _ _<|sQ fun ed cn=>sr fun ee co=>fa lU z<|ld ac 0 cB z z z<|q_len dA z<|mv z<|nl<|?_
 refine co _ _ _<|wb<|bK H fun a5 hC H=>?_
 refine aP (Q := fun e r ds w => e = .exit 2 ∧ ds = [] ∧ Has [(1, slice F m.length J), (3, pointer (some ⟨i, 0, none⟩)), (7, bool S), (8, slice k y47.length l), (10, slice g q h), (12, int .i64 ao), (13, int .i64 0), (16, int .i64 a5), (47, slice g q h), (48, int .i64 (b.length : Int)), (49, int .i64 d)] r ∧ Hp p (bx a0 [slice aJ ((b.getD (Int.toNat d) ab).Slices).length aL, slice ap ((b.getD (Int.toNat d) ab).Notes).length aq, int .i64 ((b.getD (Int.toNat d) ab).End), bool ((b.getD (Int.toNat d) ab).Kept)] 42 :: bx i [int .i64 a1.Width, int .i64 a1.Height, int .i64 a1.Columns, int .i64 a1.Gap, int .i64 a1.Scale, int .i64 a1.Lang] 23 :: tk (slice A y.length B) 8 36 :: tk (slice k y47.length l) 2 34 :: bO p aR g [] b [] h 42 :: L) w ∧ True) ?_ ?_
 refine bH fun I E=>?_
 refine bq.partial_correctness b d (fun a6 t o => ∀ (r : Rg) (w : World), Has [(1, slice F m.length J), (3, pointer (some ⟨i, 0, none⟩)), (7, bool S), (8, slice k y47.length l), (10, slice g q h), (12, int .i64 ao), (13, int .i64 0), (16, int .i64 a6), (47, slice g q h), (48, int .i64 (b.length : Int)), (49, int .i64 d), (62, slice ap ((b.getD (Int.toNat d) ab).Notes).length aq), (63, int .i64 (((b.getD (Int.toNat d) ab).Notes).length : Int)), (64, int .i64 t)] r → Hp p (bx a0 [slice aJ ((b.getD (Int.toNat d) ab).Slices).length aL, slice ap ((b.getD (Int.toNat d) ab).Notes).length aq, int .i64 ((b.getD (Int.toNat d) ab).End), bool ((b.getD (Int.toNat d) ab).Kept)] 42 :: bx i [int .i64 a1.Width, int .i64 a1.Height, int .i64 a1.Columns, int .i64 a1.Gap, int .i64 a1.Scale, int .i64 a1.Lang] 23 :: tk (slice A y.length B) 8 36 :: tk (slice k y47.length l) 2 34 :: bO p aR g [] b [] h 42 :: L) w → o = a5 → I r [] w) ?_ (aj (((b.getD (Int.toNat d) ab).End) - ((((b.getD (Int.toNat d) ab).Slices).getD (Int.toNat 0) aa).Y))) 0 _ hC _ _ ⟨rfl, rfl, rfl, rfl, rfl, rfl, rfl, rfl, rfl, rfl, rfl, rfl, rfl, rfl, tv⟩ ac rfl
 intro _ ih a6 t o H r ef f aM ho
 rw [ho] at H; clear ho
 rw [f.eq]; clear f
 refine E _ _ _<|sr fun eg cp=>cZ z z<|nl<|cp _ _ _<|sQ fun eh cq=>dC (t < (((b.getD (Int.toNat d) ab).Notes).length : Int)) (fun ae=>?_) fun ae=>?_
 refine yK ae H fun H=>wt (bY ae)<|ws<|cq _ _ _<|sQ fun ej cr=>wb<|sr fun ek ct=>iK H fun⟨a8, a9⟩H=>?_
 obtain ⟨el, em, cu, cw, en, cx⟩ := Dat.get cf aa (t) a8 a9
 obtain ⟨rfl⟩ := aF cw
 refine bL cA z cu z a8 a9<|fq aM dx z (cs := [int .i64 ((((b.getD (Int.toNat d) ab).Notes).getD (Int.toNat t) aa).Node), int .i64 ((((b.getD (Int.toNat d) ab).Notes).getD (Int.toNat t) aa).Table), int .i64 ((((b.getD (Int.toNat d) ab).Notes).getD (Int.toNat t) aa).X), int .i64 ((((b.getD (Int.toNat d) ab).Notes).getD (Int.toNat t) aa).Y), int .i64 ((((b.getD (Int.toNat d) ab).Notes).getD (Int.toNat t) aa).H), string ((((b.getD (Int.toNat d) ab).Notes).getD (Int.toNat t) aa).Text), bool ((((b.getD (Int.toNat d) ab).Notes).getD (Int.toNat t) aa).Head), bool ((((b.getD (Int.toNat d) ab).Notes).getD (Int.toNat t) aa).Note)]) z (fun j v hv => gR.cel _ _ (cx j v hv))<|bQ aM cP fun eo ep cy=>f5 cy 0 dx z z z z z z z fun er ba=>nl<|ct _ _ _<|aA<|mv z<|fa cm z<|ld ba 0 bb z z z<|bm z z<|aK z<|nl<|cr _ _ _<|?_
 exact aA<|bm z z<|mv z<|nl<|have cz:=Hp.pick 6 [1, 2, 3, 4, 5] ba z;ih _ _ _ H _ _ ⟨z, z, z, z, z, z, z, z, z, z, z, z, z, z, tv⟩ cz z
 refine nK ae H fun H=>wf (bN ae)<|wx<|?_
 cases H
 exact ⟨z, z, ⟨z, z, z, z, z, z, z, z, z, z, z, tv⟩, aM, tv⟩
 rintro e r ds es ⟨rfl, rfl, f, cC, _⟩
 rw [f.eq]; clear f
 exact cn _ _ _<|aA<|mv z<|mv z<|dR z z<|aK z<|nl<|b9 _ _ _<|aA<|bm z z<|mv z<|nl<|have cD:=Hp.pick 5 [1, 2, 3, 4] cC z;ih _ _ _ H _ _ ⟨z, z, z, z, z, z, z, z, z, z, tv⟩ cD z
 refine nK Z H fun H=>wf (bN Z)<|wx<|?_
 cases H
 exact ⟨z, z, ⟨z, z, z, z, z, z, z, tv⟩, aG, tv⟩
 rintro e r ds eu ⟨rfl, rfl, f, cE, _⟩
 rw [f.eq]; clear f
 refine b3 _ _ _<|sQ fun ev cF=>sr fun ex cG=>mv z<|q_len dA z<|mv z<|nl<|cG _ _ _<|wb<|bK H fun u hC H=>?_
 refine aP (Q := fun e r ds w => e = .exit 4 ∧ ds = [] ∧ Has [(3, pointer (some ⟨i, 0, none⟩)), (7, bool S), (8, slice k y47.length l), (10, slice g q h), (12, int .i64 s), (13, int .i64 u)] r ∧ Hp p (bx i [int .i64 a1.Width, int .i64 a1.Height, int .i64 a1.Columns, int .i64 a1.Gap, int .i64 a1.Scale, int .i64 a1.Lang] 23 :: tk (slice A y.length B) 8 36 :: tk (slice k y47.length l) 2 34 :: bO p aR g [] b [] h 42 :: L) w ∧ True) ?_ ?_
 refine bH fun I E=>?_
 refine bv.partial_correctness m (fun bd x o => ∀ (r : Rg) (w : World), Has [(3, pointer (some ⟨i, 0, none⟩)), (7, bool S), (8, slice k y47.length l), (10, slice g q h), (12, int .i64 s), (13, int .i64 bd), (77, slice F m.length J), (78, int .i64 (m.length : Int)), (79, int .i64 x)] r → Hp p (bx i [int .i64 a1.Width, int .i64 a1.Height, int .i64 a1.Columns, int .i64 a1.Gap, int .i64 a1.Scale, int .i64 a1.Lang] 23 :: tk (slice A y.length B) 8 36 :: tk (slice k y47.length l) 2 34 :: bO p aR g [] b [] h 42 :: L) w → o = u → I r [] w) ?_ 0 0 _ hC _ _ ⟨rfl, rfl, rfl, rfl, rfl, rfl, rfl, rfl, rfl, tv⟩ cE rfl
 intro _ ih bd x o H r ey f aN ho
 rw [ho] at H; clear ho
 rw [f.eq]; clear f
 refine E _ _ _<|sr fun ez cH=>cZ z z<|nl<|cH _ _ _<|sQ fun eA cI=>dC (x < (m.length : Int)) (fun af=>?_) fun af=>?_
 refine yK af H fun H=>wt (bY af)<|ws<|cI _ _ _<|sQ fun eB cJ=>wb<|sr fun eC cK=>iK H fun⟨be, bf⟩H=>?_
 obtain ⟨eD, eE, cL, cM, eF, cN⟩ := Dat.get (Dat.mono (gT V aE) am) aa (x) be bf
 obtain ⟨rfl⟩ := aF cM
 refine bL cA z cL z be bf<|fq aN dx z (cs := [int .i64 ((m.getD (Int.toNat x) aa).Node), int .i64 ((m.getD (Int.toNat x) aa).Table), int .i64 ((m.getD (Int.toNat x) aa).X), int .i64 ((m.getD (Int.toNat x) aa).Y), int .i64 ((m.getD (Int.toNat x) aa).H), string ((m.getD (Int.toNat x) aa).Text), bool ((m.getD (Int.toNat x) aa).Head), bool ((m.getD (Int.toNat x) aa).Note)]) z (fun j v hv => gR.cel _ _ (cN j v hv))<|bQ aN cP fun eG eH cO=>f5 cO 0 dx z z z z z z z fun eI bg=>nl<|cK _ _ _<|aA<|mv z<|fa hY z<|ld bg 0 bb z z z<|qw z z<|aK z<|nl<|cJ _ _ _<|?_
 exact aA<|bm z z<|mv z<|nl<|have cQ:=Hp.pick 5 [1, 2, 3, 4] bg z;ih _ _ _ H _ _ ⟨z, z, z, z, z, z, z, z, z, tv⟩ cQ z
 refine nK af H fun H=>wf (bN af)<|wx<|?_
 cases H
 exact ⟨z, z, ⟨z, z, z, z, z, z, tv⟩, aN, tv⟩
 rintro e r ds eJ ⟨rfl, rfl, f, cR, _⟩
 rw [f.eq]; clear f
 refine cF _ _ _<|sQ fun eK cS=>sr fun eL cT=>mv z<|q_len kH z<|mv z<|nl<|cT _ _ _<|wb<|bK H fun bh hC H=>?_
 refine aP (Q := fun e r ds w => e = .exit 6 ∧ ds = [] ∧ Has [(7, bool bh)] r ∧ Hp p (bx i [int .i64 a1.Width, int .i64 a1.Height, int .i64 a1.Columns, int .i64 a1.Gap, int .i64 a1.Scale, int .i64 a1.Lang] 23 :: tk (slice A y.length B) 8 36 :: tk (slice k y47.length l) 2 34 :: bO p aR g [] b [] h 42 :: L) w ∧ True) ?_ ?_
 refine bH fun I E=>?_
 refine bw.partial_correctness a1 y47 b s u (fun aO a o => ∀ (r : Rg) (w : World), Has [(3, pointer (some ⟨i, 0, none⟩)), (7, bool aO), (10, slice g q h), (12, int .i64 s), (13, int .i64 u), (88, slice k y47.length l), (89, int .i64 (y47.length : Int)), (90, int .i64 a)] r → Hp p (bx i [int .i64 a1.Width, int .i64 a1.Height, int .i64 a1.Columns, int .i64 a1.Gap, int .i64 a1.Scale, int .i64 a1.Lang] 23 :: tk (slice A y.length B) 8 36 :: tk (slice k y47.length l) 2 34 :: bO p aR g [] b [] h 42 :: L) w → o = bh → I r [] w) ?_ S 0 _ hC _ _ ⟨rfl, rfl, rfl, rfl, rfl, rfl, rfl, rfl, tv⟩ cR rfl
 intro _ ih aO a o H r eM f aQ ho
 rw [ho] at H; clear ho
 rw [f.eq]; clear f
 refine E _ _ _<|sr fun eN cU=>cZ z z<|nl<|cU _ _ _<|sQ fun eO cV=>dC (a < (y47.length : Int)) (fun ag=>?_) fun ag=>?_
 refine yK ag H fun H=>wt (bY ag)<|ws<|cV _ _ _<|sQ fun eP cW=>wb<|sr fun eQ cX=>iK H fun⟨bi, bj⟩H=>?_
 obtain ⟨eR, eT, c0, c1, eU, c2⟩ := Dat.get (Dat.mono aE bS) av (a) bi bj
 obtain ⟨K, M, eV, c3, rfl⟩ := ew c1
 refine bL ko z c0 z bi bj<|fq aQ kC z (cs := [int .i64 ((y47.getD (Int.toNat a) av).Number), slice K ((y47.getD (Int.toNat a) av).Slices).length M]) z (fun j v hv => gR.cel _ _ (c2 j v hv))<|bQ aQ ib fun bk eW c5=>f5 c5 0 kC z z z z z z z fun eX bl=>nl<|cX _ _ _<|sr fun eY c6=>fa jf z<|ld bl 0 cB z z z<|q_len dA z<|mv z<|nl<|c6 _ _ _<|wb<|?_
 refine bK H fun bo hC H=>?_
 refine aP (Q := fun e r ds w => e = .exit 8 ∧ ds = [] ∧ Has [(3, pointer (some ⟨i, 0, none⟩)), (7, bool bo), (10, slice g q h), (12, int .i64 s), (13, int .i64 u), (88, slice k y47.length l), (89, int .i64 (y47.length : Int)), (90, int .i64 a)] r ∧ Hp p (bx bk [int .i64 ((y47.getD (Int.toNat a) av).Number), slice K ((y47.getD (Int.toNat a) av).Slices).length M] 34 :: bx i [int .i64 a1.Width, int .i64 a1.Height, int .i64 a1.Columns, int .i64 a1.Gap, int .i64 a1.Scale, int .i64 a1.Lang] 23 :: tk (slice A y.length B) 8 36 :: tk (slice k y47.length l) 2 34 :: bO p aR g [] b [] h 42 :: L) w ∧ True) ?_ ?_
 refine bH fun I E=>?_
 refine bu.partial_correctness a1 y47 b s u a (fun aS c o => ∀ (r : Rg) (w : World), Has [(3, pointer (some ⟨i, 0, none⟩)), (7, bool aS), (10, slice g q h), (12, int .i64 s), (13, int .i64 u), (88, slice k y47.length l), (89, int .i64 (y47.length : Int)), (90, int .i64 a), (95, slice K ((y47.getD (Int.toNat a) av).Slices).length M), (96, int .i64 (((y47.getD (Int.toNat a) av).Slices).length : Int)), (97, int .i64 c)] r → Hp p (bx bk [int .i64 ((y47.getD (Int.toNat a) av).Number), slice K ((y47.getD (Int.toNat a) av).Slices).length M] 34 :: bx i [int .i64 a1.Width, int .i64 a1.Height, int .i64 a1.Columns, int .i64 a1.Gap, int .i64 a1.Scale, int .i64 a1.Lang] 23 :: tk (slice A y.length B) 8 36 :: tk (slice k y47.length l) 2 34 :: bO p aR g [] b [] h 42 :: L) w → o = bo → I r [] w) ?_ aO 0 _ hC _ _ ⟨rfl, rfl, rfl, rfl, rfl, rfl, rfl, rfl, rfl, rfl, rfl, tv⟩ bl rfl
 intro _ ih aS c o H r eZ f aT ho
 rw [ho] at H; clear ho
 rw [f.eq]; clear f
 refine E _ _ _<|sr fun e0 c7=>cZ z z<|nl<|c7 _ _ _<|sQ fun e1 c8=>dC (c < (((y47.getD (Int.toNat a) av).Slices).length : Int)) (fun ai=>?_) fun ai=>?_
 refine yK ai H fun H=>wt (bY ai)<|ws<|c8 _ _ _<|sQ fun e2 da=>wb<|sr fun e3 db=>iK H fun⟨br, bs⟩H=>?_
 obtain ⟨e4, e5, dc, dd, e6, de⟩ := Dat.get c3 aa (c) br bs
 obtain ⟨rfl⟩ := aF dd
 refine bL cA z dc z br bs<|fq aT dx z (cs := [int .i64 ((((y47.getD (Int.toNat a) av).Slices).getD (Int.toNat c) aa).Node), int .i64 ((((y47.getD (Int.toNat a) av).Slices).getD (Int.toNat c) aa).Table), int .i64 ((((y47.getD (Int.toNat a) av).Slices).getD (Int.toNat c) aa).X), int .i64 ((((y47.getD (Int.toNat a) av).Slices).getD (Int.toNat c) aa).Y), int .i64 ((((y47.getD (Int.toNat a) av).Slices).getD (Int.toNat c) aa).H), string ((((y47.getD (Int.toNat a) av).Slices).getD (Int.toNat c) aa).Text), bool ((((y47.getD (Int.toNat a) av).Slices).getD (Int.toNat c) aa).Head), bool ((((y47.getD (Int.toNat a) av).Slices).getD (Int.toNat c) aa).Note)]) z (fun j v hv => gR.cel _ _ (de j v hv))<|bQ aT cP fun T e7 df=>f5 df 0 dx z z z z z z z fun e8 ar=>nl<|db _ _ _<|aA<|mv z<|mv z<|bK H fun bt hC H=>?_
 refine js 4 ar [(3, pointer (some ⟨i, 0, none⟩)), (10, slice g q h), (12, int .i64 s), (13, int .i64 u), (24, pointer (some ⟨T, 0, none⟩)), (88, slice k y47.length l), (89, int .i64 (y47.length : Int)), (90, int .i64 a), (95, slice K ((y47.getD (Int.toNat a) av).Slices).length M), (96, int .i64 (((y47.getD (Int.toNat a) av).Slices).length : Int)), (97, int .i64 c), (106, bool bt)] ?_ fun _ e9 au=>?_
 refine have H:=hC;dC (aS = true) (fun O=>?_) fun O=>?_
 refine yK O H fun H=>fa (hw:=gY z z z (vY O)) bn z<|ld (hw:=gY z z z (vY O)) ar 0 bb z z z<|gS (hw:=gY z z z (vY O)) z z<|cY (vY O) z<|nl<|?_
 cases H
 exact je ⟨z, z, z, z, z, z, z, z, z, z, z, z, tv⟩ ar
 refine nK O H fun H=>Sk 3 z z (vN O) z<|dm (vN O) z<|nl<|?_
 cases H
 exact je ⟨z, z, z, z, z, z, z, z, z, z, z, z, tv⟩ ar
 refine mv z<|bK H fun ax hC H=>?_
 refine js 5 au [(3, pointer (some ⟨i, 0, none⟩)), (10, slice g q h), (12, int .i64 s), (13, int .i64 u), (24, pointer (some ⟨T, 0, none⟩)), (88, slice k y47.length l), (89, int .i64 (y47.length : Int)), (90, int .i64 a), (95, slice K ((y47.getD (Int.toNat a) av).Slices).length M), (96, int .i64 (((y47.getD (Int.toNat a) av).Slices).length : Int)), (97, int .i64 c), (112, bool ax)] ?_ fun _ fb P=>?_
 refine have H:=hC;dC (bt = true) (fun C=>?_) fun C=>?_
 refine yK C H fun H=>fa (hw:=gY z z z (vY C)) hY z<|ld (hw:=gY z z z (vY C)) au 0 bb z z z<|mv (hw:=gY z z z (vY C)) z<|gS (hw:=gY z z z (vY C)) z z<|cY (vY C) z<|nl<|?_
 cases H
 exact je ⟨z, z, z, z, z, z, z, z, z, z, z, z, tv⟩ au
 refine nK C H fun H=>Sk 4 z z (vN C) z<|dm (vN C) z<|nl<|?_
 cases H
 exact je ⟨z, z, z, z, z, z, z, z, z, z, z, z, tv⟩ au
 refine mv z<|bK H fun dg hC H=>?_
 refine js 20 P [(3, pointer (some ⟨i, 0, none⟩)), (10, slice g q h), (12, int .i64 s), (13, int .i64 u), (88, slice k y47.length l), (89, int .i64 (y47.length : Int)), (90, int .i64 a), (95, slice K ((y47.getD (Int.toNat a) av).Slices).length M), (96, int .i64 (((y47.getD (Int.toNat a) av).Slices).length : Int)), (97, int .i64 c), (133, bool dg)] ?_ fun _ fc dh=>?_
 refine have H:=hC;dC (ax = true) (fun n=>?_) fun n=>?_
 refine yK n H fun H=>fa (hw:=gY z z z (vY n)) bn z<|ld (hw:=gY z z z (vY n)) P 0 bb z z z<|fa (hw:=gY z z z (vY n)) cm z<|ld (hw:=gY z z z (vY n)) P 0 bb z z z<|bm (hw:=gY z z z (vY n)) z z<|fa (hw:=gY z z z (vY n)) gZ z<|ld (hw:=gY z z z (vY n)) P 2 bb z z z<|dq (hw:=gY z z z (vY n)) z z<|mv (hw:=gY z z z (vY n)) z<|bK H fun ay hC H=>?_
 refine js 5 P [(3, pointer (some ⟨i, 0, none⟩)), (10, slice g q h), (12, int .i64 s), (13, int .i64 u), (88, slice k y47.length l), (89, int .i64 (y47.length : Int)), (90, int .i64 a), (95, slice K ((y47.getD (Int.toNat a) av).Slices).length M), (96, int .i64 (((y47.getD (Int.toNat a) av).Slices).length : Int)), (97, int .i64 c), (113, bool ax), (114, pointer (some ⟨T, 3, none⟩)), (115, int .i64 ((((y47.getD (Int.toNat a) av).Slices).getD (Int.toNat c) aa).Y)), (116, pointer (some ⟨T, 4, none⟩)), (117, int .i64 ((((y47.getD (Int.toNat a) av).Slices).getD (Int.toNat c) aa).H)), (118, int .i64 (aj (((((y47.getD (Int.toNat a) av).Slices).getD (Int.toNat c) aa).Y) + ((((y47.getD (Int.toNat a) av).Slices).getD (Int.toNat c) aa).H)))), (119, pointer (some ⟨i, 1, none⟩)), (120, int .i64 a1.Height), (121, bool (decide ((aj (((((y47.getD (Int.toNat a) av).Slices).getD (Int.toNat c) aa).Y) + ((((y47.getD (Int.toNat a) av).Slices).getD (Int.toNat c) aa).H))) ≤ a1.Height))), (122, bool (decide ((aj (((((y47.getD (Int.toNat a) av).Slices).getD (Int.toNat c) aa).Y) + ((((y47.getD (Int.toNat a) av).Slices).getD (Int.toNat c) aa).H))) ≤ a1.Height))), (127, bool ay)] ?_ fun _ fd aU=>?_
 refine have H:=hC;dC ((aj (((((y47.getD (Int.toNat a) av).Slices).getD (Int.toNat c) aa).Y) + ((((y47.getD (Int.toNat a) av).Slices).getD (Int.toNat c) aa).H))) ≤ a1.Height) (fun D=>?_) fun D=>?_
 refine yK D H fun H=>Sk 4 z z (bY D) z<|cY (hw:=gY z z z (vY n)) (bY D) z<|nl<|?_
 cases H
 exact je ⟨z, z, z, z, z, z, z, z, z, z, z, z, z, z, z, z, z, z, z, z, z, tv⟩ P
 refine nK D H fun H=>mv (hw:=gY z z z (bN D)) z<|fa (hw:=gY z z z (bN D)) gZ z<|ld (hw:=gY z z z (bN D)) P 2 bb z z z<|gq (hw:=gY z z z (bN D)) z z<|dm (hw:=gY z z z (vY n)) (bN D) z<|nl<|?_
 cases H
 exact je ⟨z, z, z, z, z, z, z, z, z, z, z, z, z, z, z, z, z, z, z, z, z, tv⟩ P
 refine mv (hw:=gY z z z (vY n)) z<|bK H fun di hC H=>?_
 refine js 4 aU [(3, pointer (some ⟨i, 0, none⟩)), (10, slice g q h), (12, int .i64 s), (13, int .i64 u), (88, slice k y47.length l), (89, int .i64 (y47.length : Int)), (90, int .i64 a), (95, slice K ((y47.getD (Int.toNat a) av).Slices).length M), (96, int .i64 (((y47.getD (Int.toNat a) av).Slices).length : Int)), (97, int .i64 c), (113, bool ax), (114, pointer (some ⟨T, 3, none⟩)), (115, int .i64 ((((y47.getD (Int.toNat a) av).Slices).getD (Int.toNat c) aa).Y)), (116, pointer (some ⟨T, 4, none⟩)), (117, int .i64 ((((y47.getD (Int.toNat a) av).Slices).getD (Int.toNat c) aa).H)), (118, int .i64 (aj (((((y47.getD (Int.toNat a) av).Slices).getD (Int.toNat c) aa).Y) + ((((y47.getD (Int.toNat a) av).Slices).getD (Int.toNat c) aa).H)))), (119, pointer (some ⟨i, 1, none⟩)), (120, int .i64 a1.Height), (121, bool (decide ((aj (((((y47.getD (Int.toNat a) av).Slices).getD (Int.toNat c) aa).Y) + ((((y47.getD (Int.toNat a) av).Slices).getD (Int.toNat c) aa).H))) ≤ a1.Height))), (122, bool (decide ((aj (((((y47.getD (Int.toNat a) av).Slices).getD (Int.toNat c) aa).Y) + ((((y47.getD (Int.toNat a) av).Slices).getD (Int.toNat c) aa).H))) ≤ a1.Height))), (127, bool ay), (128, bool ay), (132, bool di)] ?_ fun _ fe dj=>?_
 refine have H:=hC;dC (ay = true) (fun R=>?_) fun R=>?_
 refine yK R H fun H=>Sk 3 z z (vY R) z<|cY (hw:=gY z z z (vY n)) (vY R) z<|nl<|?_
 cases H
 exact je ⟨z, z, z, z, z, z, z, z, z, z, z, z, z, z, z, z, z, z, z, z, z, z, z, tv⟩ aU
 refine nK R H fun H=>mv (hw:=gY z z z (vN R)) z<|gC (hw:=gY z z z (vN R)) o9 z an<|ei (hw:=gY z z z (vN R)) z z<|dm (hw:=gY z z z (vY n)) (vN R) z<|nl<|?_
 cases H
 exact je ⟨z, z, z, z, z, z, z, z, z, z, z, z, z, z, z, z, z, z, z, z, z, z, z, tv⟩ aU
 refine cY (vY n) z<|nl<|?_
 cases H
 exact je ⟨z, z, z, z, z, z, z, z, z, z, z, tv⟩ dj
 refine nK n H fun H=>Sk 9 z z (vN n) z<|Su 4 z<|Sk 2 z z (vN n) z<|Su 3 z<|wN (gN z z z (vN n) z)<|dm (vN n) z<|nl<|?_
 cases H
 exact je ⟨z, z, z, z, z, z, z, z, z, z, z, tv⟩ P
 exact aK z<|nl<|da _ _ _<|aA<|bm z z<|mv z<|nl<|have dk:=Hp.pick 6 [1, 2, 3, 4, 5] dh z;ih _ _ _ H _ _ ⟨z, z, z, z, z, z, z, z, z, z, z, tv⟩ dk z
 refine nK ai H fun H=>wf (bN ai)<|wx<|?_
 cases H
 exact ⟨z, z, ⟨z, z, z, z, z, z, z, z, tv⟩, aT, tv⟩
 rintro e r ds ff ⟨rfl, rfl, f, dl, _⟩
 rw [f.eq]; clear f
 exact cW _ _ _<|aA<|bm z z<|mv z<|nl<|have dn:=Hp.pick 5 [1, 2, 3, 4] dl z;ih _ _ _ H _ _ ⟨z, z, z, z, z, z, z, z, tv⟩ dn z
 refine nK ag H fun H=>wf (bN ag)<|wx<|?_
 cases H
 exact ⟨z, z, ⟨z, tv⟩, aQ, tv⟩
 rintro e r ds fg ⟨rfl, rfl, f, dp, _⟩
 rw [f.eq]; clear f
 refine cS _ _ _<|sr fun fh dr=>mv z<|aK z<|nl<|dr _ _ _<|wr<|have dt:=Hp.pick 4 [] dp z;?_
 cases H
 exact rt ⟨_, _, z, z, z⟩ (Hp.low (gT V aE) dt)
end Go.Proofs.Ytlcfemplcaejgaa.LG
