/-
  The walks: each function computes its plain function: printed by a program out of the translation.
-/
import Derived.Test.YtlcfemplcaejgaaSe
set_option linter.unusedVariables false
set_option linter.unusedSimpArgs false
set_option maxRecDepth 100000
namespace Go.Proofs.Ytlcfemplcaejgaa.LG
open Go Go.LG Go.RowKit Go.Value
set_option maxHeartbeats 20000000
theorem jb {bQ G L w} (H : dD = some bQ) (hI : Hp G L w) :
    Calls Try.prog 6 [].toArray w fun e w' => Hp G L w' ∧ e = .returned (bool bQ) := by
 refine aw (N := 118) Try.func6 z z (Nat.le_of_ble_eq_true z)<|?_
 unfold dD at H
 refine sr fun K1 cm=>aK z<|nl<|cm _ _ _<|sQ fun K3 cn=>bK H fun j bR H=>bK H fun ao bS H=>iK H fun⟨bT, bU, bW⟩H=>ms H fun am aI co H=>?_
 refine aM [0, 1, 0, 7, 15, 31, 31, 63, 255] (fun D r w => (D 1 = false ∧ D 2 = false ∧ D 3 = false ∧ ∃ (G' : Gh), G ≤ G' ∧ ag [] [] [(0, 15, agg [int .i64 j.Width, int .i64 j.Height, int .i64 j.Columns, int .i64 j.Gap, int .i64 j.Scale, int .i64 j.Lang].toArray)] D r ∧ Hp G' (L) w) ∨ (D 1 = true ∧ D 2 = false ∧ D 3 = false ∧ ∃ (o : Option Addr) (p : Nat) (G' : Gh), G ≤ G' ∧ ao.length ≤ p ∧ Dat ah G' o ao ∧ Own o p ∧ ag [] [] [(0, 15, agg [int .i64 j.Width, int .i64 j.Height, int .i64 j.Columns, int .i64 j.Gap, int .i64 j.Scale, int .i64 j.Lang].toArray), (1, 16, slice o ao.length p)] D r ∧ Hp G' (tk (slice o ao.length p) 8 36 :: L) w) ∨ (D 1 = false ∧ D 2 = true ∧ D 3 = false ∧ ∃ (q : Nat) (G' : Gh), G ≤ G' ∧ Dat Kd.bool G' (some ⟨q, 0, none⟩) (List.replicate (Int.toNat 4) false) ∧ ag [] [] [(0, 15, agg [int .i64 j.Width, int .i64 j.Height, int .i64 j.Columns, int .i64 j.Gap, int .i64 j.Scale, int .i64 j.Lang].toArray), (2, 17, slice (some ⟨q, 0, none⟩) (List.replicate (Int.toNat 4) false).length ((List.replicate (Int.toNat 4) false).length))] D r ∧ Hp G' (tk (slice (some ⟨q, 0, none⟩) (List.replicate (Int.toNat 4) false).length ((List.replicate (Int.toNat 4) false).length)) 1 4 :: L) w) ∨ (D 1 = true ∧ D 2 = true ∧ D 3 = false ∧ ∃ (o : Option Addr) (p : Nat) (q : Nat) (G' : Gh), G ≤ G' ∧ ao.length ≤ p ∧ Dat ah G' o ao ∧ Own o p ∧ Dat Kd.bool G' (some ⟨q, 0, none⟩) (List.replicate (Int.toNat 4) false) ∧ ag [] [] [(0, 15, agg [int .i64 j.Width, int .i64 j.Height, int .i64 j.Columns, int .i64 j.Gap, int .i64 j.Scale, int .i64 j.Lang].toArray), (1, 16, slice o ao.length p), (2, 17, slice (some ⟨q, 0, none⟩) (List.replicate (Int.toNat 4) false).length ((List.replicate (Int.toNat 4) false).length))] D r ∧ Hp G' (tk (slice (some ⟨q, 0, none⟩) (List.replicate (Int.toNat 4) false).length ((List.replicate (Int.toNat 4) false).length)) 1 4 :: tk (slice o ao.length p) 8 36 :: L) w) ∨ (D 1 = true ∧ D 2 = true ∧ D 3 = true ∧ ∃ (o : Option Addr) (p : Nat) (q : Nat) (E : Option Addr) (F : Nat) (G' : Gh), G ≤ G' ∧ ao.length ≤ p ∧ Dat ah G' o ao ∧ Own o p ∧ Dat Kd.bool G' (some ⟨q, 0, none⟩) (List.replicate (Int.toNat 4) false) ∧ am.length ≤ F ∧ Dat br G' E am ∧ Own E F ∧ ag [] [] [(0, 15, agg [int .i64 j.Width, int .i64 j.Height, int .i64 j.Columns, int .i64 j.Gap, int .i64 j.Scale, int .i64 j.Lang].toArray), (1, 16, slice o ao.length p), (2, 17, slice (some ⟨q, 0, none⟩) (List.replicate (Int.toNat 4) false).length ((List.replicate (Int.toNat 4) false).length)), (3, 18, tuple [slice E am.length F, int .i64 aI].toArray), (4, 14, tuple [slice E am.length F, int .i64 aI].toArray), (5, 19, slice E am.length F), (6, 20, int .i64 aI), (7, 1, slice E am.length F), (8, 2, int .i64 aI)] D r ∧ Hp G' (tk (slice E am.length F) 2 34 :: tk (slice (some ⟨q, 0, none⟩) (List.replicate (Int.toNat 4) false).length ((List.replicate (Int.toNat 4) false).length)) 1 4 :: tk (slice o ao.length p) 8 36 :: L) w)) dJ z z ?_ ?_ ?_
 exact (.inl ⟨z, z, z, _, Gh.le_refl _, ag.start trivial trivial, hI.drew⟩)
 refine ⟨?_, ?_, ?_, ?_, ?_, ?_, ?_, ?_, ?_, tv⟩
 rintro D r aL (⟨a, b, c, B, s, g, t⟩ | ⟨a, b, c, o, p, B, s, K, M, Q, g, t⟩ | ⟨a, b, c, q, B, s, I, g, t⟩ | ⟨a, b, c, o, p, q, B, s, K, M, Q, I, g, t⟩ | ⟨a, b, c, o, p, q, E, F, B, s, K, M, Q, I, au, av, aE, g, t⟩) m d al
 obtain ⟨r0, rfl⟩ := Has.ex (r := r) cN
 exact cv nE (ci bR t) z z fun cp bl=>nl ⟨z, (.inl ⟨a, b, c, _, s, (ag.step g m z z z z), bl⟩)⟩
 cases (al 1 rfl).symm.trans a
 obtain ⟨r0, rfl⟩ := Has.ex (r := r) cN
 exact cv nE (ci bR t) z z fun cp bl=>nl ⟨z, (.inr (.inr (.inl ⟨a, b, c, q, _, s, I, (ag.step g m z z z z), bl⟩)))⟩
 cases (al 1 rfl).symm.trans a
 cases (al 1 rfl).symm.trans a
 rintro D r aL (⟨a, b, c, B, s, g, t⟩ | ⟨a, b, c, o, p, B, s, K, M, Q, g, t⟩ | ⟨a, b, c, q, B, s, I, g, t⟩ | ⟨a, b, c, o, p, q, B, s, K, M, Q, I, g, t⟩ | ⟨a, b, c, o, p, q, E, F, B, s, K, M, Q, I, au, av, aE, g, t⟩) m d al
 obtain ⟨r0, rfl⟩ := Has.ex (r := r) cN
 refine ft (vs := []) nF z z (cx bS t)<|?_
 rintro _ cq ⟨o, p, cr, bf, bm, K, M, Q, rfl⟩
 refine ⟨_, rfl, ?_⟩
 exact nl ⟨z, (.inr (.inl ⟨z, b, c, o, p, _, (gT s bf), K, M, Q, (ag.step (ag.re (vals' := [(0, 15, agg [int .i64 j.Width, int .i64 j.Height, int .i64 j.Columns, int .i64 j.Gap, int .i64 j.Scale, int .i64 j.Lang].toArray), (1, 16, slice o ao.length p)]) g (List.forall_mem_cons.2 ⟨.inl (List.mem_of_getElem? (i := 0) z), (List.forall_mem_cons.2 ⟨.inr m, (fun _ h => nomatch h)⟩)⟩)) m z z z z), bm⟩))⟩
 cases m.symm.trans a
 obtain ⟨r0, rfl⟩ := Has.ex (r := r) cN
 refine ft (vs := []) nF z z (cx bS t)<|?_
 rintro _ cq ⟨o, p, cr, bf, bm, K, M, Q, rfl⟩
 refine ⟨_, rfl, ?_⟩
 exact have ct:=Hp.pick 2 [1, 0] bm z;nl ⟨z, (.inr (.inr (.inr (.inl ⟨z, b, c, o, p, q, _, (gT s bf), K, M, Q, (Dat.mono bf I), (ag.step (ag.re (vals' := [(0, 15, agg [int .i64 j.Width, int .i64 j.Height, int .i64 j.Columns, int .i64 j.Gap, int .i64 j.Scale, int .i64 j.Lang].toArray), (1, 16, slice o ao.length p), (2, 17, slice (some ⟨q, 0, none⟩) (List.replicate (Int.toNat 4) false).length ((List.replicate (Int.toNat 4) false).length))]) g (List.forall_mem_cons.2 ⟨.inl (List.mem_of_getElem? (i := 0) z), (List.forall_mem_cons.2 ⟨.inr m, (List.forall_mem_cons.2 ⟨.inl (List.mem_of_getElem? (i := 1) z), (fun _ h => nomatch h)⟩)⟩)⟩)) m z z z z), ct⟩))))⟩
 cases m.symm.trans a
 cases m.symm.trans a
 rintro D r aL (⟨a, b, c, B, s, g, t⟩ | ⟨a, b, c, o, p, B, s, K, M, Q, g, t⟩ | ⟨a, b, c, q, B, s, I, g, t⟩ | ⟨a, b, c, o, p, q, B, s, K, M, Q, I, g, t⟩ | ⟨a, b, c, o, p, q, E, F, B, s, K, M, Q, I, au, av, aE, g, t⟩) m d al
 obtain ⟨r0, rfl⟩ := Has.ex (r := r) cN
 refine nr (kd := Kd.bool) (z := false) t fV qI z z z z bT bU bW fun q cu cw bn bo=>?_
 subst bn
 obtain ⟨cy, bg, bp, I, _, _⟩ := Hp.rwFreeze bo 0 rfl (Mw.new (α := Bool) q _ 1) rfl gR
 exact nl ⟨z, (.inr (.inr (.inl ⟨a, z, c, q, _, (gT s bg), I, (ag.step (ag.re (vals' := [(0, 15, agg [int .i64 j.Width, int .i64 j.Height, int .i64 j.Columns, int .i64 j.Gap, int .i64 j.Scale, int .i64 j.Lang].toArray), (2, 17, slice (some ⟨q, 0, none⟩) (List.replicate (Int.toNat 4) false).length ((List.replicate (Int.toNat 4) false).length))]) g (List.forall_mem_cons.2 ⟨.inl (List.mem_of_getElem? (i := 0) z), (List.forall_mem_cons.2 ⟨.inr m, (fun _ h => nomatch h)⟩)⟩)) m z z z z), bp⟩)))⟩
 obtain ⟨r0, rfl⟩ := Has.ex (r := r) cN
 refine nr (kd := Kd.bool) (z := false) t fV qI z z z z bT bU bW fun q cu cw bn bo=>?_
 subst bn
 obtain ⟨cy, bg, bp, I, _, _⟩ := Hp.rwFreeze bo 0 rfl (Mw.new (α := Bool) q _ 1) rfl gR
 exact nl ⟨z, (.inr (.inr (.inr (.inl ⟨a, z, c, o, p, q, _, (gT s bg), K, (Dat.mono bg M), Q, I, (ag.step (ag.re (vals' := [(0, 15, agg [int .i64 j.Width, int .i64 j.Height, int .i64 j.Columns, int .i64 j.Gap, int .i64 j.Scale, int .i64 j.Lang].toArray), (1, 16, slice o ao.length p), (2, 17, slice (some ⟨q, 0, none⟩) (List.replicate (Int.toNat 4) false).length ((List.replicate (Int.toNat 4) false).length))]) g (List.forall_mem_cons.2 ⟨.inl (List.mem_of_getElem? (i := 0) z), (List.forall_mem_cons.2 ⟨.inl (List.mem_of_getElem? (i := 1) z), (List.forall_mem_cons.2 ⟨.inr m, (fun _ h => nomatch h)⟩)⟩)⟩)) m z z z z), bp⟩))))⟩
 cases m.symm.trans b
 cases m.symm.trans b
 cases m.symm.trans b
 rintro D r aL (⟨a, b, c, B, s, g, t⟩ | ⟨a, b, c, o, p, B, s, K, M, Q, g, t⟩ | ⟨a, b, c, q, B, s, I, g, t⟩ | ⟨a, b, c, o, p, q, B, s, K, M, Q, I, g, t⟩ | ⟨a, b, c, o, p, q, E, F, B, s, K, M, Q, I, au, av, aE, g, t⟩) m d al
 cases (d 1 rfl).symm.trans a
 cases (d 2 rfl).symm.trans b
 cases (d 1 rfl).symm.trans a
 obtain ⟨r0, rfl⟩ := Has.ex (cC (g.get 0 rfl (d 0 rfl)) (cC (g.get 1 rfl (d 1 rfl)) (cC (g.get 2 rfl (d 2 rfl)) cN)))
 refine ft (vs := [agg [int .i64 j.Width, int .i64 j.Height, int .i64 j.Columns, int .i64 j.Gap, int .i64 j.Scale, int .i64 j.Lang].toArray, slice o ao.length p, slice (some ⟨q, 0, none⟩) (List.replicate (Int.toNat 4) false).length ((List.replicate (Int.toNat 4) false).length)]) qY z z (dZ (a7 := List.replicate (Int.toNat 4) false) co t K M (Nat.le_refl _) I)<|?_
 rintro _ ez ⟨E, F, eA, bq, cz, au, av, aE, rfl⟩
 refine ⟨_, rfl, ?_⟩
 exact nl ⟨z, (.inr (.inr (.inr (.inr ⟨a, b, z, o, p, q, E, F, _, (gT s bq), K, (Dat.mono bq M), Q, (Dat.mono bq I), au, av, aE, (ag.step (ag.re (vals' := [(0, 15, agg [int .i64 j.Width, int .i64 j.Height, int .i64 j.Columns, int .i64 j.Gap, int .i64 j.Scale, int .i64 j.Lang].toArray), (1, 16, slice o ao.length p), (2, 17, slice (some ⟨q, 0, none⟩) (List.replicate (Int.toNat 4) false).length ((List.replicate (Int.toNat 4) false).length)), (3, 18, tuple [slice E am.length F, int .i64 aI].toArray), (4, 14, tuple [slice E am.length F, int .i64 aI].toArray), (5, 19, slice E am.length F), (6, 20, int .i64 aI), (7, 1, slice E am.length F), (8, 2, int .i64 aI)]) g (List.forall_mem_cons.2 ⟨.inl (List.mem_of_getElem? (i := 0) z), (List.forall_mem_cons.2 ⟨.inl (List.mem_of_getElem? (i := 1) z), (List.forall_mem_cons.2 ⟨.inl (List.mem_of_getElem? (i := 2) z), (List.forall_mem_cons.2 ⟨.inr m, (List.forall_mem_cons.2 ⟨.inr (al 4 z), (List.forall_mem_cons.2 ⟨.inr (al 5 z), (List.forall_mem_cons.2 ⟨.inr (al 6 z), (List.forall_mem_cons.2 ⟨.inr (al 7 z), (List.forall_mem_cons.2 ⟨.inr (al 8 z), (fun _ h => nomatch h)⟩)⟩)⟩)⟩)⟩)⟩)⟩)⟩)⟩)) m z z z z), cz⟩))))⟩
 cases m.symm.trans c
 rintro D r aL (⟨a, b, c, B, s, g, t⟩ | ⟨a, b, c, o, p, B, s, K, M, Q, g, t⟩ | ⟨a, b, c, q, B, s, I, g, t⟩ | ⟨a, b, c, o, p, q, B, s, K, M, Q, I, g, t⟩ | ⟨a, b, c, o, p, q, E, F, B, s, K, M, Q, I, au, av, aE, g, t⟩) m d al
 cases (d 1 rfl).symm.trans a
 cases (d 2 rfl).symm.trans b
 cases (d 1 rfl).symm.trans a
 cases (d 3 rfl).symm.trans c
 obtain ⟨r0, rfl⟩ := Has.ex (cC (g.get 3 rfl (d 3 rfl)) cN)
 exact mv z<|nl ⟨z, (.inr (.inr (.inr (.inr ⟨a, b, c, o, p, q, E, F, _, s, K, M, Q, I, au, av, aE, (ag.step g m z z z z), t⟩))))⟩
 rintro D r aL (⟨a, b, c, B, s, g, t⟩ | ⟨a, b, c, o, p, B, s, K, M, Q, g, t⟩ | ⟨a, b, c, q, B, s, I, g, t⟩ | ⟨a, b, c, o, p, q, B, s, K, M, Q, I, g, t⟩ | ⟨a, b, c, o, p, q, E, F, B, s, K, M, Q, I, au, av, aE, g, t⟩) m d al
 cases (d 1 rfl).symm.trans a
 cases (d 2 rfl).symm.trans b
 cases (d 1 rfl).symm.trans a
 cases (d 3 rfl).symm.trans c
 obtain ⟨r0, rfl⟩ := Has.ex (cC (g.get 4 rfl (d 4 rfl)) cN)
 exact ls z z<|nl ⟨z, (.inr (.inr (.inr (.inr ⟨a, b, c, o, p, q, E, F, _, s, K, M, Q, I, au, av, aE, (ag.step g m z z z z), t⟩))))⟩
 rintro D r aL (⟨a, b, c, B, s, g, t⟩ | ⟨a, b, c, o, p, B, s, K, M, Q, g, t⟩ | ⟨a, b, c, q, B, s, I, g, t⟩ | ⟨a, b, c, o, p, q, B, s, K, M, Q, I, g, t⟩ | ⟨a, b, c, o, p, q, E, F, B, s, K, M, Q, I, au, av, aE, g, t⟩) m d al
 cases (d 1 rfl).symm.trans a
 cases (d 2 rfl).symm.trans b
 cases (d 1 rfl).symm.trans a
 cases (d 3 rfl).symm.trans c
 obtain ⟨r0, rfl⟩ := Has.ex (cC (g.get 4 rfl (d 4 rfl)) cN)
 exact ls z z<|nl ⟨z, (.inr (.inr (.inr (.inr ⟨a, b, c, o, p, q, E, F, _, s, K, M, Q, I, au, av, aE, (ag.step g m z z z z), t⟩))))⟩
 rintro D r aL (⟨a, b, c, B, s, g, t⟩ | ⟨a, b, c, o, p, B, s, K, M, Q, g, t⟩ | ⟨a, b, c, q, B, s, I, g, t⟩ | ⟨a, b, c, o, p, q, B, s, K, M, Q, I, g, t⟩ | ⟨a, b, c, o, p, q, E, F, B, s, K, M, Q, I, au, av, aE, g, t⟩) m d al
 cases (d 1 rfl).symm.trans a
 cases (d 2 rfl).symm.trans b
 cases (d 1 rfl).symm.trans a
 cases (d 3 rfl).symm.trans c
 obtain ⟨r0, rfl⟩ := Has.ex (cC (g.get 5 rfl (d 5 rfl)) cN)
 exact aK z<|nl ⟨z, (.inr (.inr (.inr (.inr ⟨a, b, c, o, p, q, E, F, _, s, K, M, Q, I, au, av, aE, (ag.step g m z z z z), t⟩))))⟩
 rintro D r aL (⟨a, b, c, B, s, g, t⟩ | ⟨a, b, c, o, p, B, s, K, M, Q, g, t⟩ | ⟨a, b, c, q, B, s, I, g, t⟩ | ⟨a, b, c, o, p, q, B, s, K, M, Q, I, g, t⟩ | ⟨a, b, c, o, p, q, E, F, B, s, K, M, Q, I, au, av, aE, g, t⟩) m d al
 cases (d 1 rfl).symm.trans a
 cases (d 2 rfl).symm.trans b
 cases (d 1 rfl).symm.trans a
 cases (d 3 rfl).symm.trans c
 obtain ⟨r0, rfl⟩ := Has.ex (cC (g.get 6 rfl (d 6 rfl)) cN)
 exact aK z<|nl ⟨z, (.inr (.inr (.inr (.inr ⟨a, b, c, o, p, q, E, F, _, s, K, M, Q, I, au, av, aE, (ag.step g m z z z z), t⟩))))⟩
 intro D r aL aJ hR
 rcases hR with ⟨a, b, c, B, s, g, t⟩ | ⟨a, b, c, o, p, B, s, K, M, Q, g, t⟩ | ⟨a, b, c, q, B, s, I, g, t⟩ | ⟨a, b, c, o, p, q, B, s, K, M, Q, I, g, t⟩ | ⟨a, b, c, o, p, q, E, F, B, s, K, M, Q, I, au, av, aE, g, t⟩
 cases (aJ 1 (Nat.le_of_ble_eq_true rfl)).symm.trans a
 cases (aJ 2 (Nat.le_of_ble_eq_true rfl)).symm.trans b
 cases (aJ 1 (Nat.le_of_ble_eq_true rfl)).symm.trans a
 cases (aJ 3 (Nat.le_of_ble_eq_true rfl)).symm.trans c
 obtain ⟨r0, rfl⟩ := Has.ex (cC (g.get 7 rfl (aJ 7 (Nat.le_of_ble_eq_true rfl))) (cC (g.get 8 rfl (aJ 8 (Nat.le_of_ble_eq_true rfl))) cN))
 refine cn _ _ _<|sr fun eB cB=>bK H fun aW cD H=>cv nE (ci cD t) z z fun eC cE=>bK H fun aX cF H=>ft (vs := []) nF z z (cx cF cE)<|?_
 rintro _ eD ⟨aY, aZ, eE, bX, cG, cH, cI, eF, rfl⟩
 refine ⟨_, rfl, ?_⟩
 refine eh cG (vs := [(0, bool false), (1, bool true), (2, bool false), (3, bool false)]) (cs := [bool false, bool true, bool false, bool false]) fV qI rfl (by decide) rfl (by kernel_rfl) (fun a0 eG cJ => ?_)
 obtain ⟨eH, bs, cK, cL⟩ := Hp.publish (xs := ([false, true, false, false] : List Bool)) (n := 4) Kd.bool cJ ⟨[bool false], _, rfl, rfl, ⟨[bool true], _, rfl, rfl, ⟨[bool false], _, rfl, rfl, ⟨[bool false], _, rfl, rfl, rfl⟩⟩⟩⟩ rfl
 refine ms H fun ax a4 cM H=>ft (vs := [agg [int .i64 aW.Width, int .i64 aW.Height, int .i64 aW.Columns, int .i64 aW.Gap, int .i64 aW.Scale, int .i64 aW.Lang].toArray, slice aY aX.length aZ, slice (some ⟨a0, 0, none⟩) ([false, true, false, false] : List Bool).length 4]) qY z z (dZ (a7 := ([false, true, false, false] : List Bool)) cM cK cH (Dat.mono bs cI) (show ([false, true, false, false] : List Bool).length ≤ 4 from Nat.le_of_ble_eq_true z) cL)<|?_
 rintro _ eI ⟨ay, az, a5, bZ, cO, bt, bu, eJ, rfl⟩
 refine ⟨_, rfl, ?_⟩
 refine mv z<|ls z z<|ls z z<|aK z<|aK z<|nl<|cB _ _ _<|sQ fun eK cQ=>bK H fun k b0 H=>bK H fun aA b1 H=>iK H fun⟨b2, b3, b4⟩H=>ms H fun aq aN cR H=>?_
 refine aM [0, 1, 0, 7, 15, 31, 31, 63, 255] (fun D r w => (D 1 = false ∧ D 2 = false ∧ D 3 = false ∧ ∃ (G' : Gh), a5 ≤ G' ∧ ag [(1, slice E am.length F), (2, int .i64 aI), (3, slice ay ax.length az), (4, int .i64 a4)] [] [(0, 29, agg [int .i64 k.Width, int .i64 k.Height, int .i64 k.Columns, int .i64 k.Gap, int .i64 k.Scale, int .i64 k.Lang].toArray)] D r ∧ Hp G' (tk (slice ay ax.length az) 2 34 :: tk (slice (some ⟨a0, 0, none⟩) ([false, true, false, false] : List Bool).length 4) 1 4 :: tk (slice aY aX.length aZ) 8 36 :: tk (slice E am.length F) 2 34 :: tk (slice (some ⟨q, 0, none⟩) (List.replicate (Int.toNat 4) false).length ((List.replicate (Int.toNat 4) false).length)) 1 4 :: tk (slice o ao.length p) 8 36 :: L) w) ∨ (D 1 = true ∧ D 2 = false ∧ D 3 = false ∧ ∃ (v : Option Addr) (y : Nat) (G' : Gh), a5 ≤ G' ∧ aA.length ≤ y ∧ Dat ah G' v aA ∧ Own v y ∧ ag [(1, slice E am.length F), (2, int .i64 aI), (3, slice ay ax.length az), (4, int .i64 a4)] [] [(0, 29, agg [int .i64 k.Width, int .i64 k.Height, int .i64 k.Columns, int .i64 k.Gap, int .i64 k.Scale, int .i64 k.Lang].toArray), (1, 30, slice v aA.length y)] D r ∧ Hp G' (tk (slice v aA.length y) 8 36 :: tk (slice ay ax.length az) 2 34 :: tk (slice (some ⟨a0, 0, none⟩) ([false, true, false, false] : List Bool).length 4) 1 4 :: tk (slice aY aX.length aZ) 8 36 :: tk (slice E am.length F) 2 34 :: tk (slice (some ⟨q, 0, none⟩) (List.replicate (Int.toNat 4) false).length ((List.replicate (Int.toNat 4) false).length)) 1 4 :: tk (slice o ao.length p) 8 36 :: L) w) ∨ (D 1 = false ∧ D 2 = true ∧ D 3 = false ∧ ∃ (A : Nat) (G' : Gh), a5 ≤ G' ∧ Dat Kd.bool G' (some ⟨A, 0, none⟩) (List.replicate (Int.toNat 4) false) ∧ ag [(1, slice E am.length F), (2, int .i64 aI), (3, slice ay ax.length az), (4, int .i64 a4)] [] [(0, 29, agg [int .i64 k.Width, int .i64 k.Height, int .i64 k.Columns, int .i64 k.Gap, int .i64 k.Scale, int .i64 k.Lang].toArray), (2, 31, slice (some ⟨A, 0, none⟩) (List.replicate (Int.toNat 4) false).length ((List.replicate (Int.toNat 4) false).length))] D r ∧ Hp G' (tk (slice (some ⟨A, 0, none⟩) (List.replicate (Int.toNat 4) false).length ((List.replicate (Int.toNat 4) false).length)) 1 4 :: tk (slice ay ax.length az) 2 34 :: tk (slice (some ⟨a0, 0, none⟩) ([false, true, false, false] : List Bool).length 4) 1 4 :: tk (slice aY aX.length aZ) 8 36 :: tk (slice E am.length F) 2 34 :: tk (slice (some ⟨q, 0, none⟩) (List.replicate (Int.toNat 4) false).length ((List.replicate (Int.toNat 4) false).length)) 1 4 :: tk (slice o ao.length p) 8 36 :: L) w) ∨ (D 1 = true ∧ D 2 = true ∧ D 3 = false ∧ ∃ (v : Option Addr) (y : Nat) (A : Nat) (G' : Gh), a5 ≤ G' ∧ aA.length ≤ y ∧ Dat ah G' v aA ∧ Own v y ∧ Dat Kd.bool G' (some ⟨A, 0, none⟩) (List.replicate (Int.toNat 4) false) ∧ ag [(1, slice E am.length F), (2, int .i64 aI), (3, slice ay ax.length az), (4, int .i64 a4)] [] [(0, 29, agg [int .i64 k.Width, int .i64 k.Height, int .i64 k.Columns, int .i64 k.Gap, int .i64 k.Scale, int .i64 k.Lang].toArray), (1, 30, slice v aA.length y), (2, 31, slice (some ⟨A, 0, none⟩) (List.replicate (Int.toNat 4) false).length ((List.replicate (Int.toNat 4) false).length))] D r ∧ Hp G' (tk (slice (some ⟨A, 0, none⟩) (List.replicate (Int.toNat 4) false).length ((List.replicate (Int.toNat 4) false).length)) 1 4 :: tk (slice v aA.length y) 8 36 :: tk (slice ay ax.length az) 2 34 :: tk (slice (some ⟨a0, 0, none⟩) ([false, true, false, false] : List Bool).length 4) 1 4 :: tk (slice aY aX.length aZ) 8 36 :: tk (slice E am.length F) 2 34 :: tk (slice (some ⟨q, 0, none⟩) (List.replicate (Int.toNat 4) false).length ((List.replicate (Int.toNat 4) false).length)) 1 4 :: tk (slice o ao.length p) 8 36 :: L) w) ∨ (D 1 = true ∧ D 2 = true ∧ D 3 = true ∧ ∃ (v : Option Addr) (y : Nat) (A : Nat) (S : Option Addr) (T : Nat) (G' : Gh), a5 ≤ G' ∧ aA.length ≤ y ∧ Dat ah G' v aA ∧ Own v y ∧ Dat Kd.bool G' (some ⟨A, 0, none⟩) (List.replicate (Int.toNat 4) false) ∧ aq.length ≤ T ∧ Dat br G' S aq ∧ Own S T ∧ ag [(1, slice E am.length F), (2, int .i64 aI), (3, slice ay ax.length az), (4, int .i64 a4)] [] [(0, 29, agg [int .i64 k.Width, int .i64 k.Height, int .i64 k.Columns, int .i64 k.Gap, int .i64 k.Scale, int .i64 k.Lang].toArray), (1, 30, slice v aA.length y), (2, 31, slice (some ⟨A, 0, none⟩) (List.replicate (Int.toNat 4) false).length ((List.replicate (Int.toNat 4) false).length)), (3, 32, tuple [slice S aq.length T, int .i64 aN].toArray), (4, 28, tuple [slice S aq.length T, int .i64 aN].toArray), (5, 33, slice S aq.length T), (6, 34, int .i64 aN), (7, 5, slice S aq.length T), (8, 6, int .i64 aN)] D r ∧ Hp G' (tk (slice S aq.length T) 2 34 :: tk (slice (some ⟨A, 0, none⟩) (List.replicate (Int.toNat 4) false).length ((List.replicate (Int.toNat 4) false).length)) 1 4 :: tk (slice v aA.length y) 8 36 :: tk (slice ay ax.length az) 2 34 :: tk (slice (some ⟨a0, 0, none⟩) ([false, true, false, false] : List Bool).length 4) 1 4 :: tk (slice aY aX.length aZ) 8 36 :: tk (slice E am.length F) 2 34 :: tk (slice (some ⟨q, 0, none⟩) (List.replicate (Int.toNat 4) false).length ((List.replicate (Int.toNat 4) false).length)) 1 4 :: tk (slice o ao.length p) 8 36 :: L) w)) dJ z z ?_ ?_ ?_
 exact (.inl ⟨z, z, z, _, Gh.le_refl _, ag.start ⟨z, z, z, z, tv⟩ trivial, cO.drew⟩)
 refine ⟨?_, ?_, ?_, ?_, ?_, ?_, ?_, ?_, ?_, tv⟩
 rintro D r aO (⟨a, b, c, C, l, f, u⟩ | ⟨a, b, c, v, y, C, l, O, P, R, f, u⟩ | ⟨a, b, c, A, C, l, J, f, u⟩ | ⟨a, b, c, v, y, A, C, l, O, P, R, J, f, u⟩ | ⟨a, b, c, v, y, A, S, T, C, l, O, P, R, J, aB, aC, aF, f, u⟩) m d al
 obtain ⟨r0, rfl⟩ := Has.ex (r := r) cN
 exact cv nE (ci b0 u) z z fun cS bv=>nl ⟨z, (.inl ⟨a, b, c, _, l, (ag.step f m z z z z), bv⟩)⟩
 cases (al 1 rfl).symm.trans a
 obtain ⟨r0, rfl⟩ := Has.ex (r := r) cN
 exact cv nE (ci b0 u) z z fun cS bv=>nl ⟨z, (.inr (.inr (.inl ⟨a, b, c, A, _, l, J, (ag.step f m z z z z), bv⟩)))⟩
 cases (al 1 rfl).symm.trans a
 cases (al 1 rfl).symm.trans a
 rintro D r aO (⟨a, b, c, C, l, f, u⟩ | ⟨a, b, c, v, y, C, l, O, P, R, f, u⟩ | ⟨a, b, c, A, C, l, J, f, u⟩ | ⟨a, b, c, v, y, A, C, l, O, P, R, J, f, u⟩ | ⟨a, b, c, v, y, A, S, T, C, l, O, P, R, J, aB, aC, aF, f, u⟩) m d al
 obtain ⟨r0, rfl⟩ := Has.ex (r := r) cN
 refine ft (vs := []) nF z z (cx b1 u)<|?_
 rintro _ cT ⟨v, y, cU, bh, bw, O, P, R, rfl⟩
 refine ⟨_, rfl, ?_⟩
 exact nl ⟨z, (.inr (.inl ⟨z, b, c, v, y, _, (gT l bh), O, P, R, (ag.step (ag.re (vals' := [(0, 29, agg [int .i64 k.Width, int .i64 k.Height, int .i64 k.Columns, int .i64 k.Gap, int .i64 k.Scale, int .i64 k.Lang].toArray), (1, 30, slice v aA.length y)]) f (List.forall_mem_cons.2 ⟨.inl (List.mem_of_getElem? (i := 0) z), (List.forall_mem_cons.2 ⟨.inr m, (fun _ h => nomatch h)⟩)⟩)) m z z z z), bw⟩))⟩
 cases m.symm.trans a
 obtain ⟨r0, rfl⟩ := Has.ex (r := r) cN
 refine ft (vs := []) nF z z (cx b1 u)<|?_
 rintro _ cT ⟨v, y, cU, bh, bw, O, P, R, rfl⟩
 refine ⟨_, rfl, ?_⟩
 exact have cV:=Hp.pick 8 [1, 0, 2, 3, 4, 5, 6, 7] bw z;nl ⟨z, (.inr (.inr (.inr (.inl ⟨z, b, c, v, y, A, _, (gT l bh), O, P, R, (Dat.mono bh J), (ag.step (ag.re (vals' := [(0, 29, agg [int .i64 k.Width, int .i64 k.Height, int .i64 k.Columns, int .i64 k.Gap, int .i64 k.Scale, int .i64 k.Lang].toArray), (1, 30, slice v aA.length y), (2, 31, slice (some ⟨A, 0, none⟩) (List.replicate (Int.toNat 4) false).length ((List.replicate (Int.toNat 4) false).length))]) f (List.forall_mem_cons.2 ⟨.inl (List.mem_of_getElem? (i := 0) z), (List.forall_mem_cons.2 ⟨.inr m, (List.forall_mem_cons.2 ⟨.inl (List.mem_of_getElem? (i := 1) z), (fun _ h => nomatch h)⟩)⟩)⟩)) m z z z z), cV⟩))))⟩
 cases m.symm.trans a
 cases m.symm.trans a
 rintro D r aO (⟨a, b, c, C, l, f, u⟩ | ⟨a, b, c, v, y, C, l, O, P, R, f, u⟩ | ⟨a, b, c, A, C, l, J, f, u⟩ | ⟨a, b, c, v, y, A, C, l, O, P, R, J, f, u⟩ | ⟨a, b, c, v, y, A, S, T, C, l, O, P, R, J, aB, aC, aF, f, u⟩) m d al
 obtain ⟨r0, rfl⟩ := Has.ex (r := r) cN
 refine nr (kd := Kd.bool) (z := false) u fV qI z z z z b2 b3 b4 fun A cW cX bx bz=>?_
 subst bx
 obtain ⟨cZ, bi, bA, J, _, _⟩ := Hp.rwFreeze bz 0 rfl (Mw.new (α := Bool) A _ 1) rfl gR
 exact nl ⟨z, (.inr (.inr (.inl ⟨a, z, c, A, _, (gT l bi), J, (ag.step (ag.re (vals' := [(0, 29, agg [int .i64 k.Width, int .i64 k.Height, int .i64 k.Columns, int .i64 k.Gap, int .i64 k.Scale, int .i64 k.Lang].toArray), (2, 31, slice (some ⟨A, 0, none⟩) (List.replicate (Int.toNat 4) false).length ((List.replicate (Int.toNat 4) false).length))]) f (List.forall_mem_cons.2 ⟨.inl (List.mem_of_getElem? (i := 0) z), (List.forall_mem_cons.2 ⟨.inr m, (fun _ h => nomatch h)⟩)⟩)) m z z z z), bA⟩)))⟩
 obtain ⟨r0, rfl⟩ := Has.ex (r := r) cN
 refine nr (kd := Kd.bool) (z := false) u fV qI z z z z b2 b3 b4 fun A cW cX bx bz=>?_
 subst bx
 obtain ⟨cZ, bi, bA, J, _, _⟩ := Hp.rwFreeze bz 0 rfl (Mw.new (α := Bool) A _ 1) rfl gR
 exact nl ⟨z, (.inr (.inr (.inr (.inl ⟨a, z, c, v, y, A, _, (gT l bi), O, (Dat.mono bi P), R, J, (ag.step (ag.re (vals' := [(0, 29, agg [int .i64 k.Width, int .i64 k.Height, int .i64 k.Columns, int .i64 k.Gap, int .i64 k.Scale, int .i64 k.Lang].toArray), (1, 30, slice v aA.length y), (2, 31, slice (some ⟨A, 0, none⟩) (List.replicate (Int.toNat 4) false).length ((List.replicate (Int.toNat 4) false).length))]) f (List.forall_mem_cons.2 ⟨.inl (List.mem_of_getElem? (i := 0) z), (List.forall_mem_cons.2 ⟨.inl (List.mem_of_getElem? (i := 1) z), (List.forall_mem_cons.2 ⟨.inr m, (fun _ h => nomatch h)⟩)⟩)⟩)) m z z z z), bA⟩))))⟩
 cases m.symm.trans b
 cases m.symm.trans b
 cases m.symm.trans b
 rintro D r aO (⟨a, b, c, C, l, f, u⟩ | ⟨a, b, c, v, y, C, l, O, P, R, f, u⟩ | ⟨a, b, c, A, C, l, J, f, u⟩ | ⟨a, b, c, v, y, A, C, l, O, P, R, J, f, u⟩ | ⟨a, b, c, v, y, A, S, T, C, l, O, P, R, J, aB, aC, aF, f, u⟩) m d al
 cases (d 1 rfl).symm.trans a
 cases (d 2 rfl).symm.trans b
 cases (d 1 rfl).symm.trans a
 obtain ⟨r0, rfl⟩ := Has.ex (cC (f.get 0 rfl (d 0 rfl)) (cC (f.get 1 rfl (d 1 rfl)) (cC (f.get 2 rfl (d 2 rfl)) cN)))
 refine ft (vs := [agg [int .i64 k.Width, int .i64 k.Height, int .i64 k.Columns, int .i64 k.Gap, int .i64 k.Scale, int .i64 k.Lang].toArray, slice v aA.length y, slice (some ⟨A, 0, none⟩) (List.replicate (Int.toNat 4) false).length ((List.replicate (Int.toNat 4) false).length)]) qY z z (dZ (a7 := List.replicate (Int.toNat 4) false) cR u O P (Nat.le_refl _) J)<|?_
 rintro _ eL ⟨S, T, eN, bB, c0, aB, aC, aF, rfl⟩
 refine ⟨_, rfl, ?_⟩
 exact nl ⟨z, (.inr (.inr (.inr (.inr ⟨a, b, z, v, y, A, S, T, _, (gT l bB), O, (Dat.mono bB P), R, (Dat.mono bB J), aB, aC, aF, (ag.step (ag.re (vals' := [(0, 29, agg [int .i64 k.Width, int .i64 k.Height, int .i64 k.Columns, int .i64 k.Gap, int .i64 k.Scale, int .i64 k.Lang].toArray), (1, 30, slice v aA.length y), (2, 31, slice (some ⟨A, 0, none⟩) (List.replicate (Int.toNat 4) false).length ((List.replicate (Int.toNat 4) false).length)), (3, 32, tuple [slice S aq.length T, int .i64 aN].toArray), (4, 28, tuple [slice S aq.length T, int .i64 aN].toArray), (5, 33, slice S aq.length T), (6, 34, int .i64 aN), (7, 5, slice S aq.length T), (8, 6, int .i64 aN)]) f (List.forall_mem_cons.2 ⟨.inl (List.mem_of_getElem? (i := 0) z), (List.forall_mem_cons.2 ⟨.inl (List.mem_of_getElem? (i := 1) z), (List.forall_mem_cons.2 ⟨.inl (List.mem_of_getElem? (i := 2) z), (List.forall_mem_cons.2 ⟨.inr m, (List.forall_mem_cons.2 ⟨.inr (al 4 z), (List.forall_mem_cons.2 ⟨.inr (al 5 z), (List.forall_mem_cons.2 ⟨.inr (al 6 z), (List.forall_mem_cons.2 ⟨.inr (al 7 z), (List.forall_mem_cons.2 ⟨.inr (al 8 z), (fun _ h => nomatch h)⟩)⟩)⟩)⟩)⟩)⟩)⟩)⟩)⟩)) m z z z z), c0⟩))))⟩
 cases m.symm.trans c
 rintro D r aO (⟨a, b, c, C, l, f, u⟩ | ⟨a, b, c, v, y, C, l, O, P, R, f, u⟩ | ⟨a, b, c, A, C, l, J, f, u⟩ | ⟨a, b, c, v, y, A, C, l, O, P, R, J, f, u⟩ | ⟨a, b, c, v, y, A, S, T, C, l, O, P, R, J, aB, aC, aF, f, u⟩) m d al
 cases (d 1 rfl).symm.trans a
 cases (d 2 rfl).symm.trans b
 cases (d 1 rfl).symm.trans a
 cases (d 3 rfl).symm.trans c
 obtain ⟨r0, rfl⟩ := Has.ex (cC (f.get 3 rfl (d 3 rfl)) cN)
 exact mv z<|nl ⟨z, (.inr (.inr (.inr (.inr ⟨a, b, c, v, y, A, S, T, _, l, O, P, R, J, aB, aC, aF, (ag.step f m z z z z), u⟩))))⟩
 rintro D r aO (⟨a, b, c, C, l, f, u⟩ | ⟨a, b, c, v, y, C, l, O, P, R, f, u⟩ | ⟨a, b, c, A, C, l, J, f, u⟩ | ⟨a, b, c, v, y, A, C, l, O, P, R, J, f, u⟩ | ⟨a, b, c, v, y, A, S, T, C, l, O, P, R, J, aB, aC, aF, f, u⟩) m d al
 cases (d 1 rfl).symm.trans a
 cases (d 2 rfl).symm.trans b
 cases (d 1 rfl).symm.trans a
 cases (d 3 rfl).symm.trans c
 obtain ⟨r0, rfl⟩ := Has.ex (cC (f.get 4 rfl (d 4 rfl)) cN)
 exact ls z z<|nl ⟨z, (.inr (.inr (.inr (.inr ⟨a, b, c, v, y, A, S, T, _, l, O, P, R, J, aB, aC, aF, (ag.step f m z z z z), u⟩))))⟩
 rintro D r aO (⟨a, b, c, C, l, f, u⟩ | ⟨a, b, c, v, y, C, l, O, P, R, f, u⟩ | ⟨a, b, c, A, C, l, J, f, u⟩ | ⟨a, b, c, v, y, A, C, l, O, P, R, J, f, u⟩ | ⟨a, b, c, v, y, A, S, T, C, l, O, P, R, J, aB, aC, aF, f, u⟩) m d al
 cases (d 1 rfl).symm.trans a
 cases (d 2 rfl).symm.trans b
 cases (d 1 rfl).symm.trans a
 cases (d 3 rfl).symm.trans c
 obtain ⟨r0, rfl⟩ := Has.ex (cC (f.get 4 rfl (d 4 rfl)) cN)
 exact ls z z<|nl ⟨z, (.inr (.inr (.inr (.inr ⟨a, b, c, v, y, A, S, T, _, l, O, P, R, J, aB, aC, aF, (ag.step f m z z z z), u⟩))))⟩
 rintro D r aO (⟨a, b, c, C, l, f, u⟩ | ⟨a, b, c, v, y, C, l, O, P, R, f, u⟩ | ⟨a, b, c, A, C, l, J, f, u⟩ | ⟨a, b, c, v, y, A, C, l, O, P, R, J, f, u⟩ | ⟨a, b, c, v, y, A, S, T, C, l, O, P, R, J, aB, aC, aF, f, u⟩) m d al
 cases (d 1 rfl).symm.trans a
 cases (d 2 rfl).symm.trans b
 cases (d 1 rfl).symm.trans a
 cases (d 3 rfl).symm.trans c
 obtain ⟨r0, rfl⟩ := Has.ex (cC (f.get 5 rfl (d 5 rfl)) cN)
 exact aK z<|nl ⟨z, (.inr (.inr (.inr (.inr ⟨a, b, c, v, y, A, S, T, _, l, O, P, R, J, aB, aC, aF, (ag.step f m z z z z), u⟩))))⟩
 rintro D r aO (⟨a, b, c, C, l, f, u⟩ | ⟨a, b, c, v, y, C, l, O, P, R, f, u⟩ | ⟨a, b, c, A, C, l, J, f, u⟩ | ⟨a, b, c, v, y, A, C, l, O, P, R, J, f, u⟩ | ⟨a, b, c, v, y, A, S, T, C, l, O, P, R, J, aB, aC, aF, f, u⟩) m d al
 cases (d 1 rfl).symm.trans a
 cases (d 2 rfl).symm.trans b
 cases (d 1 rfl).symm.trans a
 cases (d 3 rfl).symm.trans c
 obtain ⟨r0, rfl⟩ := Has.ex (cC (f.get 6 rfl (d 6 rfl)) cN)
 exact aK z<|nl ⟨z, (.inr (.inr (.inr (.inr ⟨a, b, c, v, y, A, S, T, _, l, O, P, R, J, aB, aC, aF, (ag.step f m z z z z), u⟩))))⟩
 intro D r aO aJ hR
 rcases hR with ⟨a, b, c, C, l, f, u⟩ | ⟨a, b, c, v, y, C, l, O, P, R, f, u⟩ | ⟨a, b, c, A, C, l, J, f, u⟩ | ⟨a, b, c, v, y, A, C, l, O, P, R, J, f, u⟩ | ⟨a, b, c, v, y, A, S, T, C, l, O, P, R, J, aB, aC, aF, f, u⟩
 cases (aJ 1 (Nat.le_of_ble_eq_true rfl)).symm.trans a
 cases (aJ 2 (Nat.le_of_ble_eq_true rfl)).symm.trans b
 cases (aJ 1 (Nat.le_of_ble_eq_true rfl)).symm.trans a
 cases (aJ 3 (Nat.le_of_ble_eq_true rfl)).symm.trans c
 obtain ⟨r0, rfl⟩ := Has.ex (cC (f.ins.get 0 rfl) (cC (f.ins.get 1 rfl) (cC (f.ins.get 2 rfl) (cC (f.ins.get 3 rfl) (cC (f.get 7 rfl (aJ 7 (Nat.le_of_ble_eq_true rfl))) (cC (f.get 8 rfl (aJ 8 (Nat.le_of_ble_eq_true rfl))) cN))))))
 refine cQ _ _ _<|sr fun eO c1=>bK H fun a1 c2 H=>cv nE (ci c2 u) z z fun eP c3=>bK H fun c4 c5 H=>ft (vs := []) nF z z (cx c5 c3)<|?_
 rintro _ eQ ⟨c6, c7, eR, a2, c8, c9, da, eS, rfl⟩
 refine ⟨_, rfl, ?_⟩
 refine ms H fun eT b5 db H=>ft (vs := [agg [int .i64 a1.Width, int .i64 a1.Height, int .i64 a1.Columns, int .i64 a1.Gap, int .i64 a1.Scale, int .i64 a1.Lang].toArray, slice c6 c4.length c7, slice none 0 0]) qY z z (dZ (a7 := ([] : List Bool)) db c8 c9 da (show ([] : List Bool).length ≤ 0 from Nat.le_refl 0) (Dat.nil _ _ _))<|?_
 rintro _ eU ⟨eV, eW, eX, a3, dc, eY, eZ, e0, rfl⟩
 refine ⟨_, rfl, ?_⟩
 refine mv z<|ls z z<|ls z z<|aK z<|aK z<|nl<|c1 _ _ _<|sr fun e1 dd=>mv z<|ms H fun bC bj de H=>cv qJ (iQ de dc bt (Dat.mono (gT (gT l a2) a3) bu)) z z fun e2 df=>mv z<|ls z z<|ls z z<|?_
 refine aK z<|aK z<|nl<|dd _ _ _<|sr fun e3 dg=>mv z<|ms H fun e4 a8 dh H=>cv qJ (iQ dh df bt (Dat.mono (gT (gT l a2) a3) bu)) z z fun e5 bD=>mv z<|ls z z<|ls z z<|aK z<|aK z<|nl<|?_
 refine dg _ _ _<|sr fun e6 di=>mv z<|ei z z<|mv z<|bK H fun b6 hC H=>js 3 bD [(1, slice E am.length F), (3, slice ay ax.length az), (5, slice S aq.length T), (6, int .i64 aN), (8, int .i64 b5), (9, int .i64 bC), (10, bool bj), (12, bool a8), (56, bool b6)] ?_ fun _ e7 bE=>?_
 refine have H:=hC;dC (aI = 0) (fun aP=>?_) fun aP=>?_
 refine yK aP H fun H=>mv (hw:=gY z z z (bY aP)) z<|ei (hw:=gY z z z (bY aP)) z z<|cY (bY aP) z<|nl<|?_
 cases H
 exact je ⟨z, z, z, z, z, z, z, z, z, tv⟩ bD
 refine nK aP H fun H=>Sk 2 z z (bN aP) z<|dm (bN aP) z<|nl<|?_
 cases H
 exact je ⟨z, z, z, z, z, z, z, z, z, tv⟩ bD
 refine mv z<|bK H fun b7 hC H=>js 3 bE [(1, slice E am.length F), (3, slice ay ax.length az), (5, slice S aq.length T), (8, int .i64 b5), (9, int .i64 bC), (10, bool bj), (12, bool a8), (60, bool b7)] ?_ fun _ e8 bF=>?_
 refine have H:=hC;dC (b6 = true) (fun aQ=>?_) fun aQ=>?_
 refine yK aQ H fun H=>mv (hw:=gY z z z (vY aQ)) z<|ei (hw:=gY z z z (vY aQ)) z z<|cY (vY aQ) z<|nl<|?_
 cases H
 exact je ⟨z, z, z, z, z, z, z, z, tv⟩ bE
 refine nK aQ H fun H=>Sk 2 z z (vN aQ) z<|dm (vN aQ) z<|nl<|?_
 cases H
 exact je ⟨z, z, z, z, z, z, z, z, tv⟩ bE
 refine mv z<|bK H fun b8 hC H=>js 3 bF [(1, slice E am.length F), (3, slice ay ax.length az), (5, slice S aq.length T), (9, int .i64 bC), (10, bool bj), (12, bool a8), (64, bool b8)] ?_ fun _ e9 bG=>?_
 refine have H:=hC;dC (b7 = true) (fun aR=>?_) fun aR=>?_
 refine yK aR H fun H=>mv (hw:=gY z z z (vY aR)) z<|ei (hw:=gY z z z (vY aR)) z z<|cY (vY aR) z<|nl<|?_
 cases H
 exact je ⟨z, z, z, z, z, z, z, tv⟩ bF
 refine nK aR H fun H=>Sk 2 z z (vN aR) z<|dm (vN aR) z<|nl<|?_
 cases H
 exact je ⟨z, z, z, z, z, z, z, tv⟩ bF
 refine mv z<|bK H fun b9 hC H=>js 3 bG [(1, slice E am.length F), (3, slice ay ax.length az), (5, slice S aq.length T), (10, bool bj), (12, bool a8), (68, bool b9)] ?_ fun _ fa bH=>?_
 refine have H:=hC;dC (b8 = true) (fun aS=>?_) fun aS=>?_
 refine yK aS H fun H=>mv (hw:=gY z z z (vY aS)) z<|ei (hw:=gY z z z (vY aS)) z z<|cY (vY aS) z<|nl<|?_
 cases H
 exact je ⟨z, z, z, z, z, z, tv⟩ bG
 refine nK aS H fun H=>Sk 2 z z (vN aS) z<|dm (vN aS) z<|nl<|?_
 cases H
 exact je ⟨z, z, z, z, z, z, tv⟩ bG
 refine mv z<|bK H fun ca hC H=>js 2 bH [(1, slice E am.length F), (3, slice ay ax.length az), (5, slice S aq.length T), (12, bool a8), (71, bool ca)] ?_ fun _ fb bI=>?_
 refine have H:=hC;dC (b9 = true) (fun aU=>?_) fun aU=>?_
 refine yK aU H fun H=>mv (hw:=gY z z z (vY aU)) z<|cY (vY aU) z<|nl<|?_
 cases H
 exact je ⟨z, z, z, z, z, tv⟩ bH
 refine nK aU H fun H=>wN (gN z z z (vN aU) z)<|dm (vN aU) z<|nl<|?_
 cases H
 exact je ⟨z, z, z, z, z, tv⟩ bH
 refine mv z<|bK H fun cb hC H=>js 3 bI [(1, slice E am.length F), (3, slice ay ax.length az), (5, slice S aq.length T), (75, bool cb)] ?_ fun _ fc bJ=>?_
 refine have H:=hC;dC (ca = true) (fun aT=>?_) fun aT=>?_
 refine yK aT H fun H=>mv (hw:=gY z z z (vY aT)) z<|bV (hw:=gY z z z (vY aT)) z<|cY (vY aT) z<|nl<|?_
 cases H
 exact je ⟨z, z, z, z, tv⟩ bI
 refine nK aT H fun H=>Sk 2 z z (vN aT) z<|dm (vN aT) z<|nl<|?_
 cases H
 exact je ⟨z, z, z, z, tv⟩ bI
 refine aK z<|nl<|di _ _ _<|sr fun fd dj=>mv z<|mv z<|bK H fun cc hC H=>js 12 bJ [(3, slice ay ax.length az), (5, slice S aq.length T), (89, bool cc)] ?_ fun _ fe bL=>?_
 refine have H:=hC;dC (cb = true) (fun aD=>?_) fun aD=>?_
 refine yK aD H fun H=>mv (hw:=gY z z z (vY aD)) z<|bK H fun U dk H=>cv (hw:=gY z z z (vY aD)) ky (aV dk bJ) z z fun ff dl=>bK H fun V dn H=>cv (hw:=gY z z z (vY aD)) ky (aV dn dl) z z fun fg dp=>?_
 refine eh dp (vs := [(0, agg [int .i64 U.Node, int .i64 U.Table, int .i64 U.X, int .i64 U.Y, int .i64 U.H, string U.Text, bool U.Head, bool U.Note].toArray), (1, agg [int .i64 V.Node, int .i64 V.Table, int .i64 V.X, int .i64 V.Y, int .i64 V.H, string V.Text, bool V.Head, bool V.Note].toArray)]) (cs := [int .i64 U.Node, int .i64 U.Table, int .i64 U.X, int .i64 U.Y, int .i64 U.H, string U.Text, bool U.Head, bool U.Note, int .i64 V.Node, int .i64 V.Table, int .i64 V.X, int .i64 V.Y, int .i64 V.H, string V.Text, bool V.Head, bool V.Note]) cA cP rfl (by decide) rfl (by kernel_rfl) (fun a9 fh dq => ?_) (hw := gY rfl rfl rfl (fD aD))
 obtain ⟨fi, cd, dr, ds⟩ := Hp.publish (xs := ([U, V] : List ac)) (n := 2) ah dq ⟨[int .i64 U.Node, int .i64 U.Table, int .i64 U.X, int .i64 U.Y, int .i64 U.H, string U.Text, bool U.Head, bool U.Note], _, rfl, (aH (x := U)), ⟨[int .i64 V.Node, int .i64 V.Table, int .i64 V.X, int .i64 V.Y, int .i64 V.H, string V.Text, bool V.Head, bool V.Note], _, rfl, (aH (x := V)), rfl⟩⟩ rfl
 refine cf (hw:=gY z z z (vY aD)) (vs := [(0, int .i64 1), (1, slice (some ⟨a9, 0, none⟩) ([U, V] : List ac).length 2)]) (cs := [int .i64 1, slice (some ⟨a9, 0, none⟩) ([U, V] : List ac).length 2]) ib mK z z<|bK H fun W dt H=>cv (hw:=gY z z z (vY aD)) ky (aV dt dr) z z fun fj du=>bK H fun Z dv H=>cv (hw:=gY z z z (vY aD)) ky (aV dv du) z z fun fk dw=>?_
 refine eh dw (vs := [(0, agg [int .i64 W.Node, int .i64 W.Table, int .i64 W.X, int .i64 W.Y, int .i64 W.H, string W.Text, bool W.Head, bool W.Note].toArray), (1, agg [int .i64 Z.Node, int .i64 Z.Table, int .i64 Z.X, int .i64 Z.Y, int .i64 Z.H, string Z.Text, bool Z.Head, bool Z.Note].toArray)]) (cs := [int .i64 W.Node, int .i64 W.Table, int .i64 W.X, int .i64 W.Y, int .i64 W.H, string W.Text, bool W.Head, bool W.Note, int .i64 Z.Node, int .i64 Z.Table, int .i64 Z.X, int .i64 Z.Y, int .i64 Z.H, string Z.Text, bool Z.Head, bool Z.Note]) cA cP rfl (by decide) rfl (by kernel_rfl) (fun ba fl dx => ?_) (hw := gY rfl rfl rfl (fD aD))
 obtain ⟨fm, bM, dy, dz⟩ := Hp.publish (xs := ([W, Z] : List ac)) (n := 2) ah dx ⟨[int .i64 W.Node, int .i64 W.Table, int .i64 W.X, int .i64 W.Y, int .i64 W.H, string W.Text, bool W.Head, bool W.Note], _, rfl, (aH (x := W)), ⟨[int .i64 Z.Node, int .i64 Z.Table, int .i64 Z.X, int .i64 Z.Y, int .i64 Z.H, string Z.Text, bool Z.Head, bool Z.Note], _, rfl, (aH (x := Z)), rfl⟩⟩ rfl
 refine cf (hw:=gY z z z (vY aD)) (vs := [(0, int .i64 2), (1, slice (some ⟨ba, 0, none⟩) ([W, Z] : List ac).length 2)]) (cs := [int .i64 2, slice (some ⟨ba, 0, none⟩) ([W, Z] : List ac).length 2]) ib mK z z<|?_
 refine eh dy (vs := [(0, agg [int .i64 1, slice (some ⟨a9, 0, none⟩) ([U, V] : List ac).length 2].toArray), (1, agg [int .i64 2, slice (some ⟨ba, 0, none⟩) ([W, Z] : List ac).length 2].toArray)]) (cs := [int .i64 1, slice (some ⟨a9, 0, none⟩) ([U, V] : List ac).length 2, int .i64 2, slice (some ⟨ba, 0, none⟩) ([W, Z] : List ac).length 2]) ko ib rfl (by decide) rfl (by kernel_rfl) (fun fn fo dA => ?_) (hw := gY rfl rfl rfl (fD aD))
 obtain ⟨fp, ce, dB, dE⟩ := Hp.publish (xs := ([(⟨1, ([U, V] : List ac)⟩ : ap), (⟨2, ([W, Z] : List ac)⟩ : ap)] : List ap)) (n := 2) br dA ⟨[int .i64 1, slice (some ⟨a9, 0, none⟩) ([U, V] : List ac).length 2], _, rfl, (d7 (x := (⟨1, ([U, V] : List ac)⟩ : ap)) (show ([U, V] : List ac).length ≤ 2 from Nat.le_of_ble_eq_true rfl) (Dat.mono bM ds)), ⟨[int .i64 2, slice (some ⟨ba, 0, none⟩) ([W, Z] : List ac).length 2], _, rfl, (d7 (x := (⟨2, ([W, Z] : List ac)⟩ : ap)) (show ([W, Z] : List ac).length ≤ 2 from Nat.le_of_ble_eq_true rfl) dz), rfl⟩⟩ rfl
 refine bK H fun fq dF H=>cv (hw:=gY z z z (vY aD)) p3 (eM (a6 := ([(⟨1, ([U, V] : List ac)⟩ : ap), (⟨2, ([W, Z] : List ac)⟩ : ap)] : List ap)) dF dB au (Dat.mono (gT (gT (gT (gT (gT (gT (gT (gT bX bs) bZ) l) a2) a3) cd) bM) ce) av) (show ([(⟨1, ([U, V] : List ac)⟩ : ap), (⟨2, ([W, Z] : List ac)⟩ : ap)] : List ap).length ≤ 2 from Nat.le_of_ble_eq_true z) dE) z z fun fr dG=>cY (vY aD) z<|nl<|have dH:=Hp.pick 14 [3, 4, 5, 6, 7, 8, 9, 10, 11, 12, 13] dG z;?_
 cases H
 exact je ⟨z, z, z, tv⟩ (Hp.low (gT (gT cd bM) ce) dH)
 refine nK aD H fun H=>Sk 11 z z (vN aD) z<|dm (vN aD) z<|nl<|?_
 cases H
 exact je ⟨z, z, z, tv⟩ bJ
 refine aK z<|nl<|dj _ _ _<|sr fun fs dI=>mv z<|mv z<|bK H fun cg hC H=>js 14 bL [(5, slice S aq.length T), (105, bool cg)] ?_ fun _ fu bO=>?_
 refine have H:=hC;dC (cc = true) (fun ar=>?_) fun ar=>?_
 refine yK ar H fun H=>mv (hw:=gY z z z (vY ar)) z<|bK H fun aa dK H=>cv (hw:=gY z z z (vY ar)) ky (aV dK bL) z z fun fv dL=>?_
 refine eh dL (vs := [(0, agg [int .i64 aa.Node, int .i64 aa.Table, int .i64 aa.X, int .i64 aa.Y, int .i64 aa.H, string aa.Text, bool aa.Head, bool aa.Note].toArray)]) (cs := [int .i64 aa.Node, int .i64 aa.Table, int .i64 aa.X, int .i64 aa.Y, int .i64 aa.H, string aa.Text, bool aa.Head, bool aa.Note]) cA cP rfl (by decide) rfl (by kernel_rfl) (fun bb fw dM => ?_) (hw := gY rfl rfl rfl (fD ar))
 obtain ⟨fx, ch, dN, dO⟩ := Hp.publish (xs := ([aa] : List ac)) (n := 1) ah dM ⟨[int .i64 aa.Node, int .i64 aa.Table, int .i64 aa.X, int .i64 aa.Y, int .i64 aa.H, string aa.Text, bool aa.Head, bool aa.Note], _, rfl, (aH (x := aa)), rfl⟩ rfl
 refine cf (hw:=gY z z z (vY ar)) (vs := [(0, int .i64 1), (1, slice (some ⟨bb, 0, none⟩) ([aa] : List ac).length 1)]) (cs := [int .i64 1, slice (some ⟨bb, 0, none⟩) ([aa] : List ac).length 1]) ib mK z z<|bK H fun ab dP H=>cv (hw:=gY z z z (vY ar)) ky (aV dP dN) z z fun fy dQ=>bK H fun ad dR H=>cv (hw:=gY z z z (vY ar)) ky (aV dR dQ) z z fun fz dS=>?_
 refine eh dS (vs := [(0, agg [int .i64 ab.Node, int .i64 ab.Table, int .i64 ab.X, int .i64 ab.Y, int .i64 ab.H, string ab.Text, bool ab.Head, bool ab.Note].toArray), (1, agg [int .i64 ad.Node, int .i64 ad.Table, int .i64 ad.X, int .i64 ad.Y, int .i64 ad.H, string ad.Text, bool ad.Head, bool ad.Note].toArray)]) (cs := [int .i64 ab.Node, int .i64 ab.Table, int .i64 ab.X, int .i64 ab.Y, int .i64 ab.H, string ab.Text, bool ab.Head, bool ab.Note, int .i64 ad.Node, int .i64 ad.Table, int .i64 ad.X, int .i64 ad.Y, int .i64 ad.H, string ad.Text, bool ad.Head, bool ad.Note]) cA cP rfl (by decide) rfl (by kernel_rfl) (fun bc fA dT => ?_) (hw := gY rfl rfl rfl (fD ar))
 obtain ⟨fB, bP, dU, dV⟩ := Hp.publish (xs := ([ab, ad] : List ac)) (n := 2) ah dT ⟨[int .i64 ab.Node, int .i64 ab.Table, int .i64 ab.X, int .i64 ab.Y, int .i64 ab.H, string ab.Text, bool ab.Head, bool ab.Note], _, rfl, (aH (x := ab)), ⟨[int .i64 ad.Node, int .i64 ad.Table, int .i64 ad.X, int .i64 ad.Y, int .i64 ad.H, string ad.Text, bool ad.Head, bool ad.Note], _, rfl, (aH (x := ad)), rfl⟩⟩ rfl
 refine cf (hw:=gY z z z (vY ar)) (vs := [(0, int .i64 2), (1, slice (some ⟨bc, 0, none⟩) ([ab, ad] : List ac).length 2)]) (cs := [int .i64 2, slice (some ⟨bc, 0, none⟩) ([ab, ad] : List ac).length 2]) ib mK z z<|bK H fun ae dW H=>cv (hw:=gY z z z (vY ar)) ky (aV dW dU) z z fun fC dX=>?_
 refine eh dX (vs := [(0, agg [int .i64 ae.Node, int .i64 ae.Table, int .i64 ae.X, int .i64 ae.Y, int .i64 ae.H, string ae.Text, bool ae.Head, bool ae.Note].toArray)]) (cs := [int .i64 ae.Node, int .i64 ae.Table, int .i64 ae.X, int .i64 ae.Y, int .i64 ae.H, string ae.Text, bool ae.Head, bool ae.Note]) cA cP rfl (by decide) rfl (by kernel_rfl) (fun bd fE dY => ?_) (hw := gY rfl rfl rfl (fD ar))
 obtain ⟨fF, bk, d0, d1⟩ := Hp.publish (xs := ([ae] : List ac)) (n := 1) ah dY ⟨[int .i64 ae.Node, int .i64 ae.Table, int .i64 ae.X, int .i64 ae.Y, int .i64 ae.H, string ae.Text, bool ae.Head, bool ae.Note], _, rfl, (aH (x := ae)), rfl⟩ rfl
 refine cf (hw:=gY z z z (vY ar)) (vs := [(0, int .i64 3), (1, slice (some ⟨bd, 0, none⟩) ([ae] : List ac).length 1)]) (cs := [int .i64 3, slice (some ⟨bd, 0, none⟩) ([ae] : List ac).length 1]) ib mK z z<|?_
 refine eh d0 (vs := [(0, agg [int .i64 1, slice (some ⟨bb, 0, none⟩) ([aa] : List ac).length 1].toArray), (1, agg [int .i64 2, slice (some ⟨bc, 0, none⟩) ([ab, ad] : List ac).length 2].toArray), (2, agg [int .i64 3, slice (some ⟨bd, 0, none⟩) ([ae] : List ac).length 1].toArray)]) (cs := [int .i64 1, slice (some ⟨bb, 0, none⟩) ([aa] : List ac).length 1, int .i64 2, slice (some ⟨bc, 0, none⟩) ([ab, ad] : List ac).length 2, int .i64 3, slice (some ⟨bd, 0, none⟩) ([ae] : List ac).length 1]) ko ib rfl (by decide) rfl (by kernel_rfl) (fun fG fH d2 => ?_) (hw := gY rfl rfl rfl (fD ar))
 obtain ⟨fI, cj, d3, d4⟩ := Hp.publish (xs := ([(⟨1, ([aa] : List ac)⟩ : ap), (⟨2, ([ab, ad] : List ac)⟩ : ap), (⟨3, ([ae] : List ac)⟩ : ap)] : List ap)) (n := 3) br d2 ⟨[int .i64 1, slice (some ⟨bb, 0, none⟩) ([aa] : List ac).length 1], _, rfl, (d7 (x := (⟨1, ([aa] : List ac)⟩ : ap)) (show ([aa] : List ac).length ≤ 1 from Nat.le_of_ble_eq_true rfl) (Dat.mono (gT bP bk) dO)), ⟨[int .i64 2, slice (some ⟨bc, 0, none⟩) ([ab, ad] : List ac).length 2], _, rfl, (d7 (x := (⟨2, ([ab, ad] : List ac)⟩ : ap)) (show ([ab, ad] : List ac).length ≤ 2 from Nat.le_of_ble_eq_true rfl) (Dat.mono bk dV)), ⟨[int .i64 3, slice (some ⟨bd, 0, none⟩) ([ae] : List ac).length 1], _, rfl, (d7 (x := (⟨3, ([ae] : List ac)⟩ : ap)) (show ([ae] : List ac).length ≤ 1 from Nat.le_of_ble_eq_true rfl) d1), rfl⟩⟩⟩ rfl
 refine bK H fun fJ d5 H=>cv (hw:=gY z z z (vY ar)) p3 (eM (a6 := ([(⟨1, ([aa] : List ac)⟩ : ap), (⟨2, ([ab, ad] : List ac)⟩ : ap), (⟨3, ([ae] : List ac)⟩ : ap)] : List ap)) d5 d3 bt (Dat.mono (gT (gT (gT (gT (gT (gT l a2) a3) ch) bP) bk) cj) bu) (show ([(⟨1, ([aa] : List ac)⟩ : ap), (⟨2, ([ab, ad] : List ac)⟩ : ap), (⟨3, ([ae] : List ac)⟩ : ap)] : List ap).length ≤ 3 from Nat.le_of_ble_eq_true z) d4) z z fun fK d6=>cY (vY ar) z<|nl<|have d8:=Hp.pick 15 [4, 5, 6, 7, 8, 9, 10, 11, 12, 13, 14] d6 z;?_
 cases H
 exact je ⟨z, z, tv⟩ (Hp.low (gT (gT (gT ch bP) bk) cj) d8)
 refine nK ar H fun H=>Sk 13 z z (vN ar) z<|dm (vN ar) z<|nl<|?_
 cases H
 exact je ⟨z, z, tv⟩ bL
 refine aK z<|nl<|dI _ _ _<|sr fun fL d9=>mv z<|mv z<|bK H fun ea hC H=>js 10 bO [(117, bool ea)] ?_ fun _ fM eb=>?_
 refine have H:=hC;dC (cg = true) (fun aG=>?_) fun aG=>?_
 refine yK aG H fun H=>mv (hw:=gY z z z (vY aG)) z<|bK H fun af ec H=>cv (hw:=gY z z z (vY aG)) ky (aV ec bO) z z fun fN ed=>bK H fun ai ee H=>cv (hw:=gY z z z (vY aG)) ky (aV ee ed) z z fun fO ef=>bK H fun aj eg H=>cv (hw:=gY z z z (vY aG)) ky (aV eg ef) z z fun fP ej=>bK H fun ak ek H=>cv (hw:=gY z z z (vY aG)) ky (aV ek ej) z z fun fQ el=>?_
 refine eh el (vs := [(0, agg [int .i64 af.Node, int .i64 af.Table, int .i64 af.X, int .i64 af.Y, int .i64 af.H, string af.Text, bool af.Head, bool af.Note].toArray), (1, agg [int .i64 ai.Node, int .i64 ai.Table, int .i64 ai.X, int .i64 ai.Y, int .i64 ai.H, string ai.Text, bool ai.Head, bool ai.Note].toArray), (2, agg [int .i64 aj.Node, int .i64 aj.Table, int .i64 aj.X, int .i64 aj.Y, int .i64 aj.H, string aj.Text, bool aj.Head, bool aj.Note].toArray), (3, agg [int .i64 ak.Node, int .i64 ak.Table, int .i64 ak.X, int .i64 ak.Y, int .i64 ak.H, string ak.Text, bool ak.Head, bool ak.Note].toArray)]) (cs := [int .i64 af.Node, int .i64 af.Table, int .i64 af.X, int .i64 af.Y, int .i64 af.H, string af.Text, bool af.Head, bool af.Note, int .i64 ai.Node, int .i64 ai.Table, int .i64 ai.X, int .i64 ai.Y, int .i64 ai.H, string ai.Text, bool ai.Head, bool ai.Note, int .i64 aj.Node, int .i64 aj.Table, int .i64 aj.X, int .i64 aj.Y, int .i64 aj.H, string aj.Text, bool aj.Head, bool aj.Note, int .i64 ak.Node, int .i64 ak.Table, int .i64 ak.X, int .i64 ak.Y, int .i64 ak.H, string ak.Text, bool ak.Head, bool ak.Note]) cA cP rfl (by decide) rfl (by kernel_rfl) (fun be fR em => ?_) (hw := gY rfl rfl rfl (fD aG))
 obtain ⟨fS, ck, en, eo⟩ := Hp.publish (xs := ([af, ai, aj, ak] : List ac)) (n := 4) ah em ⟨[int .i64 af.Node, int .i64 af.Table, int .i64 af.X, int .i64 af.Y, int .i64 af.H, string af.Text, bool af.Head, bool af.Note], _, rfl, (aH (x := af)), ⟨[int .i64 ai.Node, int .i64 ai.Table, int .i64 ai.X, int .i64 ai.Y, int .i64 ai.H, string ai.Text, bool ai.Head, bool ai.Note], _, rfl, (aH (x := ai)), ⟨[int .i64 aj.Node, int .i64 aj.Table, int .i64 aj.X, int .i64 aj.Y, int .i64 aj.H, string aj.Text, bool aj.Head, bool aj.Note], _, rfl, (aH (x := aj)), ⟨[int .i64 ak.Node, int .i64 ak.Table, int .i64 ak.X, int .i64 ak.Y, int .i64 ak.H, string ak.Text, bool ak.Head, bool ak.Note], _, rfl, (aH (x := ak)), rfl⟩⟩⟩⟩ rfl
 refine cf (hw:=gY z z z (vY aG)) (vs := [(0, int .i64 1), (1, slice (some ⟨be, 0, none⟩) ([af, ai, aj, ak] : List ac).length 4)]) (cs := [int .i64 1, slice (some ⟨be, 0, none⟩) ([af, ai, aj, ak] : List ac).length 4]) ib mK z z<|?_
 refine eh en (vs := [(0, agg [int .i64 1, slice (some ⟨be, 0, none⟩) ([af, ai, aj, ak] : List ac).length 4].toArray)]) (cs := [int .i64 1, slice (some ⟨be, 0, none⟩) ([af, ai, aj, ak] : List ac).length 4]) ko ib rfl (by decide) rfl (by kernel_rfl) (fun fT fU ep => ?_) (hw := gY rfl rfl rfl (fD aG))
 obtain ⟨fW, cl, eq, er⟩ := Hp.publish (xs := ([(⟨1, ([af, ai, aj, ak] : List ac)⟩ : ap)] : List ap)) (n := 1) br ep ⟨[int .i64 1, slice (some ⟨be, 0, none⟩) ([af, ai, aj, ak] : List ac).length 4], _, rfl, (d7 (x := (⟨1, ([af, ai, aj, ak] : List ac)⟩ : ap)) (show ([af, ai, aj, ak] : List ac).length ≤ 4 from Nat.le_of_ble_eq_true rfl) eo), rfl⟩ rfl
 refine bK H fun fX es H=>cv (hw:=gY z z z (vY aG)) p3 (eM (a6 := ([(⟨1, ([af, ai, aj, ak] : List ac)⟩ : ap)] : List ap)) es eq aB (Dat.mono (gT (gT (gT a2 a3) ck) cl) aC) (show ([(⟨1, ([af, ai, aj, ak] : List ac)⟩ : ap)] : List ap).length ≤ 1 from Nat.le_of_ble_eq_true z) er) z z fun fY et=>cY (vY aG) z<|nl<|have eu:=Hp.pick 13 [2, 3, 4, 5, 6, 7, 8, 9, 10, 11, 12] et z;?_
 cases H
 exact je ⟨z, tv⟩ (Hp.low (gT ck cl) eu)
 refine nK aG H fun H=>Sk 9 z z (vN aG) z<|dm (vN aG) z<|nl<|?_
 cases H
 exact je ⟨z, tv⟩ bO
 refine aK z<|nl<|d9 _ _ _<|wr<|have ev:=Hp.pick 11 [] eb z;?_
 cases H
 exact rt ⟨_, _, z, z, z⟩ (Hp.low (gT (gT (gT (gT (gT (gT s bX) bs) bZ) l) a2) a3) ev)
theorem jw {a1 f g j G L w} (H : eJ a1 = some j) (hI : Hp G L w) (J : a1.length ≤ g) (n : Dat ah G f a1) :
    Calls Try.prog 17 [slice f a1.length g].toArray w fun e w' => Hp G L w' ∧ e = .returned (bool j) := by
 refine aw (N := 20) Try.func17 z z (Nat.le_of_ble_eq_true z)<|?_
 unfold eJ at H
 refine sr fun K p=>aK z<|nl<|p _ _ _<|sQ fun M q=>sr fun O s=>aK z<|nl<|s _ _ _<|wb<|bK H fun i hC H=>aP (Q := fun e r ds w => match (generalizing := false) i with | (Sum.inl _) => e = .ret ∧ ds = [] ∧ Has [(2, bool false)] r ∧ Hp G (L) w ∧ True | (Sum.inr _) => e = .exit 0 ∧ ds = [] ∧ Has [(0, slice f a1.length g)] r ∧ Hp G (L) w ∧ True) ?_ ?_
 refine bH fun I m=>?_
 refine cn.partial_correctness a1 (fun b o => ∀ (r : Rg) (w : World), Has [(0, slice f a1.length g), (3, int .i64 b)] r → Hp G (L) w → o = i → I r [] w) ?_ 0 _ hC _ _ ⟨rfl, rfl, tv⟩ hI rfl
 intro _ ih b o H r P a h ho
 rw [ho] at H; clear ho
 rw [a.eq]; clear a
 refine m _ _ _<|sQ fun R t=>sr fun S u=>mv z<|mv z<|q_len dA z<|cZ z z<|nl<|u _ _ _<|dC (b < (a1.length : Int)) (fun c=>?_) fun c=>?_
 refine yK c H fun H=>wt (bY c)<|ws<|t _ _ _<|sQ fun T v=>wb<|sr fun U x=>mv z<|mv z<|iK H fun⟨k, l⟩H=>?_
 obtain ⟨V, W, y, A, X, B⟩ := Dat.get n aa (b) k l
 obtain ⟨rfl⟩ := aF A
 refine bL cA z y z k l<|eS kY z z<|et h rb z (gR.cel _ _ (B 5 _ z))<|mb qp z<|gq z z<|nl<|x _ _ _<|dC (200 < (((a1.getD (Int.toNat b) aa).Text).size : Int)) (fun d=>?_) fun d=>?_
 refine yK d H fun H=>wt (bY d)<|sr fun Y C=>aK z<|nl<|C _ _ _<|wr<|?_
 cases H
 exact ⟨z, z, ⟨z, tv⟩, h, tv⟩
 exact nK d H fun H=>wf (bN d)<|ws<|v _ _ _<|aA<|mv z<|bm z z<|aK z<|nl<|ih _ _ H _ _ ⟨z, z, tv⟩ h z
 refine nK c H fun H=>wf (bN c)<|wx<|?_
 cases H
 exact ⟨z, z, ⟨z, tv⟩, h, tv⟩
 rcases i with _ | _
 rintro e r ds Z ⟨rfl, rfl, a, D, _⟩
 rw [a.eq]; clear a
 cases H
 exact rt ⟨_, _, z, z, z⟩ D
 rintro e r ds ab ⟨rfl, rfl, a, E, _⟩
 rw [a.eq]; clear a
 refine q _ _ _<|sr fun ac F=>mv z<|q_len dA z<|dq z z<|aK z<|nl<|F _ _ _<|wr<|?_
 cases H
 exact rt ⟨_, _, z, z, z⟩ E
theorem bZ {a1 b a3 c G L w} (H : b9 a1 b a3 = some c) (hI : Hp G L w) :
    Calls Try.prog 31 [int .i64 a1, int .i64 b, int .i64 a3].toArray w fun e w' => Hp G L w' ∧ e = .returned (bool c) := by
 refine aw (N := 15) Try.func31 z z (Nat.le_of_ble_eq_true z)<|?_
 unfold b9 at H
 refine sr fun i d=>aK z<|nl<|d _ _ _<|sr fun j f=>mv z<|mv z<|dq z z<|mv z<|bK H fun g hC H=>js 4 hI [(14, bool g)] ?_ fun _ k h=>?_
 refine have H:=hC;dC (b ≤ a1) (fun a=>?_) fun a=>?_
 refine yK a H fun H=>mv (hw:=gY z z z (bY a)) z<|mv (hw:=gY z z z (bY a)) z<|dq (hw:=gY z z z (bY a)) z z<|cY (bY a) z<|nl<|?_
 cases H
 exact je ⟨z, tv⟩ hI
 refine nK a H fun H=>Sk 3 z z (bN a) z<|dm (bN a) z<|nl<|?_
 cases H
 exact je ⟨z, tv⟩ hI
 refine aK z<|nl<|f _ _ _<|wr<|?_
 cases H
 exact rt ⟨_, _, z, z, z⟩ h
theorem iB {a1 m G L w} (H : dK a1 = some m) (hI : Hp G L w) :
    Calls Try.prog 32 [agg [int .i64 a1.Width, int .i64 a1.Scale, int .i64 a1.Lang].toArray].toArray w fun e w' => Hp G L w' ∧ e = .returned (bool m) := by
 refine aw (N := 31) Try.func32 z z (Nat.le_of_ble_eq_true z)<|?_
 unfold dK at H
 refine sr fun x r=>jW hI z z fun h y g=>aK z<|nl<|r _ _ _<|sr fun A s=>fa lL z<|ld g 0 bb z z z<|gS z z<|mv z<|bK H fun n hC H=>js 4 g [(1, pointer (some ⟨h, 0, none⟩)), (10, bool n)] ?_ fun _ B i=>?_
 refine have H:=hC;dC (0 ≤ a1.Lang) (fun a=>?_) fun a=>?_
 refine yK a H fun H=>fa (hw:=gY z z z (bY a)) lL z<|ld (hw:=gY z z z (bY a)) g 0 bb z z z<|cZ (hw:=gY z z z (bY a)) z z<|cY (bY a) z<|nl<|?_
 cases H
 exact je ⟨z, z, tv⟩ g
 refine nK a H fun H=>Sk 3 z z (bN a) z<|dm (bN a) z<|nl<|?_
 cases H
 exact je ⟨z, z, tv⟩ g
 refine mv z<|bK H fun o hC H=>js 4 i [(1, pointer (some ⟨h, 0, none⟩)), (15, bool o)] ?_ fun _ C j=>?_
 refine have H:=hC;dC (n = true) (fun b=>?_) fun b=>?_
 refine yK b H fun H=>fa (hw:=gY z z z (vY b)) kU z<|ld (hw:=gY z z z (vY b)) i 0 bb z z z<|gS (hw:=gY z z z (vY b)) z z<|cY (vY b) z<|nl<|?_
 cases H
 exact je ⟨z, z, tv⟩ i
 refine nK b H fun H=>Sk 3 z z (vN b) z<|dm (vN b) z<|nl<|?_
 cases H
 exact je ⟨z, z, tv⟩ i
 refine mv z<|bK H fun p hC H=>js 4 j [(1, pointer (some ⟨h, 0, none⟩)), (20, bool p)] ?_ fun _ D k=>?_
 refine have H:=hC;dC (o = true) (fun c=>?_) fun c=>?_
 refine yK c H fun H=>fa (hw:=gY z z z (vY c)) kU z<|ld (hw:=gY z z z (vY c)) j 0 bb z z z<|dq (hw:=gY z z z (vY c)) z z<|cY (vY c) z<|nl<|?_
 cases H
 exact je ⟨z, z, tv⟩ j
 refine nK c H fun H=>Sk 3 z z (vN c) z<|dm (vN c) z<|nl<|?_
 cases H
 exact je ⟨z, z, tv⟩ j
 refine mv z<|bK H fun q hC H=>js 4 k [(1, pointer (some ⟨h, 0, none⟩)), (25, bool q)] ?_ fun _ E l=>?_
 refine have H:=hC;dC (p = true) (fun d=>?_) fun d=>?_
 refine yK d H fun H=>fa (hw:=gY z z z (vY d)) kV z<|ld (hw:=gY z z z (vY d)) k 0 bb z z z<|gS (hw:=gY z z z (vY d)) z z<|cY (vY d) z<|nl<|?_
 cases H
 exact je ⟨z, z, tv⟩ k
 refine nK d H fun H=>Sk 3 z z (vN d) z<|dm (vN d) z<|nl<|?_
 cases H
 exact je ⟨z, z, tv⟩ k
 refine mv z<|bK H fun t hC H=>js 4 l [(30, bool t)] ?_ fun _ F u=>?_
 refine have H:=hC;dC (q = true) (fun f=>?_) fun f=>?_
 refine yK f H fun H=>fa (hw:=gY z z z (vY f)) kV z<|ld (hw:=gY z z z (vY f)) l 0 bb z z z<|dq (hw:=gY z z z (vY f)) z z<|cY (vY f) z<|nl<|?_
 cases H
 exact je ⟨z, tv⟩ l
 refine nK f H fun H=>Sk 3 z z (vN f) z<|dm (vN f) z<|nl<|?_
 cases H
 exact je ⟨z, tv⟩ l
 refine aK z<|nl<|s _ _ _<|wr<|have v:=Hp.pick 1 [] u z;?_
 cases H
 exact rt ⟨_, _, z, z, z⟩ v
theorem iI {a1 b G L w} (H : dI a1 = some b) (hI : Hp G L w) :
    Calls Try.prog 48 [agg [int .i64 a1.Width, int .i64 a1.Height, int .i64 a1.Columns, int .i64 a1.Gap, int .i64 a1.Scale, int .i64 a1.Lang].toArray].toArray w fun e w' => Hp G L w' ∧ e = .returned (int .i64 b) := by
 refine aw (N := 16) Try.func48 z z (Nat.le_of_ble_eq_true z)<|?_
 unfold dI at H
 refine sr fun h c=>jW hI z z fun i j a=>aK z<|nl<|c _ _ _<|sr fun k d=>fa ma z<|ld a 0 bb z z z<|fa kI z<|ld a 0 bb z z z<|fa jn z<|ld a 0 bb z z z<|b6 z z<|nB z z<|?_
 refine b6 z z<|fa jn z<|ld a 0 bb z z z<|iK H fun f H=>pM z z f<|dR z z<|aK z<|nl<|d _ _ _<|wr<|have g:=Hp.pick 1 [] a z;?_
 cases H
 exact rt ⟨_, _, z, z, z⟩ g
theorem iF {a1 s G L w} (H : eC a1 = some s) (hI : Hp G L w) :
    Calls Try.prog 33 [agg [int .i64 a1.Width, int .i64 a1.Height, int .i64 a1.Columns, int .i64 a1.Gap, int .i64 a1.Scale, int .i64 a1.Lang].toArray].toArray w fun e w' => Hp G L w' ∧ e = .returned (agg [int .i64 s.Width, int .i64 s.Scale, int .i64 s.Lang].toArray) := by
 refine aw (N := 10) Try.func33 z z (Nat.le_of_ble_eq_true z)<|?_
 unfold eC at H
 refine sr fun I u=>jW hI z z fun l J v=>bQ v pG fun q K x=>nl<|u _ _ _<|sQ fun M y=>bK H fun m A H=>?_
 refine aM [0, 1, 0, 4, 0, 16, 63, 127] (fun D r w => (D 7 = false ∧ ∃ (G' : Gh), G ≤ G' ∧ ag [(1, pointer (some ⟨l, 0, none⟩)), (2, pointer (some ⟨q, 0, none⟩))] [] [(0, 3, agg [int .i64 a1.Width, int .i64 a1.Height, int .i64 a1.Columns, int .i64 a1.Gap, int .i64 a1.Scale, int .i64 a1.Lang].toArray), (1, 4, int .i64 m), (2, 5, pointer (some ⟨l, 4, none⟩)), (3, 6, int .i64 a1.Scale), (4, 7, pointer (some ⟨l, 5, none⟩)), (5, 8, int .i64 a1.Lang), (6, 9, agg [int .i64 m, int .i64 a1.Scale, int .i64 a1.Lang].toArray)] D r ∧ Hp G' (bx q [int .i64 0, int .i64 0, int .i64 0] 77 :: bx l [int .i64 a1.Width, int .i64 a1.Height, int .i64 a1.Columns, int .i64 a1.Gap, int .i64 a1.Scale, int .i64 a1.Lang] 23 :: L) w) ∨ (D 7 = true ∧ ∃ (G' : Gh), G ≤ G' ∧ ag [(1, pointer (some ⟨l, 0, none⟩)), (2, pointer (some ⟨q, 0, none⟩))] [] [(0, 3, agg [int .i64 a1.Width, int .i64 a1.Height, int .i64 a1.Columns, int .i64 a1.Gap, int .i64 a1.Scale, int .i64 a1.Lang].toArray), (1, 4, int .i64 m), (2, 5, pointer (some ⟨l, 4, none⟩)), (3, 6, int .i64 a1.Scale), (4, 7, pointer (some ⟨l, 5, none⟩)), (5, 8, int .i64 a1.Lang), (6, 9, agg [int .i64 m, int .i64 a1.Scale, int .i64 a1.Lang].toArray)] D r ∧ Hp G' (bx q [int .i64 m, int .i64 a1.Scale, int .i64 a1.Lang] 77 :: bx l [int .i64 a1.Width, int .i64 a1.Height, int .i64 a1.Columns, int .i64 a1.Gap, int .i64 a1.Scale, int .i64 a1.Lang] 23 :: L) w)) dJ z z ?_ ?_ ?_
 exact (.inl ⟨z, _, Gh.le_refl _, ag.start ⟨z, z, tv⟩ trivial, x.drew⟩)
 refine ⟨?_, ?_, ?_, ?_, ?_, ?_, ?_, ?_, tv⟩
 rintro D r n (⟨f, d, c, a, b⟩ | ⟨h, d, c, a, b⟩) i j k
 obtain ⟨p, rfl⟩ := Has.ex (cC (a.ins.get 0 rfl) cN)
 exact gg b 1 k6 z z z z<|nl ⟨z, (.inl ⟨f, _, c, (ag.step a i z z z z), b⟩)⟩
 cases (k 7 rfl).symm.trans h
 rintro D r n (⟨f, d, c, a, b⟩ | ⟨h, d, c, a, b⟩) i j k
 obtain ⟨p, rfl⟩ := Has.ex (cC (a.get 0 rfl (j 0 rfl)) cN)
 exact cv bo48 (iI A b) z z fun O B=>nl ⟨z, (.inl ⟨f, _, c, (ag.step a i z z z z), B⟩)⟩
 cases (k 7 rfl).symm.trans h
 rintro D r n (⟨f, d, c, a, b⟩ | ⟨h, d, c, a, b⟩) i j k
 obtain ⟨p, rfl⟩ := Has.ex (cC (a.ins.get 0 rfl) cN)
 exact fa pd z<|nl ⟨z, (.inl ⟨f, _, c, (ag.step a i z z z z), b⟩)⟩
 cases (k 7 rfl).symm.trans h
 rintro D r n (⟨f, d, c, a, b⟩ | ⟨h, d, c, a, b⟩) i j k
 obtain ⟨p, rfl⟩ := Has.ex (cC (a.get 2 rfl (j 2 rfl)) cN)
 exact ld b 1 bb z z z<|nl ⟨z, (.inl ⟨f, _, c, (ag.step a i z z z z), b⟩)⟩
 cases (k 7 rfl).symm.trans h
 rintro D r n (⟨f, d, c, a, b⟩ | ⟨h, d, c, a, b⟩) i j k
 obtain ⟨p, rfl⟩ := Has.ex (cC (a.ins.get 0 rfl) cN)
 exact fa oZ z<|nl ⟨z, (.inl ⟨f, _, c, (ag.step a i z z z z), b⟩)⟩
 cases (k 7 rfl).symm.trans h
 rintro D r n (⟨f, d, c, a, b⟩ | ⟨h, d, c, a, b⟩) i j k
 obtain ⟨p, rfl⟩ := Has.ex (cC (a.get 4 rfl (j 4 rfl)) cN)
 exact ld b 1 bb z z z<|nl ⟨z, (.inl ⟨f, _, c, (ag.step a i z z z z), b⟩)⟩
 cases (k 7 rfl).symm.trans h
 rintro D r n (⟨f, d, c, a, b⟩ | ⟨h, d, c, a, b⟩) i j k
 obtain ⟨p, rfl⟩ := Has.ex (cC (a.get 1 rfl (j 1 rfl)) (cC (a.get 3 rfl (j 3 rfl)) (cC (a.get 5 rfl (j 5 rfl)) cN)))
 exact cf (vs := [(0, int .i64 m), (1, int .i64 a1.Scale), (2, int .i64 a1.Lang)]) (cs := [int .i64 m, int .i64 a1.Scale, int .i64 a1.Lang]) pG qs z z<|nl ⟨z, (.inl ⟨f, _, c, (ag.step a i z z z z), b⟩)⟩
 cases (k 7 rfl).symm.trans h
 rintro D r n (⟨f, d, c, a, b⟩ | ⟨h, d, c, a, b⟩) i j k
 obtain ⟨p, rfl⟩ := Has.ex (cC (a.ins.get 1 rfl) (cC (a.get 6 rfl (j 6 rfl)) cN))
 exact f5 b 0 nQ z z z z z z z fun Q C=>nl ⟨z, (.inr ⟨z, _, c, (ag.stepN a z z), C⟩)⟩
 cases i.symm.trans h
 intro D r n t hR
 rcases hR with ⟨f, d, c, a, b⟩ | ⟨h, d, c, a, b⟩
 cases (t 7 (Nat.le_of_ble_eq_true rfl)).symm.trans f
 obtain ⟨p, rfl⟩ := Has.ex (cC (a.ins.get 1 rfl) cN)
 refine y _ _ _<|wr<|have E:=gA (P := Try.prog) b 0 (cs := [int .i64 m, int .i64 a1.Scale, int .i64 a1.Lang]) (g := q) (o := 0) nQ z z z;have F:=Hp.pick 2 [] b z;?_
 cases H
 exact rt ⟨_, _, _, z, z, E, z⟩ (Hp.low c F)
theorem i4 {a1 k G L w} (H : dX a1 = some k) (hI : Hp G L w) :
    Calls Try.prog 18 [agg [int .i64 a1.Width, int .i64 a1.Height, int .i64 a1.Columns, int .i64 a1.Gap, int .i64 a1.Scale, int .i64 a1.Lang].toArray].toArray w fun e w' => Hp G L w' ∧ e = .returned (bool k) := by
 refine aw (N := 28) Try.func18 z z (Nat.le_of_ble_eq_true z)<|?_
 unfold dX at H
 refine sr fun O p=>jW hI z z fun i P l=>aK z<|nl<|p _ _ _<|sQ fun Q q=>sr fun R r=>fa jn z<|ld l 0 bb z z z<|bK H fun s t H=>cv mz (bZ t l) z z fun S f=>bV z<|mv z<|bK H fun m hC H=>?_
 refine js 5 f [(1, pointer (some ⟨i, 0, none⟩)), (12, bool m)] ?_ fun _ T g=>?_
 refine have H:=hC;dC ((!s) = true) (fun a=>?_) fun a=>?_
 refine yK a H fun H=>Sk 4 z z (vY a) z<|cY (vY a) z<|nl<|?_
 cases H
 exact je ⟨z, z, tv⟩ f
 refine nK a H fun H=>fa (hw:=gY z z z (vN a)) kI z<|ld (hw:=gY z z z (vN a)) f 0 bb z z z<|bK H fun U u H=>cv (hw:=gY z z z (vN a)) mz (bZ u f) z z fun V v=>bV (hw:=gY z z z (vN a)) z<|dm (vN a) z<|nl<|?_
 cases H
 exact je ⟨z, z, tv⟩ v
 refine mv z<|bK H fun n hC H=>js 5 g [(1, pointer (some ⟨i, 0, none⟩)), (18, bool n)] ?_ fun _ W h=>?_
 refine have H:=hC;dC (m = true) (fun b=>?_) fun b=>?_
 refine yK b H fun H=>Sk 4 z z (vY b) z<|cY (vY b) z<|nl<|?_
 cases H
 exact je ⟨z, z, tv⟩ g
 refine nK b H fun H=>fa (hw:=gY z z z (vN b)) ma z<|ld (hw:=gY z z z (vN b)) g 0 bb z z z<|bK H fun X x H=>cv (hw:=gY z z z (vN b)) mz (bZ x g) z z fun Y y=>bV (hw:=gY z z z (vN b)) z<|dm (vN b) z<|nl<|?_
 cases H
 exact je ⟨z, z, tv⟩ y
 refine mv z<|bK H fun o hC H=>js 5 h [(1, pointer (some ⟨i, 0, none⟩)), (24, bool o)] ?_ fun _ Z j=>?_
 refine have H:=hC;dC (n = true) (fun c=>?_) fun c=>?_
 refine yK c H fun H=>Sk 4 z z (vY c) z<|cY (vY c) z<|nl<|?_
 cases H
 exact je ⟨z, z, tv⟩ h
 refine nK c H fun H=>fa (hw:=gY z z z (vN c)) gZ z<|ld (hw:=gY z z z (vN c)) h 0 bb z z z<|bK H fun aa A H=>cv (hw:=gY z z z (vN c)) mz (bZ A h) z z fun ab B=>bV (hw:=gY z z z (vN c)) z<|dm (vN c) z<|nl<|?_
 cases H
 exact je ⟨z, z, tv⟩ B
 refine nl<|r _ _ _<|dC (o = true) (fun d=>?_) fun d=>?_
 refine yK d H fun H=>wt (vY d)<|sr fun ac C=>aK z<|nl<|C _ _ _<|wr<|have D:=Hp.pick 1 [] j z;?_
 cases H
 exact rt ⟨_, _, z, z, z⟩ D
 refine nK d H fun H=>wf (vN d)<|ws<|q _ _ _<|sr fun ad E=>gg j 0 k6 z z z z<|bK H fun ae F H=>cv bo33 (iF F j) z z fun af I=>bK H fun ag J H=>cv bo32 (iB J I) z z fun ah K=>aK z<|nl<|E _ _ _<|wr<|?_
 refine have M:=Hp.pick 1 [] K z;?_
 cases H
 exact rt ⟨_, _, z, z, z⟩ M
theorem iT {a1 o G L w} (H : dY a1 = some o) (hI : Hp G L w) :
    Calls Try.prog 49 [int .u8 a1].toArray w fun e w' => Hp G L w' ∧ e = .returned (int .i64 o) := by
 refine aw (N := 31) Try.func49 z z (Nat.le_of_ble_eq_true z)<|?_
 unfold dY at H
 refine sr fun U u=>aK z<|nl<|u _ _ _<|sQ fun V v=>sr fun W x=>mv z<|gS z z<|mv z<|bK H fun p hC H=>js 3 hI [(0, int .u8 a1), (8, bool p)] ?_ fun _ X m=>?_
 refine have H:=hC;dC (97 ≤ a1) (fun a=>?_) fun a=>?_
 refine yK a H fun H=>mv (hw:=gY z z z (bY a)) z<|dq (hw:=gY z z z (bY a)) z z<|cY (bY a) z<|nl<|?_
 cases H
 exact je ⟨z, z, tv⟩ hI
 refine nK a H fun H=>Sk 2 z z (bN a) z<|dm (bN a) z<|nl<|?_
 cases H
 exact je ⟨z, z, tv⟩ hI
 refine nl<|x _ _ _<|dC (p = true) (fun g=>?_) fun g=>?_
 refine yK g H fun H=>wt (vY g)<|sr fun Y y=>aK z<|nl<|y _ _ _<|wr<|?_
 cases H
 exact rt ⟨_, _, z, z, z⟩ m
 refine nK g H fun H=>wf (vN g)<|ws<|v _ _ _<|sQ fun Z A=>sr fun aa B=>mv z<|gS z z<|mv z<|bK H fun q hC H=>js 3 m [(0, int .u8 a1), (14, bool q)] ?_ fun _ ab n=>?_
 refine have H:=hC;dC (65 ≤ a1) (fun b=>?_) fun b=>?_
 refine yK b H fun H=>mv (hw:=gY z z z (bY b)) z<|dq (hw:=gY z z z (bY b)) z z<|cY (bY b) z<|nl<|?_
 cases H
 exact je ⟨z, z, tv⟩ m
 refine nK b H fun H=>Sk 2 z z (bN b) z<|dm (bN b) z<|nl<|?_
 cases H
 exact je ⟨z, z, tv⟩ m
 refine nl<|B _ _ _<|dC (q = true) (fun h=>?_) fun h=>?_
 refine yK h H fun H=>wt (vY h)<|sr fun ac C=>aK z<|nl<|C _ _ _<|wr<|?_
 cases H
 exact rt ⟨_, _, z, z, z⟩ n
 refine nK h H fun H=>wf (vN h)<|ws<|A _ _ _<|sQ fun ad D=>sr fun ae E=>mv z<|gS z z<|mv z<|bK H fun r hC H=>js 3 n [(0, int .u8 a1), (20, bool r)] ?_ fun _ af f=>?_
 refine have H:=hC;dC (48 ≤ a1) (fun c=>?_) fun c=>?_
 refine yK c H fun H=>mv (hw:=gY z z z (bY c)) z<|dq (hw:=gY z z z (bY c)) z z<|cY (bY c) z<|nl<|?_
 cases H
 exact je ⟨z, z, tv⟩ n
 refine nK c H fun H=>Sk 2 z z (bN c) z<|dm (bN c) z<|nl<|?_
 cases H
 exact je ⟨z, z, tv⟩ n
 refine nl<|E _ _ _<|dC (r = true) (fun i=>?_) fun i=>?_
 refine yK i H fun H=>wt (vY i)<|sr fun ag F=>aK z<|nl<|F _ _ _<|wr<|?_
 cases H
 exact rt ⟨_, _, z, z, z⟩ f
 refine nK i H fun H=>wf (vN i)<|ws<|D _ _ _<|sQ fun ah I=>sr fun ai J=>mv z<|ei z z<|nl<|J _ _ _<|dC (a1 = 32) (fun j=>?_) fun j=>?_
 refine yK j H fun H=>wt (bY j)<|sr fun aj K=>aK z<|nl<|K _ _ _<|wr<|?_
 cases H
 exact rt ⟨_, _, z, z, z⟩ f
 refine nK j H fun H=>wf (bN j)<|ws<|I _ _ _<|sQ fun ak M=>sr fun al O=>mv z<|ei z z<|nl<|O _ _ _<|dC (a1 = 126) (fun k=>?_) fun k=>?_
 refine yK k H fun H=>wt (bY k)<|sr fun am P=>aK z<|nl<|P _ _ _<|wr<|?_
 cases H
 exact rt ⟨_, _, z, z, z⟩ f
 refine nK k H fun H=>wf (bN k)<|ws<|M _ _ _<|sQ fun an Q=>sr fun ao R=>mv z<|gq z z<|mv z<|bK H fun s hC H=>js 3 f [(30, bool s)] ?_ fun _ ap t=>?_
 refine have H:=hC;dC (32 < a1) (fun d=>?_) fun d=>?_
 refine yK d H fun H=>mv (hw:=gY z z z (bY d)) z<|cZ (hw:=gY z z z (bY d)) z z<|cY (bY d) z<|nl<|?_
 cases H
 exact je ⟨z, tv⟩ f
 refine nK d H fun H=>Sk 2 z z (bN d) z<|dm (bN d) z<|nl<|?_
 cases H
 exact je ⟨z, tv⟩ f
 refine nl<|R _ _ _<|dC (s = true) (fun l=>?_) fun l=>?_
 refine yK l H fun H=>wt (vY l)<|sr fun aq S=>aK z<|nl<|S _ _ _<|wr<|?_
 cases H
 exact rt ⟨_, _, z, z, z⟩ t
 refine nK l H fun H=>wf (vN l)<|ws<|Q _ _ _<|sr fun ar T=>aK z<|nl<|T _ _ _<|wr<|?_
 cases H
 exact rt ⟨_, _, z, z, z⟩ t
theorem iS {a1 g G L w} (H : cQ a1 = some g) (hI : Hp G L w) :
    Calls Try.prog 34 [string a1].toArray w fun e w' => Hp G L w' ∧ e = .returned (bool g) := by
 refine aw (N := 18) Try.func34 z z (Nat.le_of_ble_eq_true z)<|?_
 unfold cQ at H
 refine sr fun C k=>aK z<|nl<|k _ _ _<|sQ fun D l=>sr fun E m=>aK z<|nl<|m _ _ _<|wb<|bK H fun d hC H=>aP (Q := fun e r ds w => match (generalizing := false) d with | (Sum.inl _) => e = .ret ∧ ds = [] ∧ Has [(2, bool false)] r ∧ Hp G (L) w ∧ True | (Sum.inr _) => e = .exit 0 ∧ ds = [] ∧ Has [(0, string a1)] r ∧ Hp G (L) w ∧ True) ?_ ?_
 refine bH fun I j=>?_
 refine cy.partial_correctness a1 (fun f o => ∀ (r : Rg) (w : World), Has [(0, string a1), (3, int .i64 f)] r → Hp G (L) w → o = d → I r [] w) ?_ 0 _ hC _ _ ⟨rfl, rfl, tv⟩ hI rfl
 intro _ ih f o H r F a h ho
 rw [ho] at H; clear ho
 rw [a.eq]; clear a
 refine j _ _ _<|sQ fun J n=>sr fun K p=>mv z<|mv z<|mb qp z<|cZ z z<|nl<|p _ _ _<|dC (f < (a1.size : Int)) (fun b=>?_) fun b=>?_
 refine yK b H fun H=>wt (bY b)<|ws<|n _ _ _<|sQ fun M q=>wb<|sr fun O s=>mv z<|mv z<|iK H fun⟨t, u⟩H=>q_is qp z z t u z<|bK H fun y47 v H=>cv bo49 (iT v h) z z fun P i=>ei z z<|?_
 refine nl<|s _ _ _<|dC (y47 = 0) (fun c=>?_) fun c=>?_
 refine yK c H fun H=>wt (bY c)<|sr fun R x=>aK z<|nl<|x _ _ _<|wr<|?_
 cases H
 exact ⟨z, z, ⟨z, tv⟩, i, tv⟩
 exact nK c H fun H=>wf (bN c)<|ws<|q _ _ _<|aA<|mv z<|bm z z<|aK z<|nl<|ih _ _ H _ _ ⟨z, z, tv⟩ i z
 refine nK b H fun H=>wf (bN b)<|wx<|?_
 cases H
 exact ⟨z, z, ⟨z, tv⟩, h, tv⟩
 rcases d with _ | _
 rintro e r ds S ⟨rfl, rfl, a, y, _⟩
 rw [a.eq]; clear a
 cases H
 exact rt ⟨_, _, z, z, z⟩ y
 rintro e r ds T ⟨rfl, rfl, a, A, _⟩
 rw [a.eq]; clear a
 refine l _ _ _<|sr fun U B=>mv z<|mb qp z<|dq z z<|aK z<|nl<|B _ _ _<|wr<|?_
 cases H
 exact rt ⟨_, _, z, z, z⟩ A
theorem fO {a1 a G L w} (H : dk a1 = some a) (hI : Hp G L w) :
    Calls Try.prog 35 [int .i64 a1].toArray w fun e w' => Hp G L w' ∧ e = .returned (bool a) := by
 refine aw (N := 5) Try.func35 z z (Nat.le_of_ble_eq_true z)<|?_
 unfold dk at H
 refine sr fun g b=>aK z<|nl<|b _ _ _<|sr fun h c=>mv z<|bK H fun i d H=>cv mz (bZ d hI) z z fun j f=>aK z<|nl<|c _ _ _<|wr<|?_
 cases H
 exact rt ⟨_, _, z, z, z⟩ f
theorem iX {a1} {a6 : List Bool} {t u x y J G L w} (H : d5 a1 a6 = some J) (hI : Hp G L w) (aT : a1.length ≤ u) (K : Dat ah G t a1) (aU : a6.length ≤ y) (aV : Dat Kd.bool G x a6) :
    Calls Try.prog 19 [slice t a1.length u, slice x a6.length y].toArray w fun e w' => Hp G L w' ∧ e = .returned (bool J) := by
 refine aw (N := 78) Try.func19 z z (Nat.le_of_ble_eq_true z)<|?_
 unfold d5 at H
 refine sr fun aW af=>aK z<|nl<|af _ _ _<|sQ fun aX ag=>sr fun aY ai=>aK z<|nl<|ai _ _ _<|wb<|bK H fun D hC H=>aP (Q := fun e r ds w => match (generalizing := false) D with | (Sum.inl _) => e = .ret ∧ ds = [] ∧ Has [(4, bool false)] r ∧ Hp G (L) w ∧ True | (Sum.inr _) => e = .exit 0 ∧ ds = [] ∧ Has [(0, slice t a1.length u), (1, slice x a6.length y)] r ∧ Hp G (L) w ∧ True) ?_ ?_
 refine bH fun I ae=>?_
 refine bC.partial_correctness a1 (fun b o => ∀ (r : Rg) (w : World), Has [(0, slice t a1.length u), (1, slice x a6.length y), (5, int .i64 b)] r → Hp G (L) w → o = D → I r [] w) ?_ 0 _ hC _ _ ⟨rfl, rfl, rfl, tv⟩ hI rfl
 intro _ ih b o H r aZ p E ho
 rw [ho] at H; clear ho
 rw [p.eq]; clear p
 refine ae _ _ _<|sQ fun a0 ak=>sr fun a2 am=>mv z<|mv z<|q_len dA z<|cZ z z<|nl<|am _ _ _<|dC (b < (a1.length : Int)) (fun A=>?_) fun A=>?_
 refine yK A H fun H=>wt (bY A)<|ws<|ak _ _ _<|sQ fun a3 an=>wb<|sr fun a4 ao=>mv z<|mv z<|iK H fun⟨M, O⟩H=>?_
 obtain ⟨a5, a7, ap, aq, a8, ar⟩ := Dat.get K aa (b) M O
 obtain ⟨rfl⟩ := aF aq
 refine bL cA z ap z M O<|fq E dx z (cs := [int .i64 ((a1.getD (Int.toNat b) aa).Node), int .i64 ((a1.getD (Int.toNat b) aa).Table), int .i64 ((a1.getD (Int.toNat b) aa).X), int .i64 ((a1.getD (Int.toNat b) aa).Y), int .i64 ((a1.getD (Int.toNat b) aa).H), string ((a1.getD (Int.toNat b) aa).Text), bool ((a1.getD (Int.toNat b) aa).Head), bool ((a1.getD (Int.toNat b) aa).Note)]) z (fun j v hv => gR.cel _ _ (ar j v hv))<|bQ E cP fun a9 ba au=>f5 au 0 dx z z z z z z z fun bd P=>nl<|ao _ _ _<|sr fun be av=>fa kY z<|ld P 0 rb z z z<|bK H fun ax ay H=>cv bo34 (iS ay P) z z fun bf R=>aK z<|nl<|av _ _ _<|?_
 refine sQ fun bg az=>bK H fun S hC H=>jc .normal R [(0, slice t a1.length u), (1, slice x a6.length y), (5, int .i64 b), (67, bool S)] ?_ fun _ bh T=>?_
 refine have H:=hC;?_
 refine jq R dJ (by kernel_rfl) ?_
 refine cw (fun Gq w hGq Iq=>mv z bc) z z<|cw (fun Gq w hGq Iq=>bV z bc) z z<|cw (fun Gq w hGq Iq=>mv z bc) z z<|dC ((!ax) = true) (fun g=>?_) fun g=>?_
 refine yK g H fun H=>wp (al z z z (vY g) z)<|wp (al z z z (vY g) z)<|wp (al z z z (vY g) z)<|wp (al z z z (vY g) z)<|cw (fun Gq w hGq Iq=>cY (vY g) z bc) z z<|cw (fun Gq w hGq Iq=>mv z bc) z z<|wp (al z z z z z)<|wp (al z z z z z)<|wp (al z z z z z)<|wp (al z z z z z)<|cw (fun Gq w hGq Iq=>cY z z bc) z z<|cw (fun Gq w hGq Iq=>mv z bc) z z<|wp (al z z z z z)<|?_
 refine wp (al z z z z z)<|wp (al z z z z z)<|wp (al z z z z z)<|cw (fun Gq w hGq Iq=>cY z z bc) z z<|cw (fun Gq w hGq Iq=>mv z bc) z z<|wp (al z z z z z)<|wp (al z z z z z)<|wp (al z z z z z)<|wp (al z z z z z)<|cw (fun Gq w hGq Iq=>cY z z bc) z z<|cw (fun Gq w hGq Iq=>mv z bc) z z<|wp (al z z z z z)<|wp (al z z z z z)<|wp (al z z z z z)<|?_
 refine wp (al z z z z z)<|cw (fun Gq w hGq Iq=>cY z z bc) z z<|cw (fun Gq w hGq Iq=>mv z bc) z z<|wp (al z z z z z)<|wp (al z z z z z)<|wp (al z z z z z)<|wp (al z z z z z)<|wp (al z z z z z)<|wp (al z z z z z)<|wp (al z z z z z)<|wp (al z z z z z)<|wp (al z z z z z)<|wp (al z z z z z)<|wp (al z z z z z)<|?_
 refine wp (al z z z z z)<|wp (al z z z z z)<|cw (fun Gq w hGq Iq=>cY z z bc) z z<|wz fun q s c d=>?_
 cases H
 exact je ⟨z, z, z, z, tv⟩ (Hp.low c d)
 refine nK g H fun H=>cw (fun Gq w hGq Iq=>fa (hw:=gY z z z (vN g)) iC z bc) z z<|cw (fun Gq w hGq Iq=>ld (hw:=gY z z z (vN g)) Iq 0 bb z z z bc) z z<|bK H fun U aB H=>wk (vs := [int .i64 ((a1.getD (Int.toNat b) aa).Node), int .i64 1, int .i64 1000000]) (v := bool U) mz z z (fun Gq w hGq Iq => ?_) ?_ (hw := gY z z z (fF g))
 refine Calls.mono (bZ aB Iq)<|?_
 rintro _ C ⟨n, rfl⟩
 exact ⟨z, _, hGq, n⟩
 refine cw (fun Gq w hGq Iq=>bV (hw:=gY z z z (vN g)) z bc) z z<|cw (fun Gq w hGq Iq=>dm (vN g) z bc) z z<|cw (fun Gq w hGq Iq=>mv z bc) z z<|dC ((!U) = true) (fun h=>?_) fun h=>?_
 refine yK h H fun H=>wp (al z z z (vY h) z)<|wp (al z z z (vY h) z)<|wp (al z z z (vY h) z)<|wp (al z z z (vY h) z)<|cw (fun Gq w hGq Iq=>cY (vY h) z bc) z z<|cw (fun Gq w hGq Iq=>mv z bc) z z<|wp (al z z z z z)<|wp (al z z z z z)<|wp (al z z z z z)<|wp (al z z z z z)<|cw (fun Gq w hGq Iq=>cY z z bc) z z<|cw (fun Gq w hGq Iq=>mv z bc) z z<|wp (al z z z z z)<|?_
 refine wp (al z z z z z)<|wp (al z z z z z)<|wp (al z z z z z)<|cw (fun Gq w hGq Iq=>cY z z bc) z z<|cw (fun Gq w hGq Iq=>mv z bc) z z<|wp (al z z z z z)<|wp (al z z z z z)<|wp (al z z z z z)<|wp (al z z z z z)<|cw (fun Gq w hGq Iq=>cY z z bc) z z<|cw (fun Gq w hGq Iq=>mv z bc) z z<|wp (al z z z z z)<|wp (al z z z z z)<|wp (al z z z z z)<|?_
 refine wp (al z z z z z)<|wp (al z z z z z)<|wp (al z z z z z)<|wp (al z z z z z)<|wp (al z z z z z)<|wp (al z z z z z)<|wp (al z z z z z)<|wp (al z z z z z)<|wp (al z z z z z)<|wp (al z z z z z)<|cw (fun Gq w hGq Iq=>cY z z bc) z z<|wz fun q s c d=>?_
 cases H
 exact je ⟨z, z, z, z, tv⟩ (Hp.low c d)
 refine nK h H fun H=>cw (fun Gq w hGq Iq=>fa (hw:=gY z z z (vN h)) hX z bc) z z<|cw (fun Gq w hGq Iq=>ld (hw:=gY z z z (vN h)) Iq 0 bb z z z bc) z z<|bK H fun V aC H=>wk (vs := [int .i64 ((a1.getD (Int.toNat b) aa).Table), int .i64 0, int .i64 1000000]) (v := bool V) mz z z (fun Gq w hGq Iq => ?_) ?_ (hw := gY z z z (fF h))
 refine Calls.mono (bZ aC Iq)<|?_
 rintro _ C ⟨n, rfl⟩
 exact ⟨z, _, hGq, n⟩
 refine cw (fun Gq w hGq Iq=>bV (hw:=gY z z z (vN h)) z bc) z z<|cw (fun Gq w hGq Iq=>dm (vN h) z bc) z z<|cw (fun Gq w hGq Iq=>mv z bc) z z<|dC ((!V) = true) (fun i=>?_) fun i=>?_
 refine yK i H fun H=>wp (al z z z (vY i) z)<|wp (al z z z (vY i) z)<|wp (al z z z (vY i) z)<|wp (al z z z (vY i) z)<|cw (fun Gq w hGq Iq=>cY (vY i) z bc) z z<|cw (fun Gq w hGq Iq=>mv z bc) z z<|wp (al z z z z z)<|wp (al z z z z z)<|wp (al z z z z z)<|wp (al z z z z z)<|cw (fun Gq w hGq Iq=>cY z z bc) z z<|cw (fun Gq w hGq Iq=>mv z bc) z z<|wp (al z z z z z)<|?_
 refine wp (al z z z z z)<|wp (al z z z z z)<|wp (al z z z z z)<|cw (fun Gq w hGq Iq=>cY z z bc) z z<|cw (fun Gq w hGq Iq=>mv z bc) z z<|wp (al z z z z z)<|wp (al z z z z z)<|wp (al z z z z z)<|wp (al z z z z z)<|wp (al z z z z z)<|wp (al z z z z z)<|wp (al z z z z z)<|wp (al z z z z z)<|wp (al z z z z z)<|?_
 refine wp (al z z z z z)<|wp (al z z z z z)<|wp (al z z z z z)<|wp (al z z z z z)<|cw (fun Gq w hGq Iq=>cY z z bc) z z<|wz fun q s c d=>?_
 cases H
 exact je ⟨z, z, z, z, tv⟩ (Hp.low c d)
 refine nK i H fun H=>cw (fun Gq w hGq Iq=>fa (hw:=gY z z z (vN i)) hY z bc) z z<|cw (fun Gq w hGq Iq=>ld (hw:=gY z z z (vN i)) Iq 0 bb z z z bc) z z<|bK H fun W aD H=>wk (vs := [int .i64 ((a1.getD (Int.toNat b) aa).X)]) (v := bool W) qN z z (fun Gq w hGq Iq => ?_) ?_ (hw := gY z z z (fF i))
 refine Calls.mono (fO aD Iq)<|?_
 rintro _ C ⟨n, rfl⟩
 exact ⟨z, _, hGq, n⟩
 refine cw (fun Gq w hGq Iq=>bV (hw:=gY z z z (vN i)) z bc) z z<|cw (fun Gq w hGq Iq=>dm (vN i) z bc) z z<|cw (fun Gq w hGq Iq=>mv z bc) z z<|dC ((!W) = true) (fun k=>?_) fun k=>?_
 refine yK k H fun H=>wp (al z z z (vY k) z)<|wp (al z z z (vY k) z)<|wp (al z z z (vY k) z)<|wp (al z z z (vY k) z)<|cw (fun Gq w hGq Iq=>cY (vY k) z bc) z z<|cw (fun Gq w hGq Iq=>mv z bc) z z<|wp (al z z z z z)<|wp (al z z z z z)<|wp (al z z z z z)<|wp (al z z z z z)<|cw (fun Gq w hGq Iq=>cY z z bc) z z<|cw (fun Gq w hGq Iq=>mv z bc) z z<|wp (al z z z z z)<|?_
 refine wp (al z z z z z)<|wp (al z z z z z)<|wp (al z z z z z)<|wp (al z z z z z)<|wp (al z z z z z)<|wp (al z z z z z)<|wp (al z z z z z)<|wp (al z z z z z)<|wp (al z z z z z)<|wp (al z z z z z)<|wp (al z z z z z)<|wp (al z z z z z)<|cw (fun Gq w hGq Iq=>cY z z bc) z z<|wz fun q s c d=>?_
 cases H
 exact je ⟨z, z, z, z, tv⟩ (Hp.low c d)
 refine nK k H fun H=>cw (fun Gq w hGq Iq=>fa (hw:=gY z z z (vN k)) bn z bc) z z<|cw (fun Gq w hGq Iq=>ld (hw:=gY z z z (vN k)) Iq 0 bb z z z bc) z z<|bK H fun Z aE H=>wk (vs := [int .i64 ((a1.getD (Int.toNat b) aa).Y)]) (v := bool Z) qN z z (fun Gq w hGq Iq => ?_) ?_ (hw := gY z z z (fF k))
 refine Calls.mono (fO aE Iq)<|?_
 rintro _ C ⟨n, rfl⟩
 exact ⟨z, _, hGq, n⟩
 refine cw (fun Gq w hGq Iq=>bV (hw:=gY z z z (vN k)) z bc) z z<|cw (fun Gq w hGq Iq=>dm (vN k) z bc) z z<|cw (fun Gq w hGq Iq=>mv z bc) z z<|dC ((!Z) = true) (fun l=>?_) fun l=>?_
 refine yK l H fun H=>wp (al z z z (vY l) z)<|wp (al z z z (vY l) z)<|wp (al z z z (vY l) z)<|wp (al z z z (vY l) z)<|cw (fun Gq w hGq Iq=>cY (vY l) z bc) z z<|cw (fun Gq w hGq Iq=>mv z bc) z z<|wp (al z z z z z)<|wp (al z z z z z)<|wp (al z z z z z)<|wp (al z z z z z)<|wp (al z z z z z)<|wp (al z z z z z)<|wp (al z z z z z)<|?_
 refine wp (al z z z z z)<|wp (al z z z z z)<|wp (al z z z z z)<|wp (al z z z z z)<|wp (al z z z z z)<|wp (al z z z z z)<|cw (fun Gq w hGq Iq=>cY z z bc) z z<|wz fun q s c d=>?_
 cases H
 exact je ⟨z, z, z, z, tv⟩ (Hp.low c d)
 refine nK l H fun H=>cw (fun Gq w hGq Iq=>fa (hw:=gY z z z (vN l)) cm z bc) z z<|cw (fun Gq w hGq Iq=>ld (hw:=gY z z z (vN l)) Iq 0 bb z z z bc) z z<|bK H fun ab aG H=>wk (vs := [int .i64 ((a1.getD (Int.toNat b) aa).H), int .i64 0, int .i64 1000000]) (v := bool ab) mz z z (fun Gq w hGq Iq => ?_) ?_ (hw := gY z z z (fF l))
 refine Calls.mono (bZ aG Iq)<|?_
 rintro _ C ⟨n, rfl⟩
 exact ⟨z, _, hGq, n⟩
 refine cw (fun Gq w hGq Iq=>bV (hw:=gY z z z (vN l)) z bc) z z<|cw (fun Gq w hGq Iq=>dm (vN l) z bc) z z<|cw (fun Gq w hGq Iq=>mv z bc) z z<|dC ((!ab) = true) (fun f=>?_) fun f=>?_
 refine yK f H fun H=>wp (al z z z (vY f) z)<|wp (al z z z (vY f) z)<|wp (al z z z (vY f) z)<|wp (al z z z z z)<|wp (al z z z z z)<|wp (al z z z z z)<|wp (al z z z z z)<|wp (al z z z z z)<|wp (al z z z z z)<|wp (al z z z z z)<|wp (al z z z z z)<|wp (al z z z z z)<|wp (al z z z (vY f) z)<|?_
 refine cw (fun Gq w hGq Iq=>cY (vY f) z bc) z z<|wz fun q s c d=>?_
 cases H
 exact je ⟨z, z, z, z, tv⟩ (Hp.low c d)
 refine nK f H fun H=>cw (fun Gq w hGq Iq=>mv (hw:=gY z z z (vN f)) z bc) z z<|cw (fun Gq w hGq Iq=>gq (hw:=gY z z z (vN f)) z z bc) z z<|cw (fun Gq w hGq Iq=>mv (hw:=gY z z z (vN f)) z bc) z z<|dC (0 < b) (fun a=>?_) fun a=>?_
 refine yK a H fun H=>cw (fun Gq w hGq Iq=>fa (hw:=gY z z z (bY a)) bn z bc) z z<|cw (fun Gq w hGq Iq=>ld (hw:=gY z z z (bY a)) Iq 0 bb z z z bc) z z<|cw (fun Gq w hGq Iq=>mv (hw:=gY z z z (bY a)) z bc) z z<|cw (fun Gq w hGq Iq=>mv (hw:=gY z z z (bY a)) z bc) z z<|cw (fun Gq w hGq Iq=>b6 (hw:=gY z z z (bY a)) z z bc) z z<|iK H fun⟨ac, ad⟩H=>?_
 obtain ⟨bi, bj, aH, aI, bk, aJ⟩ := Dat.get K aa (aj (b - 1)) ac ad
 obtain ⟨rfl⟩ := aF aI
 refine cw (fun Gq w hGq Iq=>bL (hw:=gY z z z (bY a)) cA z aH z ac ad bc) z z<|cw (fun Gq w hGq Iq=>eS (hw:=gY z z z (bY a)) bn z z bc) z z<|cw (fun Gq w hGq Iq=>et (hw:=gY z z z (bY a)) Iq bb z (hGq.cel _ _ (aJ 3 _ z)) bc) z z<|cw (fun Gq w hGq Iq=>cZ (hw:=gY z z z (bY a)) z z bc) z z<|cw (fun Gq w hGq Iq=>cY (hw:=gY z z z (vN f)) (bY a) z bc) z z<|cw (fun Gq w hGq Iq=>dm (vN f) z bc) z z<|wz fun q s c d=>?_
 cases H
 exact je ⟨z, z, z, z, tv⟩ (Hp.low c d)
 refine nK a H fun H=>wp (al z z z (bN a) z)<|wp (al z z z (bN a) z)<|wp (al z z z (bN a) z)<|wp (al z z z (bN a) z)<|wp (al z z z (bN a) z)<|wp (al z z z (bN a) z)<|wp (al z z z (bN a) z)<|wp (al z z z (bN a) z)<|wp (al z z z (bN a) z)<|cw (fun Gq w hGq Iq=>dm (hw:=gY z z z (vN f)) (bN a) z bc) z z<|cw (fun Gq w hGq Iq=>dm (vN f) z bc) z z<|wz fun q s c d=>?_
 cases H
 exact je ⟨z, z, z, z, tv⟩ (Hp.low c d)
 refine az _ _ _<|dC (S = true) (fun B=>?_) fun B=>?_
 refine yK B H fun H=>wt (vY B)<|sr fun bl aL=>aK z<|nl<|aL _ _ _<|wr<|have aM:=Hp.pick 1 [] T z;?_
 cases H
 exact ⟨z, z, ⟨z, tv⟩, aM, tv⟩
 exact nK B H fun H=>wf (vN B)<|ws<|an _ _ _<|aA<|mv z<|bm z z<|aK z<|nl<|have aN:=Hp.pick 1 [] T z;ih _ _ H _ _ ⟨z, z, z, tv⟩ aN z
 refine nK A H fun H=>wf (bN A)<|wx<|?_
 cases H
 exact ⟨z, z, ⟨z, z, tv⟩, E, tv⟩
 rcases D with _ | _
 rintro e r ds bo ⟨rfl, rfl, p, aO, _⟩
 rw [p.eq]; clear p
 cases H
 exact rt ⟨_, _, z, z, z⟩ aO
 rintro e r ds bp ⟨rfl, rfl, p, F, _⟩
 rw [p.eq]; clear p
 refine ag _ _ _<|sr fun bq aQ=>mv z<|q_len dA z<|dq z z<|mv z<|bK H fun aR hC H=>js 6 F [(77, bool aR)] ?_ fun _ br aS=>?_
 refine have H:=hC;dC ((a1.length : Int) ≤ 10000) (fun m=>?_) fun m=>?_
 refine yK m H fun H=>mv (hw:=gY z z z (bY m)) z<|q_len (hw:=gY z z z (bY m)) qL z<|mv (hw:=gY z z z (bY m)) z<|q_len (hw:=gY z z z (bY m)) dA z<|ei (hw:=gY z z z (bY m)) z z<|cY (bY m) z<|nl<|?_
 cases H
 exact je ⟨z, tv⟩ F
 refine nK m H fun H=>Sk 5 z z (bN m) z<|dm (bN m) z<|nl<|?_
 cases H
 exact je ⟨z, tv⟩ F
 refine aK z<|nl<|aQ _ _ _<|wr<|?_
 cases H
 exact rt ⟨_, _, z, z, z⟩ aS
theorem iE {a1 c} {a7 : List Bool} {f g h i k G L w} (H : dH a1 c a7 = some k) (hI : Hp G L w) (l : c.length ≤ g) (m : Dat ah G f c) (o : a7.length ≤ i) (p : Dat Kd.bool G h a7) :
    Calls Try.prog 7 [agg [int .i64 a1.Width, int .i64 a1.Height, int .i64 a1.Columns, int .i64 a1.Gap, int .i64 a1.Scale, int .i64 a1.Lang].toArray, slice f c.length g, slice h a7.length i].toArray w fun e w' => Hp G L w' ∧ e = .returned (bool k) := by
 refine aw (N := 18) Try.func7 z z (Nat.le_of_ble_eq_true z)<|?_
 unfold dH at H
 refine sr fun E q=>jW hI z z fun F I r=>aK z<|nl<|q _ _ _<|sr fun J s=>mv z<|bK H fun t u H=>cv bo17 (jw u r l m) z z fun K d=>mv z<|bK H fun n hC H=>js 3 d [(1, slice f c.length g), (2, slice h a7.length i), (12, bool n)] ?_ fun _ M j=>?_
 refine have H:=hC;dC (t = true) (fun b=>?_) fun b=>?_
 refine yK b H fun H=>gg (hw:=gY z z z (vY b)) d 0 k6 z z z z<|bK H fun O v H=>cv (hw:=gY z z z (vY b)) bo18 (i4 v d) z z fun P x=>cY (vY b) z<|nl<|?_
 cases H
 exact je ⟨z, z, z, tv⟩ x
 refine nK b H fun H=>Sk 2 z z (vN b) z<|dm (vN b) z<|nl<|?_
 cases H
 exact je ⟨z, z, z, tv⟩ d
 refine mv z<|bK H fun y hC H=>js 4 j [(17, bool y)] ?_ fun _ Q A=>?_
 refine have H:=hC;dC (n = true) (fun a=>?_) fun a=>?_
 refine yK a H fun H=>mv (hw:=gY z z z (vY a)) z<|mv (hw:=gY z z z (vY a)) z<|bK H fun R B H=>cv (hw:=gY z z z (vY a)) bo19 (iX B j l m o p) z z fun S C=>cY (vY a) z<|nl<|?_
 cases H
 exact je ⟨z, tv⟩ C
 refine nK a H fun H=>Sk 3 z z (vN a) z<|dm (vN a) z<|nl<|?_
 cases H
 exact je ⟨z, tv⟩ j
 refine aK z<|nl<|s _ _ _<|wr<|have D:=Hp.pick 1 [] A z;?_
 cases H
 exact rt ⟨_, _, z, z, z⟩ D
end Go.Proofs.Ytlcfemplcaejgaa.LG
