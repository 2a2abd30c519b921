/-
  The walks: each function computes its plain function: printed by a program out of the translation.
-/
import Derived.Test.YtlcfemplcaejgaaSd
set_option linter.unusedVariables false
set_option linter.unusedSimpArgs false
set_option maxRecDepth 100000
namespace Go.Proofs.Ytlcfemplcaejgaa.LG
open Go Go.LG Go.RowKit Go.Value
set_option maxHeartbeats 20000000
theorem iq {a3 : ai} {p : ak} {ac l J K E F u T x Y Z U V bc} {M : ai} {G L w} (H : cq a3 p ac = some (bc, M)) (hI : Hp G (bx l [int .i64 a3.sheet.Paper.Width, int .i64 a3.sheet.Paper.Height, int .i64 a3.sheet.Paper.Columns, int .i64 a3.sheet.Paper.Gap, int .i64 a3.sheet.Paper.Scale, int .i64 a3.sheet.Paper.Lang, slice J a3.placed.length K, slice E a3.notes.length F, slice u T x] 67 :: tk (slice J a3.placed.length K) 8 36 :: tk (slice E a3.notes.length F) 8 36 :: bO G (Kd.int .i64) u [] a3.fills [] x 3 :: L) w) (aJ : a3.placed.length ≤ K) (aL : Dat ah G J a3.placed) (aN : Own J K) (ay : a3.notes.length ≤ F) (az : Dat ah G E a3.notes) (aO : Own E F) (ae : a3.fills.length = T) (am : Mw u u ([] : List Int).length T x x 1) (aQ : p.slices.length ≤ Z) (aR : Dat ah G Y p.slices) (aB : p.notes.length ≤ V) (aC : Dat ah G U p.notes) :
    Calls Try.prog 25 [pointer (some ⟨l, 0, none⟩), agg [slice Y p.slices.length Z, slice U p.notes.length V, int .i64 p.end_].toArray, int .i64 ac].toArray w fun e w' => ∃ (aS : Option Addr) (aT : Nat) (aU : Option Addr) (aV : Nat) (aW : Option Addr) (a1 : Nat) (aX : Nat) (G' : Gh), G ≤ G' ∧ Hp G' (bx l [int .i64 M.sheet.Paper.Width, int .i64 M.sheet.Paper.Height, int .i64 M.sheet.Paper.Columns, int .i64 M.sheet.Paper.Gap, int .i64 M.sheet.Paper.Scale, int .i64 M.sheet.Paper.Lang, slice aS M.placed.length aT, slice aU M.notes.length aV, slice aW a1 aX] 67 :: tk (slice aS M.placed.length aT) 8 36 :: tk (slice aU M.notes.length aV) 8 36 :: bO G' (Kd.int .i64) aW [] M.fills [] aX 3 :: L) w' ∧ M.placed.length ≤ aT ∧ Dat ah G' aS M.placed ∧ Own aS aT ∧ M.notes.length ≤ aV ∧ Dat ah G' aU M.notes ∧ Own aU aV ∧ M.fills.length = a1 ∧ Mw aW aW ([] : List Int).length a1 aX aX 1 ∧ e = .returned (bool bc) := by
 refine aw (N := 86) Try.func25 z z (Nat.le_of_ble_eq_true z)<|?_
 unfold cq at H
 refine sr fun db bp=>jW hI z z fun W dc bq=>aK z<|nl<|bp _ _ _<|sQ fun dd br=>bK H fun aa bs H=>bK H fun ab bt H=>?_
 refine aM [0, 1, 3, 7, 15, 31, 0, 64, 192, 448, 960, 2047, 0, 4096, 14272, 32767, 65535] (fun D r w => (∃ (G' : Gh), G ≤ G' ∧ ag [(0, pointer (some ⟨l, 0, none⟩)), (2, int .i64 ac), (4, pointer (some ⟨W, 0, none⟩))] [] [(0, 9, pointer (some ⟨l, 0, none⟩)), (1, 10, pointer (some ⟨l, 0, none⟩)), (2, 11, pointer (some ⟨l, 0, none⟩)), (3, 12, pointer (some ⟨l, 0, none⟩)), (4, 13, pointer (some ⟨l, 1, none⟩)), (5, 14, int .i64 a3.sheet.Paper.Height), (6, 15, pointer (some ⟨l, 0, none⟩)), (7, 16, pointer (some ⟨l, 0, none⟩)), (8, 17, pointer (some ⟨l, 7, none⟩)), (9, 18, slice E a3.notes.length F), (10, 19, int .i64 aa), (11, 20, int .i64 (aj (a3.sheet.Paper.Height - aa))), (12, 21, pointer (some ⟨W, 1, none⟩)), (13, 22, slice U p.notes.length V), (14, 23, int .i64 ab), (15, 24, int .i64 (aj ((aj (a3.sheet.Paper.Height - aa)) - ab))), (16, 7, int .i64 (aj ((aj (a3.sheet.Paper.Height - aa)) - ab)))] D r ∧ Hp G' (bx W [slice Y p.slices.length Z, slice U p.notes.length V, int .i64 p.end_] 64 :: bx l [int .i64 a3.sheet.Paper.Width, int .i64 a3.sheet.Paper.Height, int .i64 a3.sheet.Paper.Columns, int .i64 a3.sheet.Paper.Gap, int .i64 a3.sheet.Paper.Scale, int .i64 a3.sheet.Paper.Lang, slice J a3.placed.length K, slice E a3.notes.length F, slice u T x] 67 :: tk (slice J a3.placed.length K) 8 36 :: tk (slice E a3.notes.length F) 8 36 :: bO G (Kd.int .i64) u [] a3.fills [] x 3 :: L) w)) dJ z z ?_ ?_ ?_
 exact ⟨_, Gh.le_refl _, ag.start ⟨z, z, z, tv⟩ trivial, bq.drew⟩
 refine ⟨?_, ?_, ?_, ?_, ?_, ?_, ?_, ?_, ?_, ?_, ?_, ?_, ?_, ?_, ?_, ?_, ?_, tv⟩
 rintro D r O ⟨I, i, h, s⟩ b a d
 obtain ⟨c, rfl⟩ := Has.ex (cC (h.ins.get 0 rfl) cN)
 exact mv z<|nl ⟨z, ⟨_, i, (ag.step h b z z z z), s⟩⟩
 rintro D r O ⟨I, i, h, s⟩ b a d
 obtain ⟨c, rfl⟩ := Has.ex (cC (h.get 0 rfl (a 0 rfl)) cN)
 exact e5 z<|nl ⟨z, ⟨_, i, (ag.step h b z z z z), s⟩⟩
 rintro D r O ⟨I, i, h, s⟩ b a d
 obtain ⟨c, rfl⟩ := Has.ex (cC (h.get 1 rfl (a 1 rfl)) cN)
 exact fa iz z<|nl ⟨z, ⟨_, i, (ag.step h b z z z z), s⟩⟩
 rintro D r O ⟨I, i, h, s⟩ b a d
 obtain ⟨c, rfl⟩ := Has.ex (cC (h.get 2 rfl (a 2 rfl)) cN)
 exact fa ee z<|nl ⟨z, ⟨_, i, (ag.step h b z z z z), s⟩⟩
 rintro D r O ⟨I, i, h, s⟩ b a d
 obtain ⟨c, rfl⟩ := Has.ex (cC (h.get 3 rfl (a 3 rfl)) cN)
 exact fa gZ z<|nl ⟨z, ⟨_, i, (ag.step h b z z z z), s⟩⟩
 rintro D r O ⟨I, i, h, s⟩ b a d
 obtain ⟨c, rfl⟩ := Has.ex (cC (h.get 4 rfl (a 4 rfl)) cN)
 exact ld s 1 bb z z z<|nl ⟨z, ⟨_, i, (ag.step h b z z z z), s⟩⟩
 rintro D r O ⟨I, i, h, s⟩ b a d
 obtain ⟨c, rfl⟩ := Has.ex (cC (h.ins.get 0 rfl) cN)
 exact mv z<|nl ⟨z, ⟨_, i, (ag.step h b z z z z), s⟩⟩
 rintro D r O ⟨I, i, h, s⟩ b a d
 obtain ⟨c, rfl⟩ := Has.ex (cC (h.get 6 rfl (a 6 rfl)) cN)
 exact e5 z<|nl ⟨z, ⟨_, i, (ag.step h b z z z z), s⟩⟩
 rintro D r O ⟨I, i, h, s⟩ b a d
 obtain ⟨c, rfl⟩ := Has.ex (cC (h.get 7 rfl (a 7 rfl)) cN)
 exact fa jM z<|nl ⟨z, ⟨_, i, (ag.step h b z z z z), s⟩⟩
 rintro D r O ⟨I, i, h, s⟩ b a d
 obtain ⟨c, rfl⟩ := Has.ex (cC (h.get 8 rfl (a 8 rfl)) cN)
 exact ld s 1 cB z z z<|nl ⟨z, ⟨_, i, (ag.step h b z z z z), s⟩⟩
 rintro D r O ⟨I, i, h, s⟩ b a d
 obtain ⟨c, rfl⟩ := Has.ex (cC (h.get 9 rfl (a 9 rfl)) cN)
 exact cv oK (eG bs s ay (Dat.mono i az)) z z fun de bu=>nl ⟨z, ⟨_, i, (ag.step h b z z z z), bu⟩⟩
 rintro D r O ⟨I, i, h, s⟩ b a d
 obtain ⟨c, rfl⟩ := Has.ex (cC (h.get 5 rfl (a 5 rfl)) (cC (h.get 10 rfl (a 10 rfl)) cN))
 exact b6 z z<|nl ⟨z, ⟨_, i, (ag.step h b z z z z), s⟩⟩
 rintro D r O ⟨I, i, h, s⟩ b a d
 obtain ⟨c, rfl⟩ := Has.ex (cC (h.ins.get 2 rfl) cN)
 exact fa jV z<|nl ⟨z, ⟨_, i, (ag.step h b z z z z), s⟩⟩
 rintro D r O ⟨I, i, h, s⟩ b a d
 obtain ⟨c, rfl⟩ := Has.ex (cC (h.get 12 rfl (a 12 rfl)) cN)
 exact ld s 0 cB z z z<|nl ⟨z, ⟨_, i, (ag.step h b z z z z), s⟩⟩
 rintro D r O ⟨I, i, h, s⟩ b a d
 obtain ⟨c, rfl⟩ := Has.ex (cC (h.get 13 rfl (a 13 rfl)) cN)
 exact cv oK (eG bt s aB (Dat.mono i aC)) z z fun dg bv=>nl ⟨z, ⟨_, i, (ag.step h b z z z z), bv⟩⟩
 rintro D r O ⟨I, i, h, s⟩ b a d
 obtain ⟨c, rfl⟩ := Has.ex (cC (h.get 11 rfl (a 11 rfl)) (cC (h.get 14 rfl (a 14 rfl)) cN))
 exact b6 z z<|nl ⟨z, ⟨_, i, (ag.step h b z z z z), s⟩⟩
 rintro D r O ⟨I, i, h, s⟩ b a d
 obtain ⟨c, rfl⟩ := Has.ex (cC (h.get 15 rfl (a 15 rfl)) cN)
 exact aK z<|nl ⟨z, ⟨_, i, (ag.step h b z z z z), s⟩⟩
 intro D r O al hR
 obtain ⟨I, i, h, s⟩ := hR
 obtain ⟨c, rfl⟩ := Has.ex (cC (h.ins.get 0 rfl) (cC (h.ins.get 1 rfl) (cC (h.ins.get 2 rfl) (cC (h.get 16 rfl (al 16 (Nat.le_of_ble_eq_true rfl))) cN))))
 refine br _ _ _<|sQ fun di bw=>iK H fun⟨a2, bz⟩H=>have a4:=iy ae bz;?_
 obtain ⟨bA, bd⟩ := Mw.ad am a2 a4
 refine aM [0, 1, 3, 7, 0, 16, 48, 112, 240, 496, 1023, 2047, 0, 8191, 16383] (fun D r w => (∃ (G' : Gh), I ≤ G' ∧ ag [(0, pointer (some ⟨l, 0, none⟩)), (2, int .i64 ac), (4, pointer (some ⟨W, 0, none⟩)), (7, int .i64 (aj ((aj (a3.sheet.Paper.Height - aa)) - ab)))] [] [(0, 25, pointer (some ⟨l, 0, none⟩)), (1, 26, pointer (some ⟨l, 0, none⟩)), (2, 27, pointer (some ⟨l, 8, none⟩)), (3, 28, slice u T x), (4, 29, pointer (some ⟨l, 0, none⟩)), (5, 30, pointer (some ⟨l, 0, none⟩)), (6, 31, pointer (some ⟨l, 8, none⟩)), (7, 32, slice u T x), (8, 33, int .i64 (a3.fills.length : Int)), (9, 34, int .i64 (aj ((a3.fills.length : Int) - 1))), (10, 35, pointer (some (bA.add (Int.toNat (aj ((a3.fills.length : Int) - 1)) * 1)))), (11, 36, int .i64 (a3.fills.getD (Int.toNat (aj ((a3.fills.length : Int) - 1))) (0 : Int))), (12, 37, int .i64 ac), (13, 38, int .i64 (aj ((a3.fills.getD (Int.toNat (aj ((a3.fills.length : Int) - 1))) (0 : Int)) + ac))), (14, 8, int .i64 (aj ((a3.fills.getD (Int.toNat (aj ((a3.fills.length : Int) - 1))) (0 : Int)) + ac)))] D r ∧ Hp G' (bx W [slice Y p.slices.length Z, slice U p.notes.length V, int .i64 p.end_] 64 :: bx l [int .i64 a3.sheet.Paper.Width, int .i64 a3.sheet.Paper.Height, int .i64 a3.sheet.Paper.Columns, int .i64 a3.sheet.Paper.Gap, int .i64 a3.sheet.Paper.Scale, int .i64 a3.sheet.Paper.Lang, slice J a3.placed.length K, slice E a3.notes.length F, slice u T x] 67 :: tk (slice J a3.placed.length K) 8 36 :: tk (slice E a3.notes.length F) 8 36 :: bO G (Kd.int .i64) u [] a3.fills [] x 3 :: L) w)) dJ z z ?_ ?_ ?_
 exact ⟨_, Gh.le_refl _, ag.start ⟨z, z, z, z, tv⟩ trivial, s.drew⟩
 refine ⟨?_, ?_, ?_, ?_, ?_, ?_, ?_, ?_, ?_, ?_, ?_, ?_, ?_, ?_, ?_, tv⟩
 rintro D r S ⟨P, k, j, t⟩ b a d
 obtain ⟨c, rfl⟩ := Has.ex (cC (j.ins.get 0 rfl) cN)
 exact mv z<|nl ⟨z, ⟨_, k, (ag.step j b z z z z), t⟩⟩
 rintro D r S ⟨P, k, j, t⟩ b a d
 obtain ⟨c, rfl⟩ := Has.ex (cC (j.get 0 rfl (a 0 rfl)) cN)
 exact e5 z<|nl ⟨z, ⟨_, k, (ag.step j b z z z z), t⟩⟩
 rintro D r S ⟨P, k, j, t⟩ b a d
 obtain ⟨c, rfl⟩ := Has.ex (cC (j.get 1 rfl (a 1 rfl)) cN)
 exact fa gF z<|nl ⟨z, ⟨_, k, (ag.step j b z z z z), t⟩⟩
 rintro D r S ⟨P, k, j, t⟩ b a d
 obtain ⟨c, rfl⟩ := Has.ex (cC (j.get 2 rfl (a 2 rfl)) cN)
 exact ld t 1 k4 z z z<|nl ⟨z, ⟨_, k, (ag.step j b z z z z), t⟩⟩
 rintro D r S ⟨P, k, j, t⟩ b a d
 obtain ⟨c, rfl⟩ := Has.ex (cC (j.ins.get 0 rfl) cN)
 exact mv z<|nl ⟨z, ⟨_, k, (ag.step j b z z z z), t⟩⟩
 rintro D r S ⟨P, k, j, t⟩ b a d
 obtain ⟨c, rfl⟩ := Has.ex (cC (j.get 4 rfl (a 4 rfl)) cN)
 exact e5 z<|nl ⟨z, ⟨_, k, (ag.step j b z z z z), t⟩⟩
 rintro D r S ⟨P, k, j, t⟩ b a d
 obtain ⟨c, rfl⟩ := Has.ex (cC (j.get 5 rfl (a 5 rfl)) cN)
 exact fa gF z<|nl ⟨z, ⟨_, k, (ag.step j b z z z z), t⟩⟩
 rintro D r S ⟨P, k, j, t⟩ b a d
 obtain ⟨c, rfl⟩ := Has.ex (cC (j.get 6 rfl (a 6 rfl)) cN)
 exact ld t 1 k4 z z z<|nl ⟨z, ⟨_, k, (ag.step j b z z z z), t⟩⟩
 rintro D r S ⟨P, k, j, t⟩ b a d
 obtain ⟨c, rfl⟩ := Has.ex (cC (j.get 7 rfl (a 7 rfl)) cN)
 exact gC l6 z ae<|nl ⟨z, ⟨_, k, (ag.step j b z z z z), t⟩⟩
 rintro D r S ⟨P, k, j, t⟩ b a d
 obtain ⟨c, rfl⟩ := Has.ex (cC (j.get 8 rfl (a 8 rfl)) cN)
 exact b6 z z<|nl ⟨z, ⟨_, k, (ag.step j b z z z z), t⟩⟩
 rintro D r S ⟨P, k, j, t⟩ b a d
 obtain ⟨c, rfl⟩ := Has.ex (cC (j.get 3 rfl (a 3 rfl)) (cC (j.get 9 rfl (a 9 rfl)) cN))
 exact bL j5 z bd z a2 a4<|nl ⟨z, ⟨_, k, (ag.step j b z z z z), t⟩⟩
 rintro D r S ⟨P, k, j, t⟩ b a d
 obtain ⟨c, rfl⟩ := Has.ex (cC (j.get 10 rfl (a 10 rfl)) cN)
 obtain ⟨_, rfl, _, bB⟩ := Hp.rwGet t 4 rfl am ae bd (0 : Int) a2 a4
 exact eg (v := int .i64 (a3.fills.getD (Int.toNat (aj ((a3.fills.length : Int) - 1))) (0 : Int))) bb z (cell0 (bB 0 _ z))<|nl ⟨z, ⟨_, k, (ag.step j b z z z z), t⟩⟩
 rintro D r S ⟨P, k, j, t⟩ b a d
 obtain ⟨c, rfl⟩ := Has.ex (cC (j.ins.get 1 rfl) cN)
 exact mv z<|nl ⟨z, ⟨_, k, (ag.step j b z z z z), t⟩⟩
 rintro D r S ⟨P, k, j, t⟩ b a d
 obtain ⟨c, rfl⟩ := Has.ex (cC (j.get 11 rfl (a 11 rfl)) (cC (j.get 12 rfl (a 12 rfl)) cN))
 exact bm z z<|nl ⟨z, ⟨_, k, (ag.step j b z z z z), t⟩⟩
 rintro D r S ⟨P, k, j, t⟩ b a d
 obtain ⟨c, rfl⟩ := Has.ex (cC (j.get 13 rfl (a 13 rfl)) cN)
 exact aK z<|nl ⟨z, ⟨_, k, (ag.step j b z z z z), t⟩⟩
 intro D r S al hR
 obtain ⟨P, k, j, t⟩ := hR
 obtain ⟨c, rfl⟩ := Has.ex (cC (j.ins.get 0 rfl) (cC (j.ins.get 2 rfl) (cC (j.ins.get 3 rfl) (cC (j.get 14 rfl (al 14 (Nat.le_of_ble_eq_true rfl))) cN))))
 refine bw _ _ _<|sQ fun dj bC=>bK H fun be hC H=>?_
 refine aP (Q := fun e r ds w => match (generalizing := false) be with | (Sum.inl (bf, bg, bh, bi, bj, bk, aD, aE, a5)) => e = .normal ∧ ∃ (an : Option Addr) (ao : Nat) (ap : Option Addr) (aq : Nat) (ar : Option Addr) (aF : Nat) (au : Nat) (a6 : Gh) (av : Gh), ds = [] ∧ P ≤ av ∧ Has [] r ∧ Hp av (bx W [slice Y p.slices.length Z, slice U p.notes.length V, int .i64 p.end_] 64 :: bx l [int .i64 bf, int .i64 bg, int .i64 bh, int .i64 bi, int .i64 bj, int .i64 bk, slice an aD.length ao, slice ap aE.length aq, slice ar aF au] 67 :: bO a6 (Kd.int .i64) ar [] a5 [] au 3 :: tk (slice an aD.length ao) 8 36 :: tk (slice ap aE.length aq) 8 36 :: L) w ∧ aD.length ≤ ao ∧ Dat ah av an aD ∧ Own an ao ∧ aE.length ≤ aq ∧ Dat ah av ap aE ∧ Own ap aq ∧ a5.length = aF ∧ Mw ar ar ([] : List Int).length aF au au 1 ∧ a6 ≤ av ∧ True | (Sum.inr _) => e = .ret ∧ ∃ (a7 : Gh) (aY : Gh), ds = [] ∧ P ≤ aY ∧ Has [(6, bool false)] r ∧ Hp aY (bx W [slice Y p.slices.length Z, slice U p.notes.length V, int .i64 p.end_] 64 :: bx l [int .i64 a3.sheet.Paper.Width, int .i64 a3.sheet.Paper.Height, int .i64 a3.sheet.Paper.Columns, int .i64 a3.sheet.Paper.Gap, int .i64 a3.sheet.Paper.Scale, int .i64 a3.sheet.Paper.Lang, slice J a3.placed.length K, slice E a3.notes.length F, slice u T x] 67 :: tk (slice J a3.placed.length K) 8 36 :: tk (slice E a3.notes.length F) 8 36 :: bO a7 (Kd.int .i64) u [] a3.fills [] x 3 :: L) w ∧ a7 ≤ aY ∧ True) ?_ ?_
 refine have H:=hC;wb<|sr fun dk bD=>mv z<|have bE:=Hp.rwUp t 4 z (gT i k);have bF:=Hp.pick 5 [1, 2, 3, 4, 0] bE z;bK H fun bG bH H=>ft (vs := [pointer (some ⟨l, 0, none⟩)]) pY z z (fp bH bF aJ (Dat.mono (gT i k) aL) aN ay (Dat.mono (gT i k) az) aO ae am)<|?_
 rintro _ dl ⟨af, R, a8, rfl⟩
 refine ⟨_, rfl, ?_⟩
 refine mv z<|gq z z<|aK z<|nl<|bD _ _ _<|dC ((aj ((aj (a3.sheet.Paper.Height - aa)) - ab)) < bG) (fun aG=>?_) fun aG=>?_
 refine yK aG H fun H=>wt (bY aG)<|sr fun dn bI=>aK z<|nl<|bI _ _ _<|wr<|have bJ:=Hp.pick 5 [4, 0, 1, 2, 3] a8 z;?_
 cases H
 exact ⟨z, af, _, z, R, ⟨z, tv⟩, bJ, gR, tv⟩
 refine nK aG H fun H=>wf (bN aG)<|sr fun dp bM=>mv z<|gg a8 4 iD z z z z<|bK H fun bP bQ H=>cv pu (dh bQ a8 aQ (Dat.mono (gT (gT i k) R) aR) aB (Dat.mono (gT (gT i k) R) aC)) z z fun dr aZ=>bm z z<|mv z<|dq z z<|aK z<|nl<|bM _ _ _<|dC ((aj ((aj ((a3.fills.getD (Int.toNat (aj ((a3.fills.length : Int) - 1))) (0 : Int)) + ac)) + bP)) ≤ (aj ((aj (a3.sheet.Paper.Height - aa)) - ab))) (fun aH=>?_) fun aH=>?_
 refine yK aH H fun H=>wt (bY aH)<|aA<|mv z<|gg aZ 4 iD z z z z<|mv z<|bK H fun dt bR H=>ft (vs := [pointer (some ⟨l, 0, none⟩), agg [slice Y p.slices.length Z, slice U p.notes.length V, int .i64 p.end_].toArray, int .i64 (aj ((a3.fills.getD (Int.toNat (aj ((a3.fills.length : Int) - 1))) (0 : Int)) + ac))]) pB z z (df bR aZ aJ (Dat.mono (gT (gT i k) R) aL) aN ay (Dat.mono (gT (gT i k) R) az) aO ae am aQ (Dat.mono (gT (gT i k) R) aR) aB (Dat.mono (gT (gT i k) R) aC))<|?_
 rintro _ du ⟨bS, bT, bU, bV, bW, bX, bZ, b0, b1, b2, b3, b4, b5, b7, b8, b9, ca, cb, rfl⟩
 refine ⟨_, rfl, ?_⟩
 refine nl<|have cc:=Hp.pick 5 [4, 0, 3, 1, 2] b2 z;?_
 cases H
 exact ⟨z, bS, bT, bU, bV, bW, bX, bZ, b0, _, z, (gT R b1), trivial, cc, b3, b4, b5, b7, b8, b9, ca, cb, gR, tv⟩
 refine nK aH H fun H=>wf (bN aH)<|sQ fun dv cd=>bK H fun bl hC H=>?_
 refine jC .normal af [(0, pointer (some ⟨l, 0, none⟩)), (4, pointer (some ⟨W, 0, none⟩)), (55, bool bl)] (bx l [int .i64 a3.sheet.Paper.Width, int .i64 a3.sheet.Paper.Height, int .i64 a3.sheet.Paper.Columns, int .i64 a3.sheet.Paper.Gap, int .i64 a3.sheet.Paper.Scale, int .i64 a3.sheet.Paper.Lang, slice J a3.placed.length K, slice E a3.notes.length F, slice u T x] 67 :: bx W [slice Y p.slices.length Z, slice U p.notes.length V, int .i64 p.end_] 64 :: tk (slice J a3.placed.length K) 8 36 :: tk (slice E a3.notes.length F) 8 36 :: bO af (Kd.int .i64) u [] a3.fills [] x 3 :: L) ?_ fun _ dw a9=>?_
 refine have H:=hC;dC ((a3.fills.length : Int) < a3.sheet.Paper.Columns) (fun X=>?_) fun X=>?_
 refine yK X H fun H=>bK H fun a0 ce H=>?_
 refine aM [0, 1, 3, 7, 15, 0, 32, 96, 224, 480, 992, 2047, 4095, 8191, 16383, 8191, 65535, 131071, 262143] (fun D r w => (∃ (G' : Gh), af ≤ G' ∧ ag [(0, pointer (some ⟨l, 0, none⟩)), (4, pointer (some ⟨W, 0, none⟩)), (7, int .i64 (aj ((aj (a3.sheet.Paper.Height - aa)) - ab)))] [] [(0, 56, pointer (some ⟨l, 0, none⟩)), (1, 57, pointer (some ⟨l, 0, none⟩)), (2, 58, pointer (some ⟨l, 8, none⟩)), (3, 59, slice u T x), (4, 60, int .i64 (a3.fills.length : Int)), (5, 61, pointer (some ⟨l, 0, none⟩)), (6, 62, pointer (some ⟨l, 0, none⟩)), (7, 63, pointer (some ⟨l, 0, none⟩)), (8, 64, pointer (some ⟨l, 0, none⟩)), (9, 65, pointer (some ⟨l, 2, none⟩)), (10, 66, int .i64 a3.sheet.Paper.Columns), (11, 67, bool (decide ((a3.fills.length : Int) < a3.sheet.Paper.Columns))), (12, 68, bool (decide ((a3.fills.length : Int) < a3.sheet.Paper.Columns))), (13, 69, agg [slice Y p.slices.length Z, slice U p.notes.length V, int .i64 p.end_].toArray), (14, 70, int .i64 a0), (15, 71, int .i64 (aj ((aj (a3.sheet.Paper.Height - aa)) - ab))), (16, 72, bool (decide (a0 ≤ (aj ((aj (a3.sheet.Paper.Height - aa)) - ab))))), (17, 73, bool (decide (a0 ≤ (aj ((aj (a3.sheet.Paper.Height - aa)) - ab))))), (18, 55, bool (decide (a0 ≤ (aj ((aj (a3.sheet.Paper.Height - aa)) - ab)))))] D r ∧ Hp G' (bx l [int .i64 a3.sheet.Paper.Width, int .i64 a3.sheet.Paper.Height, int .i64 a3.sheet.Paper.Columns, int .i64 a3.sheet.Paper.Gap, int .i64 a3.sheet.Paper.Scale, int .i64 a3.sheet.Paper.Lang, slice J a3.placed.length K, slice E a3.notes.length F, slice u T x] 67 :: tk (slice J a3.placed.length K) 8 36 :: tk (slice E a3.notes.length F) 8 36 :: bO af (Kd.int .i64) u [] a3.fills [] x 3 :: bx W [slice Y p.slices.length Z, slice U p.notes.length V, int .i64 p.end_] 64 :: L) w)) dJ z z ?_ ?_ ?_
 exact ⟨_, Gh.le_refl _, ag.start ⟨z, z, z, tv⟩ trivial, aZ.drew⟩
 refine ⟨?_, ?_, ?_, ?_, ?_, ?_, ?_, ?_, ?_, ?_, ?_, ?_, ?_, ?_, ?_, ?_, ?_, ?_, ?_, tv⟩
 rintro D r y ⟨A, n, f, m⟩ b a d
 obtain ⟨c, rfl⟩ := Has.ex (cC (f.ins.get 0 rfl) cN)
 exact mv z<|nl ⟨z, ⟨_, n, (ag.step f b z z z z), m⟩⟩
 rintro D r y ⟨A, n, f, m⟩ b a d
 obtain ⟨c, rfl⟩ := Has.ex (cC (f.get 0 rfl (a 0 rfl)) cN)
 exact e5 z<|nl ⟨z, ⟨_, n, (ag.step f b z z z z), m⟩⟩
 rintro D r y ⟨A, n, f, m⟩ b a d
 obtain ⟨c, rfl⟩ := Has.ex (cC (f.get 1 rfl (a 1 rfl)) cN)
 exact fa gF z<|nl ⟨z, ⟨_, n, (ag.step f b z z z z), m⟩⟩
 rintro D r y ⟨A, n, f, m⟩ b a d
 obtain ⟨c, rfl⟩ := Has.ex (cC (f.get 2 rfl (a 2 rfl)) cN)
 exact ld m 0 k4 z z z<|nl ⟨z, ⟨_, n, (ag.step f b z z z z), m⟩⟩
 rintro D r y ⟨A, n, f, m⟩ b a d
 obtain ⟨c, rfl⟩ := Has.ex (cC (f.get 3 rfl (a 3 rfl)) cN)
 exact gC l6 z ae<|nl ⟨z, ⟨_, n, (ag.step f b z z z z), m⟩⟩
 rintro D r y ⟨A, n, f, m⟩ b a d
 obtain ⟨c, rfl⟩ := Has.ex (cC (f.ins.get 0 rfl) cN)
 exact mv z<|nl ⟨z, ⟨_, n, (ag.step f b z z z z), m⟩⟩
 rintro D r y ⟨A, n, f, m⟩ b a d
 obtain ⟨c, rfl⟩ := Has.ex (cC (f.get 5 rfl (a 5 rfl)) cN)
 exact e5 z<|nl ⟨z, ⟨_, n, (ag.step f b z z z z), m⟩⟩
 rintro D r y ⟨A, n, f, m⟩ b a d
 obtain ⟨c, rfl⟩ := Has.ex (cC (f.get 6 rfl (a 6 rfl)) cN)
 exact fa iz z<|nl ⟨z, ⟨_, n, (ag.step f b z z z z), m⟩⟩
 rintro D r y ⟨A, n, f, m⟩ b a d
 obtain ⟨c, rfl⟩ := Has.ex (cC (f.get 7 rfl (a 7 rfl)) cN)
 exact fa ee z<|nl ⟨z, ⟨_, n, (ag.step f b z z z z), m⟩⟩
 rintro D r y ⟨A, n, f, m⟩ b a d
 obtain ⟨c, rfl⟩ := Has.ex (cC (f.get 8 rfl (a 8 rfl)) cN)
 exact fa jn z<|nl ⟨z, ⟨_, n, (ag.step f b z z z z), m⟩⟩
 rintro D r y ⟨A, n, f, m⟩ b a d
 obtain ⟨c, rfl⟩ := Has.ex (cC (f.get 9 rfl (a 9 rfl)) cN)
 exact ld m 0 bb z z z<|nl ⟨z, ⟨_, n, (ag.step f b z z z z), m⟩⟩
 rintro D r y ⟨A, n, f, m⟩ b a d
 obtain ⟨c, rfl⟩ := Has.ex (cC (f.get 4 rfl (a 4 rfl)) (cC (f.get 10 rfl (a 10 rfl)) cN))
 exact cZ z z<|nl ⟨z, ⟨_, n, (ag.step f b z z z z), m⟩⟩
 rintro D r y ⟨A, n, f, m⟩ b a d
 obtain ⟨c, rfl⟩ := Has.ex (cC (f.get 11 rfl (a 11 rfl)) cN)
 exact mv z<|nl ⟨z, ⟨_, n, (ag.step f b z z z z), m⟩⟩
 rintro D r y ⟨A, n, f, m⟩ b a d
 obtain ⟨c, rfl⟩ := Has.ex (cC (f.ins.get 1 rfl) (cC (f.get 12 rfl (a 12 rfl)) cN))
 exact gg (hw:=gY z z z (bY X)) m 4 iD z z z z<|nl ⟨z, ⟨_, n, (ag.step f b z z z z), m⟩⟩
 rintro D r y ⟨A, n, f, m⟩ b a d
 obtain ⟨c, rfl⟩ := Has.ex (cC (f.get 12 rfl (a 12 rfl)) (cC (f.get 13 rfl (a 13 rfl)) cN))
 exact cv (hw:=gY z z z (bY X)) pu (dh ce m aQ (Dat.mono (gT (gT (gT i k) R) n) aR) aB (Dat.mono (gT (gT (gT i k) R) n) aC)) z z fun dx cf=>nl ⟨z, ⟨_, n, (ag.step f b z z z z), cf⟩⟩
 rintro D r y ⟨A, n, f, m⟩ b a d
 obtain ⟨c, rfl⟩ := Has.ex (cC (f.ins.get 2 rfl) (cC (f.get 12 rfl (a 12 rfl)) cN))
 exact mv (hw:=gY z z z (bY X)) z<|nl ⟨z, ⟨_, n, (ag.step f b z z z z), m⟩⟩
 rintro D r y ⟨A, n, f, m⟩ b a d
 obtain ⟨c, rfl⟩ := Has.ex (cC (f.get 12 rfl (a 12 rfl)) (cC (f.get 14 rfl (a 14 rfl)) (cC (f.get 15 rfl (a 15 rfl)) cN)))
 exact dq (hw:=gY z z z (bY X)) z z<|nl ⟨z, ⟨_, n, (ag.step f b z z z z), m⟩⟩
 rintro D r y ⟨A, n, f, m⟩ b a d
 obtain ⟨c, rfl⟩ := Has.ex (cC (f.get 12 rfl (a 12 rfl)) (cC (f.get 16 rfl (a 16 rfl)) cN))
 exact cY (bY X) z<|nl ⟨z, ⟨_, n, (ag.step f b z z z z), m⟩⟩
 rintro D r y ⟨A, n, f, m⟩ b a d
 obtain ⟨c, rfl⟩ := Has.ex (cC (f.get 17 rfl (a 17 rfl)) cN)
 exact aK z<|nl ⟨z, ⟨_, n, (ag.step f b z z z z), m⟩⟩
 intro D r y al hR
 obtain ⟨A, n, f, m⟩ := hR
 obtain ⟨c, rfl⟩ := Has.ex (cC (f.ins.get 0 rfl) (cC (f.ins.get 1 rfl) (cC (f.get 18 rfl (al 18 (Nat.le_of_ble_eq_true rfl))) cN)))
 refine have cg:=Hp.pick 5 [0, 4, 1, 2, 3] m z;?_
 cases H
 exact je ⟨z, z, z, tv⟩ (Hp.low n cg)
 refine nK X H fun H=>?_
 refine aM [0, 1, 3, 7, 15, 0, 32, 96, 224, 480, 992, 2047, 4095, 8191, 16383, 8191, 65535, 131071, 262143] (fun D r w => (∃ (G' : Gh), af ≤ G' ∧ ag [(0, pointer (some ⟨l, 0, none⟩)), (4, pointer (some ⟨W, 0, none⟩))] [] [(0, 56, pointer (some ⟨l, 0, none⟩)), (1, 57, pointer (some ⟨l, 0, none⟩)), (2, 58, pointer (some ⟨l, 8, none⟩)), (3, 59, slice u T x), (4, 60, int .i64 (a3.fills.length : Int)), (5, 61, pointer (some ⟨l, 0, none⟩)), (6, 62, pointer (some ⟨l, 0, none⟩)), (7, 63, pointer (some ⟨l, 0, none⟩)), (8, 64, pointer (some ⟨l, 0, none⟩)), (9, 65, pointer (some ⟨l, 2, none⟩)), (10, 66, int .i64 a3.sheet.Paper.Columns), (11, 67, bool (decide ((a3.fills.length : Int) < a3.sheet.Paper.Columns))), (12, 68, bool (decide ((a3.fills.length : Int) < a3.sheet.Paper.Columns))), (13, 69, undef), (14, 70, undef), (15, 71, undef), (16, 72, undef), (17, 73, bool false), (18, 55, bool false)] D r ∧ Hp G' (bx l [int .i64 a3.sheet.Paper.Width, int .i64 a3.sheet.Paper.Height, int .i64 a3.sheet.Paper.Columns, int .i64 a3.sheet.Paper.Gap, int .i64 a3.sheet.Paper.Scale, int .i64 a3.sheet.Paper.Lang, slice J a3.placed.length K, slice E a3.notes.length F, slice u T x] 67 :: tk (slice J a3.placed.length K) 8 36 :: tk (slice E a3.notes.length F) 8 36 :: bO af (Kd.int .i64) u [] a3.fills [] x 3 :: bx W [slice Y p.slices.length Z, slice U p.notes.length V, int .i64 p.end_] 64 :: L) w)) dJ z z ?_ ?_ ?_
 exact ⟨_, Gh.le_refl _, ag.start ⟨z, z, tv⟩ trivial, aZ.drew⟩
 refine ⟨?_, ?_, ?_, ?_, ?_, ?_, ?_, ?_, ?_, ?_, ?_, ?_, ?_, ?_, ?_, ?_, ?_, ?_, ?_, tv⟩
 rintro D r B ⟨C, q, g, o⟩ b a d
 obtain ⟨c, rfl⟩ := Has.ex (cC (g.ins.get 0 rfl) cN)
 exact mv z<|nl ⟨z, ⟨_, q, (ag.step g b z z z z), o⟩⟩
 rintro D r B ⟨C, q, g, o⟩ b a d
 obtain ⟨c, rfl⟩ := Has.ex (cC (g.get 0 rfl (a 0 rfl)) cN)
 exact e5 z<|nl ⟨z, ⟨_, q, (ag.step g b z z z z), o⟩⟩
 rintro D r B ⟨C, q, g, o⟩ b a d
 obtain ⟨c, rfl⟩ := Has.ex (cC (g.get 1 rfl (a 1 rfl)) cN)
 exact fa gF z<|nl ⟨z, ⟨_, q, (ag.step g b z z z z), o⟩⟩
 rintro D r B ⟨C, q, g, o⟩ b a d
 obtain ⟨c, rfl⟩ := Has.ex (cC (g.get 2 rfl (a 2 rfl)) cN)
 exact ld o 0 k4 z z z<|nl ⟨z, ⟨_, q, (ag.step g b z z z z), o⟩⟩
 rintro D r B ⟨C, q, g, o⟩ b a d
 obtain ⟨c, rfl⟩ := Has.ex (cC (g.get 3 rfl (a 3 rfl)) cN)
 exact gC l6 z ae<|nl ⟨z, ⟨_, q, (ag.step g b z z z z), o⟩⟩
 rintro D r B ⟨C, q, g, o⟩ b a d
 obtain ⟨c, rfl⟩ := Has.ex (cC (g.ins.get 0 rfl) cN)
 exact mv z<|nl ⟨z, ⟨_, q, (ag.step g b z z z z), o⟩⟩
 rintro D r B ⟨C, q, g, o⟩ b a d
 obtain ⟨c, rfl⟩ := Has.ex (cC (g.get 5 rfl (a 5 rfl)) cN)
 exact e5 z<|nl ⟨z, ⟨_, q, (ag.step g b z z z z), o⟩⟩
 rintro D r B ⟨C, q, g, o⟩ b a d
 obtain ⟨c, rfl⟩ := Has.ex (cC (g.get 6 rfl (a 6 rfl)) cN)
 exact fa iz z<|nl ⟨z, ⟨_, q, (ag.step g b z z z z), o⟩⟩
 rintro D r B ⟨C, q, g, o⟩ b a d
 obtain ⟨c, rfl⟩ := Has.ex (cC (g.get 7 rfl (a 7 rfl)) cN)
 exact fa ee z<|nl ⟨z, ⟨_, q, (ag.step g b z z z z), o⟩⟩
 rintro D r B ⟨C, q, g, o⟩ b a d
 obtain ⟨c, rfl⟩ := Has.ex (cC (g.get 8 rfl (a 8 rfl)) cN)
 exact fa jn z<|nl ⟨z, ⟨_, q, (ag.step g b z z z z), o⟩⟩
 rintro D r B ⟨C, q, g, o⟩ b a d
 obtain ⟨c, rfl⟩ := Has.ex (cC (g.get 9 rfl (a 9 rfl)) cN)
 exact ld o 0 bb z z z<|nl ⟨z, ⟨_, q, (ag.step g b z z z z), o⟩⟩
 rintro D r B ⟨C, q, g, o⟩ b a d
 obtain ⟨c, rfl⟩ := Has.ex (cC (g.get 4 rfl (a 4 rfl)) (cC (g.get 10 rfl (a 10 rfl)) cN))
 exact cZ z z<|nl ⟨z, ⟨_, q, (ag.step g b z z z z), o⟩⟩
 rintro D r B ⟨C, q, g, o⟩ b a d
 obtain ⟨c, rfl⟩ := Has.ex (cC (g.get 11 rfl (a 11 rfl)) cN)
 exact mv z<|nl ⟨z, ⟨_, q, (ag.step g b z z z z), o⟩⟩
 rintro D r B ⟨C, q, g, o⟩ b a d
 obtain ⟨c, rfl⟩ := Has.ex (cC (g.get 12 rfl (a 12 rfl)) cN)
 exact wN (gN z z z (bN X) z)<|nl ⟨z, ⟨_, q, (ag.step g b z z z z), o⟩⟩
 rintro D r B ⟨C, q, g, o⟩ b a d
 obtain ⟨c, rfl⟩ := Has.ex (cC (g.get 12 rfl (a 12 rfl)) cN)
 exact wN (gN z z z (bN X) z)<|nl ⟨z, ⟨_, q, (ag.step g b z z z z), o⟩⟩
 rintro D r B ⟨C, q, g, o⟩ b a d
 obtain ⟨c, rfl⟩ := Has.ex (cC (g.get 12 rfl (a 12 rfl)) cN)
 exact wN (gN z z z (bN X) z)<|nl ⟨z, ⟨_, q, (ag.step g b z z z z), o⟩⟩
 rintro D r B ⟨C, q, g, o⟩ b a d
 obtain ⟨c, rfl⟩ := Has.ex (cC (g.get 12 rfl (a 12 rfl)) cN)
 exact wN (gN z z z (bN X) z)<|nl ⟨z, ⟨_, q, (ag.step g b z z z z), o⟩⟩
 rintro D r B ⟨C, q, g, o⟩ b a d
 obtain ⟨c, rfl⟩ := Has.ex (cC (g.get 12 rfl (a 12 rfl)) (cC (g.get 16 rfl (a 16 rfl)) cN))
 exact dm (bN X) z<|nl ⟨z, ⟨_, q, (ag.step g b z z z z), o⟩⟩
 rintro D r B ⟨C, q, g, o⟩ b a d
 obtain ⟨c, rfl⟩ := Has.ex (cC (g.get 17 rfl (a 17 rfl)) cN)
 exact aK z<|nl ⟨z, ⟨_, q, (ag.step g b z z z z), o⟩⟩
 intro D r B al hR
 obtain ⟨C, q, g, o⟩ := hR
 obtain ⟨c, rfl⟩ := Has.ex (cC (g.ins.get 0 rfl) (cC (g.ins.get 1 rfl) (cC (g.get 18 rfl (al 18 (Nat.le_of_ble_eq_true rfl))) cN)))
 refine have ch:=Hp.pick 5 [0, 4, 1, 2, 3] o z;?_
 cases H
 exact je ⟨z, z, z, tv⟩ (Hp.low q ch)
 refine cd _ _ _<|dC (bl = true) (fun aI=>?_) fun aI=>?_
 refine yK aI H fun H=>wt (vY aI)<|sr fun dy ci=>mv z<|mv z<|e5 z<|fa gF z<|ld a9 0 k4 z z z<|?_
 refine eh a9 (vs := [(0, int .i64 0)]) (cs := [int .i64 0]) j5 pK rfl (by decide) rfl (by kernel_rfl) (fun dz dA bn => ?_)
 refine iK H fun dB H=>?_
 refine ov (kd := (Kd.int .i64)) (ys := [0]) bn 5 j5 pK rfl rfl rfl rfl am ae (dU bn 0 l6 rfl rfl) ⟨[int .i64 0], _, rfl, rfl, rfl⟩ rfl gR (by simp only [List.length_cons, List.length_nil]; omega) (by simp only [List.length_cons, List.length_nil]; omega) (fun dD dE dF dG cj ck cl => ?_)
 refine e5 z<|fa gF z<|f5 cl 1 k4 z z z z z z z fun dH bo=>nl<|ci _ _ _<|aA<|mv z<|gg bo 2 iD z z z z<|have cm:=Hp.pick 6 [1, 3, 4, 5, 0, 2] bo z;bK H fun dI cn H=>ft (vs := [pointer (some ⟨l, 0, none⟩), agg [slice Y p.slices.length Z, slice U p.notes.length V, int .i64 p.end_].toArray, int .i64 0]) pB z z (df (a3 := (⟨a3.sheet, a3.placed, a3.notes, a3.fills ++ [0]⟩ : ai)) cn cm aJ (Dat.mono (gT (gT i k) R) aL) aN ay (Dat.mono (gT (gT i k) R) az) aO cj ck aQ (Dat.mono (gT (gT i k) R) aR) aB (Dat.mono (gT (gT i k) R) aC))<|?_
 rintro _ dK ⟨co, cp, cr, ct, cu, cw, cx, cy, cz, cA, cD, cE, cF, cG, cH, cI, cJ, cK, rfl⟩
 refine ⟨_, rfl, ?_⟩
 refine nl<|have cL:=Hp.pick 6 [5, 0, 3, 1, 2] cA z;?_
 cases H
 exact ⟨z, co, cp, cr, ct, cu, cw, cx, cy, _, z, (gT R cz), trivial, cL, cD, cE, cF, cG, cH, cI, cJ, cK, gR, tv⟩
 refine nK aI H fun H=>wf (vN aI)<|sr fun dL cM=>aK z<|nl<|cM _ _ _<|wr<|have cO:=Hp.pick 5 [1, 0, 2, 3, 4] a9 z;?_
 cases H
 exact ⟨z, af, _, z, R, ⟨z, tv⟩, cO, gR, tv⟩
 rcases be with ⟨bf, bg, bh, bi, bj, bk, aD, aE, a5⟩ | _
 rintro e r ds dM ⟨rfl, an, ao, ap, aq, ar, aF, au, a6, av, rfl, cP, ax, cQ, cR, cS, cT, cU, cV, cW, cX, c0, c1, _⟩
 rw [ax.eq]; clear ax
 refine bC _ _ _<|sr fun dN c2=>aK z<|nl<|c2 _ _ _<|wr<|have c3:=Hp.rwUp cQ 2 z c1;have c4:=Hp.pick 5 [1, 3, 4, 2] c3 z;?_
 cases H
 exact ⟨.inr z, z, _, ⟨_, _, z, z, z⟩, an, ao, ap, aq, ar, aF, au, _, (gT (gT i k) cP), c4, cR, cS, cT, cU, cV, cW, cX, c0, z⟩
 rintro e r ds dO ⟨rfl, a7, aY, rfl, ba, ax, c6, c7, _⟩
 rw [ax.eq]; clear ax
 refine have c8:=Hp.rwUp c6 4 z c7;have da:=Hp.pick 5 [1, 2, 3, 4] c8 z;?_
 cases H
 exact ⟨.inr z, z, _, ⟨_, _, z, z, z⟩, J, K, E, F, u, T, x, _, (gT (gT i k) ba), da, aJ, (Dat.mono (gT (gT i k) ba) aL), aN, ay, (Dat.mono (gT (gT i k) ba) az), aO, ae, am, z⟩
theorem h9 {a3 : ai} {J p B C u y E O F ae G L w} (H : cc a3 J = some ae) (hI : Hp G (bx p [int .i64 a3.sheet.Paper.Width, int .i64 a3.sheet.Paper.Height, int .i64 a3.sheet.Paper.Columns, int .i64 a3.sheet.Paper.Gap, int .i64 a3.sheet.Paper.Scale, int .i64 a3.sheet.Paper.Lang, slice B a3.placed.length C, slice u a3.notes.length y, slice E O F] 67 :: tk (slice B a3.placed.length C) 8 36 :: tk (slice u a3.notes.length y) 8 36 :: bO G (Kd.int .i64) E [] a3.fills [] F 3 :: L) w) (au : a3.placed.length ≤ C) (av : Dat ah G B a3.placed) (ax : Own B C) (ay : a3.notes.length ≤ y) (ao : Dat ah G u a3.notes) (aT : Own u y) (aU : a3.fills.length = O) (aV : Mw E E ([] : List Int).length O F F 1) :
    Calls Try.prog 23 [pointer (some ⟨p, 0, none⟩), int .i64 J].toArray w fun e w' => ∃ (az : Option Addr) (aB : Nat) (G' : Gh), G ≤ G' ∧ Hp G' (bx p [int .i64 a3.sheet.Paper.Width, int .i64 a3.sheet.Paper.Height, int .i64 a3.sheet.Paper.Columns, int .i64 a3.sheet.Paper.Gap, int .i64 a3.sheet.Paper.Scale, int .i64 a3.sheet.Paper.Lang, slice B a3.placed.length C, slice u a3.notes.length y, slice E O F] 67 :: tk (slice u a3.notes.length y) 8 36 :: bO G' (Kd.int .i64) E [] a3.fills [] F 3 :: L) w' ∧ ae.Slices.length ≤ aB ∧ Dat ah G' az ae.Slices ∧ e = .returned (agg [int .i64 ae.Number, slice az ae.Slices.length aB].toArray) := by
 refine aw (N := 53) Try.func23 z z (Nat.le_of_ble_eq_true z)<|?_
 unfold cc at H
 refine sr fun bJ aW=>bQ hI ib fun K bM aX=>nl<|aW _ _ _<|sQ fun bP aY=>bK H fun M aZ H=>bK H fun R a0 H=>?_
 refine aM [0, 1, 3, 7, 15, 31, 0, 64, 192, 448, 960, 2047, 0, 6080, 16383, 32767] (fun D r w => (D 13 = false ∧ ∃ (G' : Gh), G ≤ G' ∧ ag [(0, pointer (some ⟨p, 0, none⟩)), (1, int .i64 J), (4, pointer (some ⟨K, 0, none⟩))] [] [(0, 9, pointer (some ⟨p, 0, none⟩)), (1, 10, pointer (some ⟨p, 0, none⟩)), (2, 11, pointer (some ⟨p, 0, none⟩)), (3, 12, pointer (some ⟨p, 0, none⟩)), (4, 13, pointer (some ⟨p, 1, none⟩)), (5, 14, int .i64 a3.sheet.Paper.Height), (6, 15, pointer (some ⟨p, 0, none⟩)), (7, 16, pointer (some ⟨p, 0, none⟩)), (8, 17, pointer (some ⟨p, 7, none⟩)), (9, 18, slice u a3.notes.length y), (10, 19, int .i64 M), (11, 20, int .i64 (aj (a3.sheet.Paper.Height - M))), (12, 21, pointer (some ⟨p, 0, none⟩))] D r ∧ Hp G' (bx K [int .i64 0, slice none 0 0] 34 :: bx p [int .i64 a3.sheet.Paper.Width, int .i64 a3.sheet.Paper.Height, int .i64 a3.sheet.Paper.Columns, int .i64 a3.sheet.Paper.Gap, int .i64 a3.sheet.Paper.Scale, int .i64 a3.sheet.Paper.Lang, slice B a3.placed.length C, slice u a3.notes.length y, slice E O F] 67 :: tk (slice B a3.placed.length C) 8 36 :: tk (slice u a3.notes.length y) 8 36 :: bO G (Kd.int .i64) E [] a3.fills [] F 3 :: L) w) ∨ (D 13 = true ∧ ∃ (l : Gh) (G' : Gh), G ≤ G' ∧ l ≤ G' ∧ ag [(0, pointer (some ⟨p, 0, none⟩)), (1, int .i64 J), (4, pointer (some ⟨K, 0, none⟩))] [] [(0, 9, pointer (some ⟨p, 0, none⟩)), (1, 10, pointer (some ⟨p, 0, none⟩)), (2, 11, pointer (some ⟨p, 0, none⟩)), (3, 12, pointer (some ⟨p, 0, none⟩)), (4, 13, pointer (some ⟨p, 1, none⟩)), (5, 14, int .i64 a3.sheet.Paper.Height), (6, 15, pointer (some ⟨p, 0, none⟩)), (7, 16, pointer (some ⟨p, 0, none⟩)), (8, 17, pointer (some ⟨p, 7, none⟩)), (9, 18, slice u a3.notes.length y), (10, 19, int .i64 M), (11, 20, int .i64 (aj (a3.sheet.Paper.Height - M))), (12, 21, pointer (some ⟨p, 0, none⟩)), (13, 22, int .i64 R), (14, 23, int .i64 (max (aj (a3.sheet.Paper.Height - M)) R)), (15, 5, int .i64 (max (aj (a3.sheet.Paper.Height - M)) R))] D r ∧ Hp G' (bx K [int .i64 0, slice none 0 0] 34 :: bx p [int .i64 a3.sheet.Paper.Width, int .i64 a3.sheet.Paper.Height, int .i64 a3.sheet.Paper.Columns, int .i64 a3.sheet.Paper.Gap, int .i64 a3.sheet.Paper.Scale, int .i64 a3.sheet.Paper.Lang, slice B a3.placed.length C, slice u a3.notes.length y, slice E O F] 67 :: tk (slice B a3.placed.length C) 8 36 :: tk (slice u a3.notes.length y) 8 36 :: bO l (Kd.int .i64) E [] a3.fills [] F 3 :: L) w)) dJ z z ?_ ?_ ?_
 exact (.inl ⟨z, _, Gh.le_refl _, ag.start ⟨z, z, z, tv⟩ trivial, aX.drew⟩)
 refine ⟨?_, ?_, ?_, ?_, ?_, ?_, ?_, ?_, ?_, ?_, ?_, ?_, ?_, ?_, ?_, ?_, tv⟩
 rintro D r A (⟨m, k, b, a, c⟩ | ⟨n, l, k, b, q, a, c⟩) f i s
 obtain ⟨t, rfl⟩ := Has.ex (cC (a.ins.get 0 rfl) cN)
 exact mv z<|nl ⟨z, (.inl ⟨m, _, b, (ag.step a f z z z z), c⟩)⟩
 obtain ⟨t, rfl⟩ := Has.ex (cC (a.ins.get 0 rfl) cN)
 exact mv z<|nl ⟨z, (.inr ⟨n, l, _, b, q, (ag.step a f z z z z), c⟩)⟩
 rintro D r A (⟨m, k, b, a, c⟩ | ⟨n, l, k, b, q, a, c⟩) f i s
 obtain ⟨t, rfl⟩ := Has.ex (cC (a.get 0 rfl (i 0 rfl)) cN)
 exact e5 z<|nl ⟨z, (.inl ⟨m, _, b, (ag.step a f z z z z), c⟩)⟩
 obtain ⟨t, rfl⟩ := Has.ex (cC (a.get 0 rfl (i 0 rfl)) cN)
 exact e5 z<|nl ⟨z, (.inr ⟨n, l, _, b, q, (ag.step a f z z z z), c⟩)⟩
 rintro D r A (⟨m, k, b, a, c⟩ | ⟨n, l, k, b, q, a, c⟩) f i s
 obtain ⟨t, rfl⟩ := Has.ex (cC (a.get 1 rfl (i 1 rfl)) cN)
 exact fa iz z<|nl ⟨z, (.inl ⟨m, _, b, (ag.step a f z z z z), c⟩)⟩
 obtain ⟨t, rfl⟩ := Has.ex (cC (a.get 1 rfl (i 1 rfl)) cN)
 exact fa iz z<|nl ⟨z, (.inr ⟨n, l, _, b, q, (ag.step a f z z z z), c⟩)⟩
 rintro D r A (⟨m, k, b, a, c⟩ | ⟨n, l, k, b, q, a, c⟩) f i s
 obtain ⟨t, rfl⟩ := Has.ex (cC (a.get 2 rfl (i 2 rfl)) cN)
 exact fa ee z<|nl ⟨z, (.inl ⟨m, _, b, (ag.step a f z z z z), c⟩)⟩
 obtain ⟨t, rfl⟩ := Has.ex (cC (a.get 2 rfl (i 2 rfl)) cN)
 exact fa ee z<|nl ⟨z, (.inr ⟨n, l, _, b, q, (ag.step a f z z z z), c⟩)⟩
 rintro D r A (⟨m, k, b, a, c⟩ | ⟨n, l, k, b, q, a, c⟩) f i s
 obtain ⟨t, rfl⟩ := Has.ex (cC (a.get 3 rfl (i 3 rfl)) cN)
 exact fa gZ z<|nl ⟨z, (.inl ⟨m, _, b, (ag.step a f z z z z), c⟩)⟩
 obtain ⟨t, rfl⟩ := Has.ex (cC (a.get 3 rfl (i 3 rfl)) cN)
 exact fa gZ z<|nl ⟨z, (.inr ⟨n, l, _, b, q, (ag.step a f z z z z), c⟩)⟩
 rintro D r A (⟨m, k, b, a, c⟩ | ⟨n, l, k, b, q, a, c⟩) f i s
 obtain ⟨t, rfl⟩ := Has.ex (cC (a.get 4 rfl (i 4 rfl)) cN)
 exact ld c 1 bb z z z<|nl ⟨z, (.inl ⟨m, _, b, (ag.step a f z z z z), c⟩)⟩
 obtain ⟨t, rfl⟩ := Has.ex (cC (a.get 4 rfl (i 4 rfl)) cN)
 exact ld c 1 bb z z z<|nl ⟨z, (.inr ⟨n, l, _, b, q, (ag.step a f z z z z), c⟩)⟩
 rintro D r A (⟨m, k, b, a, c⟩ | ⟨n, l, k, b, q, a, c⟩) f i s
 obtain ⟨t, rfl⟩ := Has.ex (cC (a.ins.get 0 rfl) cN)
 exact mv z<|nl ⟨z, (.inl ⟨m, _, b, (ag.step a f z z z z), c⟩)⟩
 cases (s 13 rfl).symm.trans n
 rintro D r A (⟨m, k, b, a, c⟩ | ⟨n, l, k, b, q, a, c⟩) f i s
 obtain ⟨t, rfl⟩ := Has.ex (cC (a.get 6 rfl (i 6 rfl)) cN)
 exact e5 z<|nl ⟨z, (.inl ⟨m, _, b, (ag.step a f z z z z), c⟩)⟩
 cases (s 13 rfl).symm.trans n
 rintro D r A (⟨m, k, b, a, c⟩ | ⟨n, l, k, b, q, a, c⟩) f i s
 obtain ⟨t, rfl⟩ := Has.ex (cC (a.get 7 rfl (i 7 rfl)) cN)
 exact fa jM z<|nl ⟨z, (.inl ⟨m, _, b, (ag.step a f z z z z), c⟩)⟩
 cases (s 13 rfl).symm.trans n
 rintro D r A (⟨m, k, b, a, c⟩ | ⟨n, l, k, b, q, a, c⟩) f i s
 obtain ⟨t, rfl⟩ := Has.ex (cC (a.get 8 rfl (i 8 rfl)) cN)
 exact ld c 1 cB z z z<|nl ⟨z, (.inl ⟨m, _, b, (ag.step a f z z z z), c⟩)⟩
 cases (s 13 rfl).symm.trans n
 rintro D r A (⟨m, k, b, a, c⟩ | ⟨n, l, k, b, q, a, c⟩) f i s
 obtain ⟨t, rfl⟩ := Has.ex (cC (a.get 9 rfl (i 9 rfl)) cN)
 exact cv oK (eG aZ c ay (Dat.mono b ao)) z z fun bR a1=>nl ⟨z, (.inl ⟨m, _, b, (ag.step a f z z z z), a1⟩)⟩
 cases (s 13 rfl).symm.trans n
 rintro D r A (⟨m, k, b, a, c⟩ | ⟨n, l, k, b, q, a, c⟩) f i s
 obtain ⟨t, rfl⟩ := Has.ex (cC (a.get 5 rfl (i 5 rfl)) (cC (a.get 10 rfl (i 10 rfl)) cN))
 exact b6 z z<|nl ⟨z, (.inl ⟨m, _, b, (ag.step a f z z z z), c⟩)⟩
 obtain ⟨t, rfl⟩ := Has.ex (cC (a.get 5 rfl (i 5 rfl)) (cC (a.get 10 rfl (i 10 rfl)) cN))
 exact b6 z z<|nl ⟨z, (.inr ⟨n, l, _, b, q, (ag.step a f z z z z), c⟩)⟩
 rintro D r A (⟨m, k, b, a, c⟩ | ⟨n, l, k, b, q, a, c⟩) f i s
 obtain ⟨t, rfl⟩ := Has.ex (cC (a.ins.get 0 rfl) cN)
 exact mv z<|nl ⟨z, (.inl ⟨m, _, b, (ag.step a f z z z z), c⟩)⟩
 cases (s 13 rfl).symm.trans n
 rintro D r A (⟨m, k, b, a, c⟩ | ⟨n, l, k, b, q, a, c⟩) f i s
 obtain ⟨t, rfl⟩ := Has.ex (cC (a.get 12 rfl (i 12 rfl)) cN)
 refine have a2:=Hp.rwUp c 4 z b;have a4:=Hp.pick 5 [1, 2, 3, 4, 0] a2 z;ft (vs := [pointer (some ⟨p, 0, none⟩)]) pY z z (fp a0 a4 au (Dat.mono b av) ax ay (Dat.mono b ao) aT aU aV)<|?_
 rintro _ bS ⟨l, a5, a6, rfl⟩
 refine ⟨_, rfl, ?_⟩
 exact have a7:=Hp.pick 5 [4, 0, 1, 2, 3] a6 z;nl ⟨z, (.inr ⟨z, l, _, (gT b a5), gR, (ag.step (ag.more (new := [(13, 22, int .i64 R), (14, 23, int .i64 (max (aj (a3.sheet.Paper.Height - M)) R)), (15, 5, int .i64 (max (aj (a3.sheet.Paper.Height - M)) R))]) a (List.forall_mem_cons.2 ⟨f, (List.forall_mem_cons.2 ⟨s 14 z, (List.forall_mem_cons.2 ⟨s 15 z, (fun _ h => nomatch h)⟩)⟩)⟩)) f z z z z), a7⟩)⟩
 cases f.symm.trans n
 rintro D r A (⟨m, k, b, a, c⟩ | ⟨n, l, k, b, q, a, c⟩) f i s
 cases (i 13 rfl).symm.trans m
 obtain ⟨t, rfl⟩ := Has.ex (cC (a.get 11 rfl (i 11 rfl)) (cC (a.get 13 rfl (i 13 rfl)) cN))
 exact dR z z<|nl ⟨z, (.inr ⟨n, l, _, b, q, (ag.step a f z z z z), c⟩)⟩
 rintro D r A (⟨m, k, b, a, c⟩ | ⟨n, l, k, b, q, a, c⟩) f i s
 cases (i 13 rfl).symm.trans m
 obtain ⟨t, rfl⟩ := Has.ex (cC (a.get 14 rfl (i 14 rfl)) cN)
 exact aK z<|nl ⟨z, (.inr ⟨n, l, _, b, q, (ag.step a f z z z z), c⟩)⟩
 intro D r A ar hR
 rcases hR with ⟨m, k, b, a, c⟩ | ⟨n, l, k, b, q, a, c⟩
 cases (ar 13 (Nat.le_of_ble_eq_true rfl)).symm.trans m
 obtain ⟨t, rfl⟩ := Has.ex (cC (a.ins.get 0 rfl) (cC (a.ins.get 1 rfl) (cC (a.ins.get 2 rfl) (cC (a.get 15 rfl (ar 15 (Nat.le_of_ble_eq_true rfl))) cN))))
 refine aY _ _ _<|sr fun bT a8=>mv z<|mv z<|e5 z<|fa kW z<|ld c 1 cB z z z<|cf (vs := [(0, int .i64 J), (1, slice B a3.placed.length C)]) (cs := [int .i64 J, slice B a3.placed.length C]) ib mK z z<|bQ c ib fun ak bU a9=>f5 a9 0 kC z z z z z z z fun bV aC=>nl<|a8 _ _ _<|sQ fun bW ba=>sr fun bX bc=>?_
 refine mv z<|e5 z<|fa jM z<|ld aC 2 cB z z z<|q_len dA z<|mv z<|nl<|bc _ _ _<|wb<|bK H fun V hC H=>?_
 refine aP (Q := fun e r ds w => e = .exit 0 ∧ ∃ (S : Option Addr) (T : Nat) (al : Gh), ds = [] ∧ k ≤ al ∧ Has [(4, pointer (some ⟨K, 0, none⟩)), (6, pointer (some ⟨ak, 0, none⟩))] r ∧ Hp al (bx ak [int .i64 J, slice S V.length T] 34 :: bx K [int .i64 0, slice none 0 0] 34 :: bx p [int .i64 a3.sheet.Paper.Width, int .i64 a3.sheet.Paper.Height, int .i64 a3.sheet.Paper.Columns, int .i64 a3.sheet.Paper.Gap, int .i64 a3.sheet.Paper.Scale, int .i64 a3.sheet.Paper.Lang, slice B a3.placed.length C, slice u a3.notes.length y, slice E O F] 67 :: tk (slice u a3.notes.length y) 8 36 :: bO l (Kd.int .i64) E [] a3.fills [] F 3 :: tk (slice S V.length T) 8 36 :: L) w ∧ V.length ≤ T ∧ Dat ah al S V ∧ Own S T ∧ True) ?_ ?_
 refine have bd:=Hp.pick 6 [0, 1, 2, 4, 5, 3] aC z;bH fun I aR=>?_
 refine aS.partial_correctness a3 (fun U d W o => ∀ (Z : Option Addr) (ab : Nat) (am : Gh) (r : Rg) (w : World), k ≤ am → Has [(4, pointer (some ⟨K, 0, none⟩)), (5, int .i64 U), (6, pointer (some ⟨ak, 0, none⟩)), (33, slice u a3.notes.length y), (34, int .i64 (a3.notes.length : Int)), (35, int .i64 d)] r → Hp am (bx ak [int .i64 J, slice Z W.length ab] 34 :: bx K [int .i64 0, slice none 0 0] 34 :: bx p [int .i64 a3.sheet.Paper.Width, int .i64 a3.sheet.Paper.Height, int .i64 a3.sheet.Paper.Columns, int .i64 a3.sheet.Paper.Gap, int .i64 a3.sheet.Paper.Scale, int .i64 a3.sheet.Paper.Lang, slice B a3.placed.length C, slice u a3.notes.length y, slice E O F] 67 :: tk (slice u a3.notes.length y) 8 36 :: bO l (Kd.int .i64) E [] a3.fills [] F 3 :: tk (slice Z W.length ab) 8 36 :: L) w → W.length ≤ ab → Dat ah am Z W → Own Z ab → o = V → I r [] w) ?_ (max (aj (a3.sheet.Paper.Height - M)) R) 0 a3.placed _ hC B C _ _ _ gR ⟨rfl, rfl, rfl, rfl, rfl, rfl, tv⟩ bd au (Dat.mono b av) ax rfl
 intro _ ih U d W o H Z ab am r bZ ap ad aq aD aE aG ho
 rw [ho] at H; clear ho
 rw [ad.eq]; clear ad
 refine aR _ _ _<|sr fun b0 be=>cZ z z<|nl<|be _ _ _<|sQ fun b1 bf=>dC (d < (a3.notes.length : Int)) (fun af=>?_) fun af=>?_
 refine yK af H fun H=>wt (bY af)<|ws<|bf _ _ _<|sQ fun b2 bg=>wb<|sr fun b3 bh=>iK H fun⟨aI, aJ⟩H=>?_
 obtain ⟨b4, b5, bi, bj, b7, bk⟩ := Dat.get (Dat.mono (gT b ap) ao) aa (d) aI aJ
 obtain ⟨rfl⟩ := aF bj
 refine bL cA z bi z aI aJ<|fq aq dx z (cs := [int .i64 ((a3.notes.getD (Int.toNat d) aa).Node), int .i64 ((a3.notes.getD (Int.toNat d) aa).Table), int .i64 ((a3.notes.getD (Int.toNat d) aa).X), int .i64 ((a3.notes.getD (Int.toNat d) aa).Y), int .i64 ((a3.notes.getD (Int.toNat d) aa).H), string ((a3.notes.getD (Int.toNat d) aa).Text), bool ((a3.notes.getD (Int.toNat d) aa).Head), bool ((a3.notes.getD (Int.toNat d) aa).Note)]) z (fun j v hv => gR.cel _ _ (bk j v hv))<|bQ aq cP fun b8 b9 bl=>f5 bl 0 dx z z z z z z z fun ca bo=>nl<|bh _ _ _<|sr fun cb bp=>mv z<|fa bn z<|f5 bo 0 bb z z z z z z z fun cd an=>nl<|bp _ _ _<|sr fun ce bq=>mv z<|?_
 refine fa cm z<|ld an 0 bb z z z<|bm z z<|aK z<|nl<|bq _ _ _<|aA<|fa jf z<|ld an 1 cB z z z<|gg an 0 dx z z z z<|?_
 refine eh an (vs := [(0, agg [int .i64 ((a3.notes.getD (Int.toNat d) aa).Node), int .i64 ((a3.notes.getD (Int.toNat d) aa).Table), int .i64 ((a3.notes.getD (Int.toNat d) aa).X), int .i64 U, int .i64 ((a3.notes.getD (Int.toNat d) aa).H), string ((a3.notes.getD (Int.toNat d) aa).Text), bool ((a3.notes.getD (Int.toNat d) aa).Head), bool ((a3.notes.getD (Int.toNat d) aa).Note)].toArray)]) (cs := [int .i64 ((a3.notes.getD (Int.toNat d) aa).Node), int .i64 ((a3.notes.getD (Int.toNat d) aa).Table), int .i64 ((a3.notes.getD (Int.toNat d) aa).X), int .i64 U, int .i64 ((a3.notes.getD (Int.toNat d) aa).H), string ((a3.notes.getD (Int.toNat d) aa).Text), bool ((a3.notes.getD (Int.toNat d) aa).Head), bool ((a3.notes.getD (Int.toNat d) aa).Note)]) cA cP rfl (by decide) rfl (by kernel_rfl) (fun cg ch aL => ?_)
 refine iK H fun ci H=>?_
 refine fx (xs := W) (ys := [(⟨(a3.notes.getD (Int.toNat d) aa).Node, (a3.notes.getD (Int.toNat d) aa).Table, (a3.notes.getD (Int.toNat d) aa).X, U, (a3.notes.getD (Int.toNat d) aa).H, (a3.notes.getD (Int.toNat d) aa).Text, (a3.notes.getD (Int.toNat d) aa).Head, (a3.notes.getD (Int.toNat d) aa).Note⟩ : ac)]) ah aL 7 cA cP rfl rfl rfl rfl aG aD aE (dU aL 0 dA rfl rfl) ⟨[int .i64 ((a3.notes.getD (Int.toNat d) aa).Node), int .i64 ((a3.notes.getD (Int.toNat d) aa).Table), int .i64 ((a3.notes.getD (Int.toNat d) aa).X), int .i64 U, int .i64 ((a3.notes.getD (Int.toNat d) aa).H), string ((a3.notes.getD (Int.toNat d) aa).Text), bool ((a3.notes.getD (Int.toNat d) aa).Head), bool ((a3.notes.getD (Int.toNat d) aa).Note)], _, rfl, (aH (x := (⟨(a3.notes.getD (Int.toNat d) aa).Node, (a3.notes.getD (Int.toNat d) aa).Table, (a3.notes.getD (Int.toNat d) aa).X, U, (a3.notes.getD (Int.toNat d) aa).H, (a3.notes.getD (Int.toNat d) aa).Text, (a3.notes.getD (Int.toNat d) aa).Head, (a3.notes.getD (Int.toNat d) aa).Note⟩ : ac))), rfl⟩ rfl (by simp only [List.length_cons, List.length_nil]; omega) (by simp only [List.length_cons, List.length_nil]; omega) (fun br bs cj ck bt bu bv bw bz => ?_)
 exact fa jf z<|f5 bz 2 cB z z z z z z z fun cl bA=>nl<|bg _ _ _<|aA<|bm z z<|mv z<|nl<|have bB:=Hp.pick 8 [2, 3, 4, 5, 6, 7] bA z;ih _ _ _ _ H br bs _ _ _ (gT ap bt) ⟨z, z, z, z, z, z, tv⟩ bB bv bw bu z
 refine nK af H fun H=>wf (bN af)<|wx<|?_
 cases H
 exact ⟨z, Z, ab, _, z, ap, ⟨z, z, tv⟩, aq, aD, aE, aG, tv⟩
 rintro e r ds cn ⟨rfl, S, T, al, rfl, aN, ad, aO, bC, bD, co, _⟩
 rw [ad.eq]; clear ad
 refine ba _ _ _<|sr fun cp bE=>gg aO 0 kC z z z z<|f5 aO 1 kC z z z z z z z fun cq aQ=>nl<|bE _ _ _<|wr<|have bF:=gA (P := Try.prog) aQ 1 (cs := [int .i64 J, slice S V.length T]) (g := K) (o := 0) kC z z z;have bG:=Hp.rwUp aQ 4 z (gT q aN);have bI:=Hp.pick 6 [2, 3, 4] bG z;?_
 cases H
 exact ⟨.inr z, z, _, ⟨_, _, _, z, z, bF, z⟩, S, T, _, (gT b aN), bI, bC, bD, z⟩
theorem iU {a3 : Option ai} {p Q J S T K M O V P R F I X G L w} (H : cM a3 p = some X) (hI : Hp G (bx Q [oV a3 J] 58 :: oI a3 (fun (a : ai) => bx J [int .i64 a.sheet.Paper.Width, int .i64 a.sheet.Paper.Height, int .i64 a.sheet.Paper.Columns, int .i64 a.sheet.Paper.Gap, int .i64 a.sheet.Paper.Scale, int .i64 a.sheet.Paper.Lang, slice S a.placed.length T, slice K a.notes.length M, slice O V P] 67) :: oI a3 (fun (a : ai) => tk (slice S a.placed.length T) 8 36) :: oI a3 (fun (a : ai) => tk (slice K a.notes.length M) 8 36) :: oI a3 (fun (a : ai) => bO G (Kd.int .i64) O [] a.fills [] P 3) :: bx R [slice F p.length I] 28 :: tk (slice F p.length I) 2 34 :: L) w) (hO29 : oF a3 (fun (a : ai) => a.placed.length ≤ T ∧ Dat ah G S a.placed ∧ Own S T ∧ a.notes.length ≤ M ∧ Dat ah G K a.notes ∧ Own K M ∧ a.fills.length = V ∧ Mw O O ([] : List Int).length V P P 1 ∧ True)) (ac : p.length ≤ I) (ad : Dat br G F p) (ae : Own F I) :
    Calls Try.prog 22 [pointer (some ⟨Q, 0, none⟩), pointer (some ⟨R, 0, none⟩)].toArray w fun e w' => ∃ (Z : Option Addr) (aa : Nat) (G' : Gh), G ≤ G' ∧ Hp G' (bx Q [oV a3 J] 58 :: oI a3 (fun (a : ai) => bx J [int .i64 a.sheet.Paper.Width, int .i64 a.sheet.Paper.Height, int .i64 a.sheet.Paper.Columns, int .i64 a.sheet.Paper.Gap, int .i64 a.sheet.Paper.Scale, int .i64 a.sheet.Paper.Lang, slice S a.placed.length T, slice K a.notes.length M, slice O V P] 67) :: oI a3 (fun (a : ai) => tk (slice K a.notes.length M) 8 36) :: oI a3 (fun (a : ai) => bO G' (Kd.int .i64) O [] a.fills [] P 3) :: bx R [slice Z X.length aa] 28 :: tk (slice Z X.length aa) 2 34 :: L) w' ∧ X.length ≤ aa ∧ Dat br G' Z X ∧ Own Z aa ∧ e = .returned (tuple [].toArray) := by
 refine aw (N := 12) Try.func22 z z (Nat.le_of_ble_eq_true z)<|?_
 unfold cM at H
 refine sr fun aG af=>ld hI 0 lX z z z<|?_
 rcases a3 with _ | a
 refine kv nI z z<|nl<|af _ _ _<|wf z<|ws<|have ak:=Hp.pick 7 [0, 1, 3, 4, 5, 6] hI z;?_
 cases H
 exact ⟨.inl z, z, _, z, F, I, _, gR, ak, ac, ad, ae, z⟩
 obtain ⟨al, am, an, ao, ap, aq, ar, au, _⟩ := hO29
 refine ku nI z z<|nl<|af _ _ _<|wt z<|bK H fun s av H=>iK H fun aH H=>?_
 refine aM [0, 0, 0, 4, 12, 30, 62, 127, 255] (fun D r w => (D 5 = false ∧ ∃ (G' : Gh), G ≤ G' ∧ ag [(0, pointer (some ⟨Q, 0, none⟩)), (1, pointer (some ⟨R, 0, none⟩))] [] [(0, 4, slice F p.length I), (1, 5, pointer (some ⟨J, 0, none⟩)), (2, 6, slice F p.length I), (3, 7, int .i64 (p.length : Int)), (4, 8, int .i64 (aj ((p.length : Int) + 1)))] D r ∧ Hp G' (bx Q [pointer (some ⟨J, 0, none⟩)] 58 :: bx J [int .i64 a.sheet.Paper.Width, int .i64 a.sheet.Paper.Height, int .i64 a.sheet.Paper.Columns, int .i64 a.sheet.Paper.Gap, int .i64 a.sheet.Paper.Scale, int .i64 a.sheet.Paper.Lang, slice S a.placed.length T, slice K a.notes.length M, slice O V P] 67 :: tk (slice S a.placed.length T) 8 36 :: tk (slice K a.notes.length M) 8 36 :: bO G (Kd.int .i64) O [] a.fills [] P 3 :: bx R [slice F p.length I] 28 :: tk (slice F p.length I) 2 34 :: L) w) ∨ (D 5 = true ∧ D 6 = false ∧ ∃ (f : Option Addr) (g : Nat) (j : Gh) (G' : Gh), G ≤ G' ∧ s.Slices.length ≤ g ∧ Dat ah G' f s.Slices ∧ j ≤ G' ∧ ag [(0, pointer (some ⟨Q, 0, none⟩)), (1, pointer (some ⟨R, 0, none⟩))] [] [(0, 4, slice F p.length I), (1, 5, pointer (some ⟨J, 0, none⟩)), (2, 6, slice F p.length I), (3, 7, int .i64 (p.length : Int)), (4, 8, int .i64 (aj ((p.length : Int) + 1))), (5, 9, agg [int .i64 s.Number, slice f s.Slices.length g].toArray)] D r ∧ Hp G' (bx J [int .i64 a.sheet.Paper.Width, int .i64 a.sheet.Paper.Height, int .i64 a.sheet.Paper.Columns, int .i64 a.sheet.Paper.Gap, int .i64 a.sheet.Paper.Scale, int .i64 a.sheet.Paper.Lang, slice S a.placed.length T, slice K a.notes.length M, slice O V P] 67 :: tk (slice K a.notes.length M) 8 36 :: bO j (Kd.int .i64) O [] a.fills [] P 3 :: bx Q [pointer (some ⟨J, 0, none⟩)] 58 :: bx R [slice F p.length I] 28 :: tk (slice F p.length I) 2 34 :: L) w) ∨ (D 6 = true ∧ D 7 = false ∧ ∃ (f : Option Addr) (g : Nat) (j : Gh) (q : Nat) (G' : Gh), G ≤ G' ∧ s.Slices.length ≤ g ∧ Dat ah G' f s.Slices ∧ j ≤ G' ∧ ag [(0, pointer (some ⟨Q, 0, none⟩)), (1, pointer (some ⟨R, 0, none⟩))] [] [(0, 4, slice F p.length I), (1, 5, pointer (some ⟨J, 0, none⟩)), (2, 6, slice F p.length I), (3, 7, int .i64 (p.length : Int)), (4, 8, int .i64 (aj ((p.length : Int) + 1))), (5, 9, agg [int .i64 s.Number, slice f s.Slices.length g].toArray), (6, 10, slice (some ⟨q, 0, none⟩) 1 1)] D r ∧ Hp G' (bx q [int .i64 s.Number, slice f s.Slices.length g] 34 :: bx J [int .i64 a.sheet.Paper.Width, int .i64 a.sheet.Paper.Height, int .i64 a.sheet.Paper.Columns, int .i64 a.sheet.Paper.Gap, int .i64 a.sheet.Paper.Scale, int .i64 a.sheet.Paper.Lang, slice S a.placed.length T, slice K a.notes.length M, slice O V P] 67 :: tk (slice K a.notes.length M) 8 36 :: bO j (Kd.int .i64) O [] a.fills [] P 3 :: bx Q [pointer (some ⟨J, 0, none⟩)] 58 :: bx R [slice F p.length I] 28 :: tk (slice F p.length I) 2 34 :: L) w) ∨ (D 7 = true ∧ D 8 = false ∧ ∃ (f : Option Addr) (g : Nat) (j : Gh) (q : Nat) (u : Option Addr) (v : Nat) (G' : Gh), G ≤ G' ∧ s.Slices.length ≤ g ∧ Dat ah G' f s.Slices ∧ j ≤ G' ∧ (p ++ [s]).length ≤ v ∧ Dat br G' u (p ++ [s]) ∧ Own u v ∧ ag [(0, pointer (some ⟨Q, 0, none⟩)), (1, pointer (some ⟨R, 0, none⟩))] [] [(0, 4, slice F p.length I), (1, 5, pointer (some ⟨J, 0, none⟩)), (2, 6, slice F p.length I), (3, 7, int .i64 (p.length : Int)), (4, 8, int .i64 (aj ((p.length : Int) + 1))), (5, 9, agg [int .i64 s.Number, slice f s.Slices.length g].toArray), (6, 10, slice (some ⟨q, 0, none⟩) 1 1), (7, 11, slice u (p ++ [s]).length v)] D r ∧ Hp G' (bx q [int .i64 s.Number, slice f s.Slices.length g] 34 :: bx J [int .i64 a.sheet.Paper.Width, int .i64 a.sheet.Paper.Height, int .i64 a.sheet.Paper.Columns, int .i64 a.sheet.Paper.Gap, int .i64 a.sheet.Paper.Scale, int .i64 a.sheet.Paper.Lang, slice S a.placed.length T, slice K a.notes.length M, slice O V P] 67 :: tk (slice K a.notes.length M) 8 36 :: bO j (Kd.int .i64) O [] a.fills [] P 3 :: bx Q [pointer (some ⟨J, 0, none⟩)] 58 :: bx R [slice F p.length I] 28 :: tk (slice u (p ++ [s]).length v) 2 34 :: L) w) ∨ (D 8 = true ∧ ∃ (f : Option Addr) (g : Nat) (j : Gh) (q : Nat) (u : Option Addr) (v : Nat) (G' : Gh), G ≤ G' ∧ s.Slices.length ≤ g ∧ Dat ah G' f s.Slices ∧ j ≤ G' ∧ (p ++ [s]).length ≤ v ∧ Dat br G' u (p ++ [s]) ∧ Own u v ∧ ag [(0, pointer (some ⟨Q, 0, none⟩)), (1, pointer (some ⟨R, 0, none⟩))] [] [(0, 4, slice F p.length I), (1, 5, pointer (some ⟨J, 0, none⟩)), (2, 6, slice F p.length I), (3, 7, int .i64 (p.length : Int)), (4, 8, int .i64 (aj ((p.length : Int) + 1))), (5, 9, agg [int .i64 s.Number, slice f s.Slices.length g].toArray), (6, 10, slice (some ⟨q, 0, none⟩) 1 1), (7, 11, slice u (p ++ [s]).length v)] D r ∧ Hp G' (bx q [int .i64 s.Number, slice f s.Slices.length g] 34 :: bx J [int .i64 a.sheet.Paper.Width, int .i64 a.sheet.Paper.Height, int .i64 a.sheet.Paper.Columns, int .i64 a.sheet.Paper.Gap, int .i64 a.sheet.Paper.Scale, int .i64 a.sheet.Paper.Lang, slice S a.placed.length T, slice K a.notes.length M, slice O V P] 67 :: tk (slice K a.notes.length M) 8 36 :: bO j (Kd.int .i64) O [] a.fills [] P 3 :: bx Q [pointer (some ⟨J, 0, none⟩)] 58 :: bx R [slice u (p ++ [s]).length v] 28 :: tk (slice u (p ++ [s]).length v) 2 34 :: L) w)) dJ z z ?_ ?_ ?_
 exact (.inl ⟨z, _, Gh.le_refl _, ag.start ⟨z, z, tv⟩ trivial, hI.drew⟩)
 refine ⟨?_, ?_, ?_, ?_, ?_, ?_, ?_, ?_, ?_, tv⟩
 rintro D r W (⟨k, l, i, b, d⟩ | ⟨c, k, f, g, j, l, i, m, n, o, b, d⟩ | ⟨c, k, f, g, j, q, l, i, m, n, o, b, d⟩ | ⟨c, k, f, g, j, q, u, v, l, i, m, n, o, A, B, C, b, d⟩ | ⟨c, f, g, j, q, u, v, l, i, m, n, o, A, B, C, b, d⟩) y E t
 obtain ⟨U, rfl⟩ := Has.ex (cC (b.ins.get 1 rfl) cN)
 exact ld d 5 jY z z z<|nl ⟨z, (.inl ⟨k, _, i, (ag.step b y z z z z), d⟩)⟩
 obtain ⟨U, rfl⟩ := Has.ex (cC (b.ins.get 1 rfl) cN)
 exact ld d 4 jY z z z<|nl ⟨z, (.inr (.inl ⟨c, k, f, g, j, _, i, m, n, o, (ag.step b y z z z z), d⟩))⟩
 obtain ⟨U, rfl⟩ := Has.ex (cC (b.ins.get 1 rfl) cN)
 exact ld d 5 jY z z z<|nl ⟨z, (.inr (.inr (.inl ⟨c, k, f, g, j, q, _, i, m, n, o, (ag.step b y z z z z), d⟩)))⟩
 cases (t 7 rfl).symm.trans c
 cases (t 8 rfl).symm.trans c
 rintro D r W (⟨k, l, i, b, d⟩ | ⟨c, k, f, g, j, l, i, m, n, o, b, d⟩ | ⟨c, k, f, g, j, q, l, i, m, n, o, b, d⟩ | ⟨c, k, f, g, j, q, u, v, l, i, m, n, o, A, B, C, b, d⟩ | ⟨c, f, g, j, q, u, v, l, i, m, n, o, A, B, C, b, d⟩) y E t
 obtain ⟨U, rfl⟩ := Has.ex (cC (b.ins.get 0 rfl) cN)
 exact ld d 0 lX z z z<|nl ⟨z, (.inl ⟨k, _, i, (ag.step b y z z z z), d⟩)⟩
 cases (t 5 rfl).symm.trans c
 cases (t 6 rfl).symm.trans c
 cases (t 7 rfl).symm.trans c
 cases (t 8 rfl).symm.trans c
 rintro D r W (⟨k, l, i, b, d⟩ | ⟨c, k, f, g, j, l, i, m, n, o, b, d⟩ | ⟨c, k, f, g, j, q, l, i, m, n, o, b, d⟩ | ⟨c, k, f, g, j, q, u, v, l, i, m, n, o, A, B, C, b, d⟩ | ⟨c, f, g, j, q, u, v, l, i, m, n, o, A, B, C, b, d⟩) y E t
 obtain ⟨U, rfl⟩ := Has.ex (cC (b.ins.get 1 rfl) cN)
 exact ld d 5 jY z z z<|nl ⟨z, (.inl ⟨k, _, i, (ag.step b y z z z z), d⟩)⟩
 cases (t 5 rfl).symm.trans c
 cases (t 6 rfl).symm.trans c
 cases (t 7 rfl).symm.trans c
 cases (t 8 rfl).symm.trans c
 rintro D r W (⟨k, l, i, b, d⟩ | ⟨c, k, f, g, j, l, i, m, n, o, b, d⟩ | ⟨c, k, f, g, j, q, l, i, m, n, o, b, d⟩ | ⟨c, k, f, g, j, q, u, v, l, i, m, n, o, A, B, C, b, d⟩ | ⟨c, f, g, j, q, u, v, l, i, m, n, o, A, B, C, b, d⟩) y E t
 obtain ⟨U, rfl⟩ := Has.ex (cC (b.get 2 rfl (E 2 rfl)) cN)
 exact q_len kH z<|nl ⟨z, (.inl ⟨k, _, i, (ag.step b y z z z z), d⟩)⟩
 cases (t 5 rfl).symm.trans c
 cases (t 6 rfl).symm.trans c
 cases (t 7 rfl).symm.trans c
 cases (t 8 rfl).symm.trans c
 rintro D r W (⟨k, l, i, b, d⟩ | ⟨c, k, f, g, j, l, i, m, n, o, b, d⟩ | ⟨c, k, f, g, j, q, l, i, m, n, o, b, d⟩ | ⟨c, k, f, g, j, q, u, v, l, i, m, n, o, A, B, C, b, d⟩ | ⟨c, f, g, j, q, u, v, l, i, m, n, o, A, B, C, b, d⟩) y E t
 obtain ⟨U, rfl⟩ := Has.ex (cC (b.get 3 rfl (E 3 rfl)) cN)
 exact bm z z<|nl ⟨z, (.inl ⟨k, _, i, (ag.step b y z z z z), d⟩)⟩
 cases (t 5 rfl).symm.trans c
 cases (t 6 rfl).symm.trans c
 cases (t 7 rfl).symm.trans c
 cases (t 8 rfl).symm.trans c
 rintro D r W (⟨k, l, i, b, d⟩ | ⟨c, k, f, g, j, l, i, m, n, o, b, d⟩ | ⟨c, k, f, g, j, q, l, i, m, n, o, b, d⟩ | ⟨c, k, f, g, j, q, u, v, l, i, m, n, o, A, B, C, b, d⟩ | ⟨c, f, g, j, q, u, v, l, i, m, n, o, A, B, C, b, d⟩) y E t
 obtain ⟨U, rfl⟩ := Has.ex (cC (b.get 1 rfl (E 1 rfl)) (cC (b.get 4 rfl (E 4 rfl)) cN))
 refine have ax:=Hp.rwUp d 4 z i;have ay:=Hp.pick 7 [1, 2, 3, 4, 0, 5, 6] ax z;ft (vs := [pointer (some ⟨J, 0, none⟩), int .i64 (aj ((p.length : Int) + 1))]) qP z z (h9 av ay al (Dat.mono i am) an ao (Dat.mono i ap) aq ar au)<|?_
 rintro _ aI ⟨f, g, j, az, aA, m, n, rfl⟩
 refine ⟨_, rfl, ?_⟩
 exact nl ⟨z, (.inr (.inl ⟨z, (t 6 z), f, g, j, _, (gT i az), m, n, gR, (ag.step (ag.more (new := [(5, 9, agg [int .i64 s.Number, slice f s.Slices.length g].toArray)]) b (List.forall_mem_cons.2 ⟨y, (fun _ h => nomatch h)⟩)) y z z z z), aA⟩))⟩
 cases y.symm.trans c
 cases (t 6 rfl).symm.trans c
 cases (t 7 rfl).symm.trans c
 cases (t 8 rfl).symm.trans c
 rintro D r W (⟨k, l, i, b, d⟩ | ⟨c, k, f, g, j, l, i, m, n, o, b, d⟩ | ⟨c, k, f, g, j, q, l, i, m, n, o, b, d⟩ | ⟨c, k, f, g, j, q, u, v, l, i, m, n, o, A, B, C, b, d⟩ | ⟨c, f, g, j, q, u, v, l, i, m, n, o, A, B, C, b, d⟩) y E t
 cases (E 5 rfl).symm.trans k
 obtain ⟨U, rfl⟩ := Has.ex (cC (b.get 5 rfl (E 5 rfl)) cN)
 refine eh d (vs := [(0, agg [int .i64 s.Number, slice f s.Slices.length g].toArray)]) (cs := [int .i64 s.Number, slice f s.Slices.length g]) ko ib rfl (by decide) rfl (by kernel_rfl) (fun q aJ aB => ?_)
 exact nl ⟨z, (.inr (.inr (.inl ⟨z, (t 7 z), f, g, j, q, _, i, m, n, o, (ag.step (ag.more (new := [(6, 10, slice (some ⟨q, 0, none⟩) 1 1)]) b (List.forall_mem_cons.2 ⟨y, (fun _ h => nomatch h)⟩)) y z z z z), aB⟩)))⟩
 cases y.symm.trans c
 cases (t 7 rfl).symm.trans c
 cases (t 8 rfl).symm.trans c
 rintro D r W (⟨k, l, i, b, d⟩ | ⟨c, k, f, g, j, l, i, m, n, o, b, d⟩ | ⟨c, k, f, g, j, q, l, i, m, n, o, b, d⟩ | ⟨c, k, f, g, j, q, u, v, l, i, m, n, o, A, B, C, b, d⟩ | ⟨c, f, g, j, q, u, v, l, i, m, n, o, A, B, C, b, d⟩) y E t
 cases (E 5 rfl).symm.trans k
 cases (E 6 rfl).symm.trans k
 obtain ⟨U, rfl⟩ := Has.ex (cC (b.get 0 rfl (E 0 rfl)) (cC (b.get 6 rfl (E 6 rfl)) cN))
 refine fx (xs := p) (ys := [s]) br d 6 ko ib rfl rfl rfl rfl ae ac (Dat.mono i ad) (dU d 0 kH rfl rfl) ⟨[int .i64 s.Number, slice f s.Slices.length g], _, rfl, (d7 (x := s) m n), rfl⟩ rfl (by simp only [List.length_cons, List.length_nil]; omega) (by simp only [List.length_cons, List.length_nil]; omega) (fun u v aK aL ab C A B aC => ?_)
 exact nl ⟨z, (.inr (.inr (.inr (.inl ⟨z, (t 8 z), f, g, j, q, u, v, _, (gT i ab), m, (Dat.mono ab n), (gT o ab), A, B, C, (ag.step (ag.more (new := [(7, 11, slice u (p ++ [s]).length v)]) b (List.forall_mem_cons.2 ⟨y, (fun _ h => nomatch h)⟩)) y z z z z), aC⟩))))⟩
 cases y.symm.trans c
 cases (t 8 rfl).symm.trans c
 rintro D r W (⟨k, l, i, b, d⟩ | ⟨c, k, f, g, j, l, i, m, n, o, b, d⟩ | ⟨c, k, f, g, j, q, l, i, m, n, o, b, d⟩ | ⟨c, k, f, g, j, q, u, v, l, i, m, n, o, A, B, C, b, d⟩ | ⟨c, f, g, j, q, u, v, l, i, m, n, o, A, B, C, b, d⟩) y E t
 cases (E 5 rfl).symm.trans k
 cases (E 6 rfl).symm.trans k
 cases (E 7 rfl).symm.trans k
 obtain ⟨U, rfl⟩ := Has.ex (cC (b.ins.get 1 rfl) (cC (b.get 7 rfl (E 7 rfl)) cN))
 exact f5 d 5 jY z z z z z z z fun aN aD=>nl ⟨z, (.inr (.inr (.inr (.inr ⟨z, f, g, j, q, u, v, _, i, m, n, o, A, B, C, (ag.stepN b z z), aD⟩))))⟩
 cases y.symm.trans c
 intro D r W Y hR
 rcases hR with ⟨k, l, i, b, d⟩ | ⟨c, k, f, g, j, l, i, m, n, o, b, d⟩ | ⟨c, k, f, g, j, q, l, i, m, n, o, b, d⟩ | ⟨c, k, f, g, j, q, u, v, l, i, m, n, o, A, B, C, b, d⟩ | ⟨c, f, g, j, q, u, v, l, i, m, n, o, A, B, C, b, d⟩
 cases (Y 5 (Nat.le_of_ble_eq_true rfl)).symm.trans k
 cases (Y 6 (Nat.le_of_ble_eq_true rfl)).symm.trans k
 cases (Y 7 (Nat.le_of_ble_eq_true rfl)).symm.trans k
 cases (Y 8 (Nat.le_of_ble_eq_true rfl)).symm.trans k
 obtain ⟨U, rfl⟩ := Has.ex (r := r) cN
 refine have aE:=Hp.rwUp d 3 z o;have aF:=Hp.pick 7 [4, 1, 2, 3, 5, 6] aE z;?_
 cases H
 exact ⟨.inl z, z, _, z, u, v, _, i, aF, A, B, C, z⟩
theorem im {a3 : ai} {h c d i j a f b s G L w} (H : ct a3 = some s) (hI : Hp G (bx h [int .i64 a3.sheet.Paper.Width, int .i64 a3.sheet.Paper.Height, int .i64 a3.sheet.Paper.Columns, int .i64 a3.sheet.Paper.Gap, int .i64 a3.sheet.Paper.Scale, int .i64 a3.sheet.Paper.Lang, slice c a3.placed.length d, slice i a3.notes.length j, slice a f b] 67 :: tk (slice c a3.placed.length d) 8 36 :: bO G (Kd.int .i64) a [] a3.fills [] b 3 :: L) w) (T : a3.placed.length ≤ d) (U : Dat ah G c a3.placed) (V : Own c d) (W : a3.notes.length ≤ j) (X : Dat ah G i a3.notes) (m : a3.fills.length = f) (t : Mw a a ([] : List Int).length f b b 1) :
    Calls Try.prog 42 [pointer (some ⟨h, 0, none⟩)].toArray w fun e w' => ∃ (G' : Gh), G ≤ G' ∧ Hp G' (bx h [int .i64 a3.sheet.Paper.Width, int .i64 a3.sheet.Paper.Height, int .i64 a3.sheet.Paper.Columns, int .i64 a3.sheet.Paper.Gap, int .i64 a3.sheet.Paper.Scale, int .i64 a3.sheet.Paper.Lang, slice c a3.placed.length d, slice i a3.notes.length j, slice a f b] 67 :: tk (slice c a3.placed.length d) 8 36 :: bO G' (Kd.int .i64) a [] a3.fills [] b 3 :: L) w' ∧ e = .returned (int .i64 s) := by
 refine aw (N := 20) Try.func42 z z (Nat.le_of_ble_eq_true z)<|?_
 unfold ct at H
 refine sr fun Y B=>aK z<|nl<|B _ _ _<|sr fun Z C=>aK z<|nl<|C _ _ _<|sQ fun aa D=>sr fun ab E=>mv z<|e5 z<|fa gF z<|ld hI 0 k4 z z z<|?_
 refine gC l6 z m<|mv z<|nl<|E _ _ _<|wb<|bK H fun u hC H=>?_
 refine aP (Q := fun e r ds w => e = .exit 0 ∧ ds = [] ∧ Has [(3, int .i64 u)] r ∧ Hp G (bx h [int .i64 a3.sheet.Paper.Width, int .i64 a3.sheet.Paper.Height, int .i64 a3.sheet.Paper.Columns, int .i64 a3.sheet.Paper.Gap, int .i64 a3.sheet.Paper.Scale, int .i64 a3.sheet.Paper.Lang, slice c a3.placed.length d, slice i a3.notes.length j, slice a f b] 67 :: tk (slice c a3.placed.length d) 8 36 :: bO G (Kd.int .i64) a [] a3.fills [] b 3 :: L) w ∧ True) ?_ ?_
 refine bH fun I A=>?_
 refine a9.partial_correctness a3 (fun x l o => ∀ (r : Rg) (w : World), Has [(3, int .i64 x), (9, slice a f b), (10, int .i64 (a3.fills.length : Int)), (11, int .i64 l)] r → Hp G (bx h [int .i64 a3.sheet.Paper.Width, int .i64 a3.sheet.Paper.Height, int .i64 a3.sheet.Paper.Columns, int .i64 a3.sheet.Paper.Gap, int .i64 a3.sheet.Paper.Scale, int .i64 a3.sheet.Paper.Lang, slice c a3.placed.length d, slice i a3.notes.length j, slice a f b] 67 :: tk (slice c a3.placed.length d) 8 36 :: bO G (Kd.int .i64) a [] a3.fills [] b 3 :: L) w → o = u → I r [] w) ?_ 0 0 _ hC _ _ ⟨rfl, rfl, rfl, rfl, tv⟩ hI rfl
 intro _ ih x l o H r ac g n ho
 rw [ho] at H; clear ho
 rw [g.eq]; clear g
 refine A _ _ _<|sr fun ae F=>cZ z z<|nl<|F _ _ _<|sQ fun af J=>dC (l < (a3.fills.length : Int)) (fun k=>?_) fun k=>?_
 refine yK k H fun H=>wt (bY k)<|ws<|J _ _ _<|sQ fun ag K=>wb<|sr fun aj M=>iK H fun⟨p, O⟩H=>have q:=iy m O;?_
 obtain ⟨ak, y⟩ := Mw.ad t p q
 refine bL j5 z y z p q<|?_
 obtain ⟨_, rfl, _, P⟩ := Hp.rwGet n 2 rfl t m y (0 : Int) p q
 refine eg (v := int .i64 (a3.fills.getD (Int.toNat l) (0 : Int))) bb z (cell0 (P 0 _ z))<|aK z<|nl<|M _ _ _<|aA<|mv z<|mv z<|dR z z<|aK z<|nl<|K _ _ _<|aA<|bm z z<|mv z<|?_
 exact nl<|ih _ _ _ H _ _ ⟨z, z, z, z, tv⟩ n z
 refine nK k H fun H=>wf (bN k)<|wx<|?_
 cases H
 exact ⟨z, z, ⟨z, tv⟩, n, tv⟩
 rintro e r ds al ⟨rfl, rfl, g, R, _⟩
 rw [g.eq]; clear g
 refine D _ _ _<|sr fun am S=>mv z<|aK z<|nl<|S _ _ _<|wr<|?_
 cases H
 exact ⟨.inr z, z, _, ⟨_, _, z, z, z⟩, _, gR, R, z⟩
theorem g0 {a3 : ai} {J p y A E F B O C ae G L w} (H : cd a3 J = some ae) (hI : Hp G (bx p [int .i64 a3.sheet.Paper.Width, int .i64 a3.sheet.Paper.Height, int .i64 a3.sheet.Paper.Columns, int .i64 a3.sheet.Paper.Gap, int .i64 a3.sheet.Paper.Scale, int .i64 a3.sheet.Paper.Lang, slice y a3.placed.length A, slice E a3.notes.length F, slice B O C] 67 :: tk (slice y a3.placed.length A) 8 36 :: bO G (Kd.int .i64) B [] a3.fills [] C 3 :: L) w) (au : a3.placed.length ≤ A) (av : Dat ah G y a3.placed) (ax : Own y A) (ay : a3.notes.length ≤ F) (ao : Dat ah G E a3.notes) (aS : a3.fills.length = O) (aU : Mw B B ([] : List Int).length O C C 1) :
    Calls Try.prog 23 [pointer (some ⟨p, 0, none⟩), int .i64 J].toArray w fun e w' => ∃ (az : Option Addr) (aB : Nat) (G' : Gh), G ≤ G' ∧ Hp G' (bx p [int .i64 a3.sheet.Paper.Width, int .i64 a3.sheet.Paper.Height, int .i64 a3.sheet.Paper.Columns, int .i64 a3.sheet.Paper.Gap, int .i64 a3.sheet.Paper.Scale, int .i64 a3.sheet.Paper.Lang, slice y a3.placed.length A, slice E a3.notes.length F, slice B O C] 67 :: bO G' (Kd.int .i64) B [] a3.fills [] C 3 :: L) w' ∧ ae.Slices.length ≤ aB ∧ Dat ah G' az ae.Slices ∧ e = .returned (agg [int .i64 ae.Number, slice az ae.Slices.length aB].toArray) := by
 refine aw (N := 53) Try.func23 z z (Nat.le_of_ble_eq_true z)<|?_
 unfold cd at H
 refine sr fun bI aV=>bQ hI ib fun K bJ aW=>nl<|aV _ _ _<|sQ fun bM aX=>bK H fun M aY H=>bK H fun R aZ H=>?_
 refine aM [0, 1, 3, 7, 15, 31, 0, 64, 192, 448, 960, 2047, 0, 6080, 16383, 32767] (fun D r w => (D 13 = false ∧ ∃ (G' : Gh), G ≤ G' ∧ ag [(0, pointer (some ⟨p, 0, none⟩)), (1, int .i64 J), (4, pointer (some ⟨K, 0, none⟩))] [] [(0, 9, pointer (some ⟨p, 0, none⟩)), (1, 10, pointer (some ⟨p, 0, none⟩)), (2, 11, pointer (some ⟨p, 0, none⟩)), (3, 12, pointer (some ⟨p, 0, none⟩)), (4, 13, pointer (some ⟨p, 1, none⟩)), (5, 14, int .i64 a3.sheet.Paper.Height), (6, 15, pointer (some ⟨p, 0, none⟩)), (7, 16, pointer (some ⟨p, 0, none⟩)), (8, 17, pointer (some ⟨p, 7, none⟩)), (9, 18, slice E a3.notes.length F), (10, 19, int .i64 M), (11, 20, int .i64 (aj (a3.sheet.Paper.Height - M))), (12, 21, pointer (some ⟨p, 0, none⟩))] D r ∧ Hp G' (bx K [int .i64 0, slice none 0 0] 34 :: bx p [int .i64 a3.sheet.Paper.Width, int .i64 a3.sheet.Paper.Height, int .i64 a3.sheet.Paper.Columns, int .i64 a3.sheet.Paper.Gap, int .i64 a3.sheet.Paper.Scale, int .i64 a3.sheet.Paper.Lang, slice y a3.placed.length A, slice E a3.notes.length F, slice B O C] 67 :: tk (slice y a3.placed.length A) 8 36 :: bO G (Kd.int .i64) B [] a3.fills [] C 3 :: L) w) ∨ (D 13 = true ∧ ∃ (l : Gh) (G' : Gh), G ≤ G' ∧ l ≤ G' ∧ ag [(0, pointer (some ⟨p, 0, none⟩)), (1, int .i64 J), (4, pointer (some ⟨K, 0, none⟩))] [] [(0, 9, pointer (some ⟨p, 0, none⟩)), (1, 10, pointer (some ⟨p, 0, none⟩)), (2, 11, pointer (some ⟨p, 0, none⟩)), (3, 12, pointer (some ⟨p, 0, none⟩)), (4, 13, pointer (some ⟨p, 1, none⟩)), (5, 14, int .i64 a3.sheet.Paper.Height), (6, 15, pointer (some ⟨p, 0, none⟩)), (7, 16, pointer (some ⟨p, 0, none⟩)), (8, 17, pointer (some ⟨p, 7, none⟩)), (9, 18, slice E a3.notes.length F), (10, 19, int .i64 M), (11, 20, int .i64 (aj (a3.sheet.Paper.Height - M))), (12, 21, pointer (some ⟨p, 0, none⟩)), (13, 22, int .i64 R), (14, 23, int .i64 (max (aj (a3.sheet.Paper.Height - M)) R)), (15, 5, int .i64 (max (aj (a3.sheet.Paper.Height - M)) R))] D r ∧ Hp G' (bx K [int .i64 0, slice none 0 0] 34 :: bx p [int .i64 a3.sheet.Paper.Width, int .i64 a3.sheet.Paper.Height, int .i64 a3.sheet.Paper.Columns, int .i64 a3.sheet.Paper.Gap, int .i64 a3.sheet.Paper.Scale, int .i64 a3.sheet.Paper.Lang, slice y a3.placed.length A, slice E a3.notes.length F, slice B O C] 67 :: tk (slice y a3.placed.length A) 8 36 :: bO l (Kd.int .i64) B [] a3.fills [] C 3 :: L) w)) dJ z z ?_ ?_ ?_
 exact (.inl ⟨z, _, Gh.le_refl _, ag.start ⟨z, z, z, tv⟩ trivial, aW.drew⟩)
 refine ⟨?_, ?_, ?_, ?_, ?_, ?_, ?_, ?_, ?_, ?_, ?_, ?_, ?_, ?_, ?_, ?_, tv⟩
 rintro D r u (⟨m, k, b, a, c⟩ | ⟨n, l, k, b, q, a, c⟩) f i s
 obtain ⟨t, rfl⟩ := Has.ex (cC (a.ins.get 0 rfl) cN)
 exact mv z<|nl ⟨z, (.inl ⟨m, _, b, (ag.step a f z z z z), c⟩)⟩
 obtain ⟨t, rfl⟩ := Has.ex (cC (a.ins.get 0 rfl) cN)
 exact mv z<|nl ⟨z, (.inr ⟨n, l, _, b, q, (ag.step a f z z z z), c⟩)⟩
 rintro D r u (⟨m, k, b, a, c⟩ | ⟨n, l, k, b, q, a, c⟩) f i s
 obtain ⟨t, rfl⟩ := Has.ex (cC (a.get 0 rfl (i 0 rfl)) cN)
 exact e5 z<|nl ⟨z, (.inl ⟨m, _, b, (ag.step a f z z z z), c⟩)⟩
 obtain ⟨t, rfl⟩ := Has.ex (cC (a.get 0 rfl (i 0 rfl)) cN)
 exact e5 z<|nl ⟨z, (.inr ⟨n, l, _, b, q, (ag.step a f z z z z), c⟩)⟩
 rintro D r u (⟨m, k, b, a, c⟩ | ⟨n, l, k, b, q, a, c⟩) f i s
 obtain ⟨t, rfl⟩ := Has.ex (cC (a.get 1 rfl (i 1 rfl)) cN)
 exact fa iz z<|nl ⟨z, (.inl ⟨m, _, b, (ag.step a f z z z z), c⟩)⟩
 obtain ⟨t, rfl⟩ := Has.ex (cC (a.get 1 rfl (i 1 rfl)) cN)
 exact fa iz z<|nl ⟨z, (.inr ⟨n, l, _, b, q, (ag.step a f z z z z), c⟩)⟩
 rintro D r u (⟨m, k, b, a, c⟩ | ⟨n, l, k, b, q, a, c⟩) f i s
 obtain ⟨t, rfl⟩ := Has.ex (cC (a.get 2 rfl (i 2 rfl)) cN)
 exact fa ee z<|nl ⟨z, (.inl ⟨m, _, b, (ag.step a f z z z z), c⟩)⟩
 obtain ⟨t, rfl⟩ := Has.ex (cC (a.get 2 rfl (i 2 rfl)) cN)
 exact fa ee z<|nl ⟨z, (.inr ⟨n, l, _, b, q, (ag.step a f z z z z), c⟩)⟩
 rintro D r u (⟨m, k, b, a, c⟩ | ⟨n, l, k, b, q, a, c⟩) f i s
 obtain ⟨t, rfl⟩ := Has.ex (cC (a.get 3 rfl (i 3 rfl)) cN)
 exact fa gZ z<|nl ⟨z, (.inl ⟨m, _, b, (ag.step a f z z z z), c⟩)⟩
 obtain ⟨t, rfl⟩ := Has.ex (cC (a.get 3 rfl (i 3 rfl)) cN)
 exact fa gZ z<|nl ⟨z, (.inr ⟨n, l, _, b, q, (ag.step a f z z z z), c⟩)⟩
 rintro D r u (⟨m, k, b, a, c⟩ | ⟨n, l, k, b, q, a, c⟩) f i s
 obtain ⟨t, rfl⟩ := Has.ex (cC (a.get 4 rfl (i 4 rfl)) cN)
 exact ld c 1 bb z z z<|nl ⟨z, (.inl ⟨m, _, b, (ag.step a f z z z z), c⟩)⟩
 obtain ⟨t, rfl⟩ := Has.ex (cC (a.get 4 rfl (i 4 rfl)) cN)
 exact ld c 1 bb z z z<|nl ⟨z, (.inr ⟨n, l, _, b, q, (ag.step a f z z z z), c⟩)⟩
 rintro D r u (⟨m, k, b, a, c⟩ | ⟨n, l, k, b, q, a, c⟩) f i s
 obtain ⟨t, rfl⟩ := Has.ex (cC (a.ins.get 0 rfl) cN)
 exact mv z<|nl ⟨z, (.inl ⟨m, _, b, (ag.step a f z z z z), c⟩)⟩
 cases (s 13 rfl).symm.trans n
 rintro D r u (⟨m, k, b, a, c⟩ | ⟨n, l, k, b, q, a, c⟩) f i s
 obtain ⟨t, rfl⟩ := Has.ex (cC (a.get 6 rfl (i 6 rfl)) cN)
 exact e5 z<|nl ⟨z, (.inl ⟨m, _, b, (ag.step a f z z z z), c⟩)⟩
 cases (s 13 rfl).symm.trans n
 rintro D r u (⟨m, k, b, a, c⟩ | ⟨n, l, k, b, q, a, c⟩) f i s
 obtain ⟨t, rfl⟩ := Has.ex (cC (a.get 7 rfl (i 7 rfl)) cN)
 exact fa jM z<|nl ⟨z, (.inl ⟨m, _, b, (ag.step a f z z z z), c⟩)⟩
 cases (s 13 rfl).symm.trans n
 rintro D r u (⟨m, k, b, a, c⟩ | ⟨n, l, k, b, q, a, c⟩) f i s
 obtain ⟨t, rfl⟩ := Has.ex (cC (a.get 8 rfl (i 8 rfl)) cN)
 exact ld c 1 cB z z z<|nl ⟨z, (.inl ⟨m, _, b, (ag.step a f z z z z), c⟩)⟩
 cases (s 13 rfl).symm.trans n
 rintro D r u (⟨m, k, b, a, c⟩ | ⟨n, l, k, b, q, a, c⟩) f i s
 obtain ⟨t, rfl⟩ := Has.ex (cC (a.get 9 rfl (i 9 rfl)) cN)
 exact cv oK (eG aY c ay (Dat.mono b ao)) z z fun bP a0=>nl ⟨z, (.inl ⟨m, _, b, (ag.step a f z z z z), a0⟩)⟩
 cases (s 13 rfl).symm.trans n
 rintro D r u (⟨m, k, b, a, c⟩ | ⟨n, l, k, b, q, a, c⟩) f i s
 obtain ⟨t, rfl⟩ := Has.ex (cC (a.get 5 rfl (i 5 rfl)) (cC (a.get 10 rfl (i 10 rfl)) cN))
 exact b6 z z<|nl ⟨z, (.inl ⟨m, _, b, (ag.step a f z z z z), c⟩)⟩
 obtain ⟨t, rfl⟩ := Has.ex (cC (a.get 5 rfl (i 5 rfl)) (cC (a.get 10 rfl (i 10 rfl)) cN))
 exact b6 z z<|nl ⟨z, (.inr ⟨n, l, _, b, q, (ag.step a f z z z z), c⟩)⟩
 rintro D r u (⟨m, k, b, a, c⟩ | ⟨n, l, k, b, q, a, c⟩) f i s
 obtain ⟨t, rfl⟩ := Has.ex (cC (a.ins.get 0 rfl) cN)
 exact mv z<|nl ⟨z, (.inl ⟨m, _, b, (ag.step a f z z z z), c⟩)⟩
 cases (s 13 rfl).symm.trans n
 rintro D r u (⟨m, k, b, a, c⟩ | ⟨n, l, k, b, q, a, c⟩) f i s
 obtain ⟨t, rfl⟩ := Has.ex (cC (a.get 12 rfl (i 12 rfl)) cN)
 refine have a1:=Hp.rwUp c 3 z b;have a2:=Hp.pick 4 [1, 2, 3, 0] a1 z;ft (vs := [pointer (some ⟨p, 0, none⟩)]) pY z z (im aZ a2 au (Dat.mono b av) ax ay (Dat.mono b ao) aS aU)<|?_
 rintro _ bR ⟨l, a4, a5, rfl⟩
 refine ⟨_, rfl, ?_⟩
 exact have a6:=Hp.pick 4 [3, 0, 1, 2] a5 z;nl ⟨z, (.inr ⟨z, l, _, (gT b a4), gR, (ag.step (ag.more (new := [(13, 22, int .i64 R), (14, 23, int .i64 (max (aj (a3.sheet.Paper.Height - M)) R)), (15, 5, int .i64 (max (aj (a3.sheet.Paper.Height - M)) R))]) a (List.forall_mem_cons.2 ⟨f, (List.forall_mem_cons.2 ⟨s 14 z, (List.forall_mem_cons.2 ⟨s 15 z, (fun _ h => nomatch h)⟩)⟩)⟩)) f z z z z), a6⟩)⟩
 cases f.symm.trans n
 rintro D r u (⟨m, k, b, a, c⟩ | ⟨n, l, k, b, q, a, c⟩) f i s
 cases (i 13 rfl).symm.trans m
 obtain ⟨t, rfl⟩ := Has.ex (cC (a.get 11 rfl (i 11 rfl)) (cC (a.get 13 rfl (i 13 rfl)) cN))
 exact dR z z<|nl ⟨z, (.inr ⟨n, l, _, b, q, (ag.step a f z z z z), c⟩)⟩
 rintro D r u (⟨m, k, b, a, c⟩ | ⟨n, l, k, b, q, a, c⟩) f i s
 cases (i 13 rfl).symm.trans m
 obtain ⟨t, rfl⟩ := Has.ex (cC (a.get 14 rfl (i 14 rfl)) cN)
 exact aK z<|nl ⟨z, (.inr ⟨n, l, _, b, q, (ag.step a f z z z z), c⟩)⟩
 intro D r u ar hR
 rcases hR with ⟨m, k, b, a, c⟩ | ⟨n, l, k, b, q, a, c⟩
 cases (ar 13 (Nat.le_of_ble_eq_true rfl)).symm.trans m
 obtain ⟨t, rfl⟩ := Has.ex (cC (a.ins.get 0 rfl) (cC (a.ins.get 1 rfl) (cC (a.ins.get 2 rfl) (cC (a.get 15 rfl (ar 15 (Nat.le_of_ble_eq_true rfl))) cN))))
 refine aX _ _ _<|sr fun bS a7=>mv z<|mv z<|e5 z<|fa kW z<|ld c 1 cB z z z<|cf (vs := [(0, int .i64 J), (1, slice y a3.placed.length A)]) (cs := [int .i64 J, slice y a3.placed.length A]) ib mK z z<|bQ c ib fun ak bT a8=>f5 a8 0 kC z z z z z z z fun bU aC=>nl<|a7 _ _ _<|sQ fun bV a9=>sr fun bW ba=>?_
 refine mv z<|e5 z<|fa jM z<|ld aC 2 cB z z z<|q_len dA z<|mv z<|nl<|ba _ _ _<|wb<|bK H fun V hC H=>?_
 refine aP (Q := fun e r ds w => e = .exit 0 ∧ ∃ (S : Option Addr) (T : Nat) (al : Gh), ds = [] ∧ k ≤ al ∧ Has [(4, pointer (some ⟨K, 0, none⟩)), (6, pointer (some ⟨ak, 0, none⟩))] r ∧ Hp al (bx ak [int .i64 J, slice S V.length T] 34 :: bx K [int .i64 0, slice none 0 0] 34 :: bx p [int .i64 a3.sheet.Paper.Width, int .i64 a3.sheet.Paper.Height, int .i64 a3.sheet.Paper.Columns, int .i64 a3.sheet.Paper.Gap, int .i64 a3.sheet.Paper.Scale, int .i64 a3.sheet.Paper.Lang, slice y a3.placed.length A, slice E a3.notes.length F, slice B O C] 67 :: bO l (Kd.int .i64) B [] a3.fills [] C 3 :: tk (slice S V.length T) 8 36 :: L) w ∧ V.length ≤ T ∧ Dat ah al S V ∧ Own S T ∧ True) ?_ ?_
 refine have bc:=Hp.pick 5 [0, 1, 2, 4, 3] aC z;bH fun I aR=>?_
 refine aT.partial_correctness a3 (fun U d W o => ∀ (Z : Option Addr) (ab : Nat) (am : Gh) (r : Rg) (w : World), k ≤ am → Has [(4, pointer (some ⟨K, 0, none⟩)), (5, int .i64 U), (6, pointer (some ⟨ak, 0, none⟩)), (33, slice E a3.notes.length F), (34, int .i64 (a3.notes.length : Int)), (35, int .i64 d)] r → Hp am (bx ak [int .i64 J, slice Z W.length ab] 34 :: bx K [int .i64 0, slice none 0 0] 34 :: bx p [int .i64 a3.sheet.Paper.Width, int .i64 a3.sheet.Paper.Height, int .i64 a3.sheet.Paper.Columns, int .i64 a3.sheet.Paper.Gap, int .i64 a3.sheet.Paper.Scale, int .i64 a3.sheet.Paper.Lang, slice y a3.placed.length A, slice E a3.notes.length F, slice B O C] 67 :: bO l (Kd.int .i64) B [] a3.fills [] C 3 :: tk (slice Z W.length ab) 8 36 :: L) w → W.length ≤ ab → Dat ah am Z W → Own Z ab → o = V → I r [] w) ?_ (max (aj (a3.sheet.Paper.Height - M)) R) 0 a3.placed _ hC y A _ _ _ gR ⟨rfl, rfl, rfl, rfl, rfl, rfl, tv⟩ bc au (Dat.mono b av) ax rfl
 intro _ ih U d W o H Z ab am r bX ap ad aq aD aE aG ho
 rw [ho] at H; clear ho
 rw [ad.eq]; clear ad
 refine aR _ _ _<|sr fun bZ bd=>cZ z z<|nl<|bd _ _ _<|sQ fun b0 be=>dC (d < (a3.notes.length : Int)) (fun af=>?_) fun af=>?_
 refine yK af H fun H=>wt (bY af)<|ws<|be _ _ _<|sQ fun b1 bf=>wb<|sr fun b2 bg=>iK H fun⟨aI, aJ⟩H=>?_
 obtain ⟨b3, b4, bh, bi, b5, bj⟩ := Dat.get (Dat.mono (gT b ap) ao) aa (d) aI aJ
 obtain ⟨rfl⟩ := aF bi
 refine bL cA z bh z aI aJ<|fq aq dx z (cs := [int .i64 ((a3.notes.getD (Int.toNat d) aa).Node), int .i64 ((a3.notes.getD (Int.toNat d) aa).Table), int .i64 ((a3.notes.getD (Int.toNat d) aa).X), int .i64 ((a3.notes.getD (Int.toNat d) aa).Y), int .i64 ((a3.notes.getD (Int.toNat d) aa).H), string ((a3.notes.getD (Int.toNat d) aa).Text), bool ((a3.notes.getD (Int.toNat d) aa).Head), bool ((a3.notes.getD (Int.toNat d) aa).Note)]) z (fun j v hv => gR.cel _ _ (bj j v hv))<|bQ aq cP fun b7 b8 bk=>f5 bk 0 dx z z z z z z z fun b9 bl=>nl<|bg _ _ _<|sr fun ca bo=>mv z<|fa bn z<|f5 bl 0 bb z z z z z z z fun cb an=>nl<|bo _ _ _<|sr fun cc bp=>mv z<|?_
 refine fa cm z<|ld an 0 bb z z z<|bm z z<|aK z<|nl<|bp _ _ _<|aA<|fa jf z<|ld an 1 cB z z z<|gg an 0 dx z z z z<|?_
 refine eh an (vs := [(0, agg [int .i64 ((a3.notes.getD (Int.toNat d) aa).Node), int .i64 ((a3.notes.getD (Int.toNat d) aa).Table), int .i64 ((a3.notes.getD (Int.toNat d) aa).X), int .i64 U, int .i64 ((a3.notes.getD (Int.toNat d) aa).H), string ((a3.notes.getD (Int.toNat d) aa).Text), bool ((a3.notes.getD (Int.toNat d) aa).Head), bool ((a3.notes.getD (Int.toNat d) aa).Note)].toArray)]) (cs := [int .i64 ((a3.notes.getD (Int.toNat d) aa).Node), int .i64 ((a3.notes.getD (Int.toNat d) aa).Table), int .i64 ((a3.notes.getD (Int.toNat d) aa).X), int .i64 U, int .i64 ((a3.notes.getD (Int.toNat d) aa).H), string ((a3.notes.getD (Int.toNat d) aa).Text), bool ((a3.notes.getD (Int.toNat d) aa).Head), bool ((a3.notes.getD (Int.toNat d) aa).Note)]) cA cP rfl (by decide) rfl (by kernel_rfl) (fun ce cg aL => ?_)
 refine iK H fun ch H=>?_
 refine fx (xs := W) (ys := [(⟨(a3.notes.getD (Int.toNat d) aa).Node, (a3.notes.getD (Int.toNat d) aa).Table, (a3.notes.getD (Int.toNat d) aa).X, U, (a3.notes.getD (Int.toNat d) aa).H, (a3.notes.getD (Int.toNat d) aa).Text, (a3.notes.getD (Int.toNat d) aa).Head, (a3.notes.getD (Int.toNat d) aa).Note⟩ : ac)]) ah aL 6 cA cP rfl rfl rfl rfl aG aD aE (dU aL 0 dA rfl rfl) ⟨[int .i64 ((a3.notes.getD (Int.toNat d) aa).Node), int .i64 ((a3.notes.getD (Int.toNat d) aa).Table), int .i64 ((a3.notes.getD (Int.toNat d) aa).X), int .i64 U, int .i64 ((a3.notes.getD (Int.toNat d) aa).H), string ((a3.notes.getD (Int.toNat d) aa).Text), bool ((a3.notes.getD (Int.toNat d) aa).Head), bool ((a3.notes.getD (Int.toNat d) aa).Note)], _, rfl, (aH (x := (⟨(a3.notes.getD (Int.toNat d) aa).Node, (a3.notes.getD (Int.toNat d) aa).Table, (a3.notes.getD (Int.toNat d) aa).X, U, (a3.notes.getD (Int.toNat d) aa).H, (a3.notes.getD (Int.toNat d) aa).Text, (a3.notes.getD (Int.toNat d) aa).Head, (a3.notes.getD (Int.toNat d) aa).Note⟩ : ac))), rfl⟩ rfl (by simp only [List.length_cons, List.length_nil]; omega) (by simp only [List.length_cons, List.length_nil]; omega) (fun bq br ci cj bs bt bu bv bw => ?_)
 exact fa jf z<|f5 bw 2 cB z z z z z z z fun ck bz=>nl<|bf _ _ _<|aA<|bm z z<|mv z<|nl<|have bA:=Hp.pick 7 [2, 3, 4, 5, 6] bz z;ih _ _ _ _ H bq br _ _ _ (gT ap bs) ⟨z, z, z, z, z, z, tv⟩ bA bu bv bt z
 refine nK af H fun H=>wf (bN af)<|wx<|?_
 cases H
 exact ⟨z, Z, ab, _, z, ap, ⟨z, z, tv⟩, aq, aD, aE, aG, tv⟩
 rintro e r ds cl ⟨rfl, S, T, al, rfl, aN, ad, aO, bB, bC, cn, _⟩
 rw [ad.eq]; clear ad
 refine a9 _ _ _<|sr fun co bD=>gg aO 0 kC z z z z<|f5 aO 1 kC z z z z z z z fun cp aQ=>nl<|bD _ _ _<|wr<|have bE:=gA (P := Try.prog) aQ 1 (cs := [int .i64 J, slice S V.length T]) (g := K) (o := 0) kC z z z;have bF:=Hp.rwUp aQ 3 z (gT q aN);have bG:=Hp.pick 5 [2, 3] bF z;?_
 cases H
 exact ⟨.inr z, z, _, ⟨_, _, _, z, z, bE, z⟩, S, T, _, (gT b aN), bG, bB, bC, z⟩
theorem fN {a3 : Option ai} {p O J Q R V W K T M P F I X G L w} (H : ca a3 p = some X) (hI : Hp G (bx O [oV a3 J] 58 :: oI a3 (fun (a : ai) => bx J [int .i64 a.sheet.Paper.Width, int .i64 a.sheet.Paper.Height, int .i64 a.sheet.Paper.Columns, int .i64 a.sheet.Paper.Gap, int .i64 a.sheet.Paper.Scale, int .i64 a.sheet.Paper.Lang, slice Q a.placed.length R, slice V a.notes.length W, slice K T M] 67) :: oI a3 (fun (a : ai) => tk (slice Q a.placed.length R) 8 36) :: oI a3 (fun (a : ai) => bO G (Kd.int .i64) K [] a.fills [] M 3) :: bx P [slice F p.length I] 28 :: tk (slice F p.length I) 2 34 :: L) w) (hO27 : oF a3 (fun (a : ai) => a.placed.length ≤ R ∧ Dat ah G Q a.placed ∧ Own Q R ∧ a.notes.length ≤ W ∧ Dat ah G V a.notes ∧ a.fills.length = T ∧ Mw K K ([] : List Int).length T M M 1 ∧ True)) (ac : p.length ≤ I) (ad : Dat br G F p) (ae : Own F I) :
    Calls Try.prog 22 [pointer (some ⟨O, 0, none⟩), pointer (some ⟨P, 0, none⟩)].toArray w fun e w' => ∃ (Z : Option Addr) (aa : Nat) (G' : Gh), G ≤ G' ∧ Hp G' (bx O [oV a3 J] 58 :: oI a3 (fun (a : ai) => bx J [int .i64 a.sheet.Paper.Width, int .i64 a.sheet.Paper.Height, int .i64 a.sheet.Paper.Columns, int .i64 a.sheet.Paper.Gap, int .i64 a.sheet.Paper.Scale, int .i64 a.sheet.Paper.Lang, slice Q a.placed.length R, slice V a.notes.length W, slice K T M] 67) :: oI a3 (fun (a : ai) => bO G' (Kd.int .i64) K [] a.fills [] M 3) :: bx P [slice Z X.length aa] 28 :: tk (slice Z X.length aa) 2 34 :: L) w' ∧ X.length ≤ aa ∧ Dat br G' Z X ∧ Own Z aa ∧ e = .returned (tuple [].toArray) := by
 refine aw (N := 12) Try.func22 z z (Nat.le_of_ble_eq_true z)<|?_
 unfold ca at H
 refine sr fun aF af=>ld hI 0 lX z z z<|?_
 rcases a3 with _ | a
 refine kv nI z z<|nl<|af _ _ _<|wf z<|ws<|have ak:=Hp.pick 6 [0, 1, 3, 4, 5] hI z;?_
 cases H
 exact ⟨.inl z, z, _, z, F, I, _, gR, ak, ac, ad, ae, z⟩
 obtain ⟨al, am, an, ao, ap, aq, ar, _⟩ := hO27
 refine ku nI z z<|nl<|af _ _ _<|wt z<|bK H fun s au H=>iK H fun aG H=>?_
 refine aM [0, 0, 0, 4, 12, 30, 62, 127, 255] (fun D r w => (D 5 = false ∧ ∃ (G' : Gh), G ≤ G' ∧ ag [(0, pointer (some ⟨O, 0, none⟩)), (1, pointer (some ⟨P, 0, none⟩))] [] [(0, 4, slice F p.length I), (1, 5, pointer (some ⟨J, 0, none⟩)), (2, 6, slice F p.length I), (3, 7, int .i64 (p.length : Int)), (4, 8, int .i64 (aj ((p.length : Int) + 1)))] D r ∧ Hp G' (bx O [pointer (some ⟨J, 0, none⟩)] 58 :: bx J [int .i64 a.sheet.Paper.Width, int .i64 a.sheet.Paper.Height, int .i64 a.sheet.Paper.Columns, int .i64 a.sheet.Paper.Gap, int .i64 a.sheet.Paper.Scale, int .i64 a.sheet.Paper.Lang, slice Q a.placed.length R, slice V a.notes.length W, slice K T M] 67 :: tk (slice Q a.placed.length R) 8 36 :: bO G (Kd.int .i64) K [] a.fills [] M 3 :: bx P [slice F p.length I] 28 :: tk (slice F p.length I) 2 34 :: L) w) ∨ (D 5 = true ∧ D 6 = false ∧ ∃ (f : Option Addr) (g : Nat) (j : Gh) (G' : Gh), G ≤ G' ∧ s.Slices.length ≤ g ∧ Dat ah G' f s.Slices ∧ j ≤ G' ∧ ag [(0, pointer (some ⟨O, 0, none⟩)), (1, pointer (some ⟨P, 0, none⟩))] [] [(0, 4, slice F p.length I), (1, 5, pointer (some ⟨J, 0, none⟩)), (2, 6, slice F p.length I), (3, 7, int .i64 (p.length : Int)), (4, 8, int .i64 (aj ((p.length : Int) + 1))), (5, 9, agg [int .i64 s.Number, slice f s.Slices.length g].toArray)] D r ∧ Hp G' (bx J [int .i64 a.sheet.Paper.Width, int .i64 a.sheet.Paper.Height, int .i64 a.sheet.Paper.Columns, int .i64 a.sheet.Paper.Gap, int .i64 a.sheet.Paper.Scale, int .i64 a.sheet.Paper.Lang, slice Q a.placed.length R, slice V a.notes.length W, slice K T M] 67 :: bO j (Kd.int .i64) K [] a.fills [] M 3 :: bx O [pointer (some ⟨J, 0, none⟩)] 58 :: bx P [slice F p.length I] 28 :: tk (slice F p.length I) 2 34 :: L) w) ∨ (D 6 = true ∧ D 7 = false ∧ ∃ (f : Option Addr) (g : Nat) (j : Gh) (q : Nat) (G' : Gh), G ≤ G' ∧ s.Slices.length ≤ g ∧ Dat ah G' f s.Slices ∧ j ≤ G' ∧ ag [(0, pointer (some ⟨O, 0, none⟩)), (1, pointer (some ⟨P, 0, none⟩))] [] [(0, 4, slice F p.length I), (1, 5, pointer (some ⟨J, 0, none⟩)), (2, 6, slice F p.length I), (3, 7, int .i64 (p.length : Int)), (4, 8, int .i64 (aj ((p.length : Int) + 1))), (5, 9, agg [int .i64 s.Number, slice f s.Slices.length g].toArray), (6, 10, slice (some ⟨q, 0, none⟩) 1 1)] D r ∧ Hp G' (bx q [int .i64 s.Number, slice f s.Slices.length g] 34 :: bx J [int .i64 a.sheet.Paper.Width, int .i64 a.sheet.Paper.Height, int .i64 a.sheet.Paper.Columns, int .i64 a.sheet.Paper.Gap, int .i64 a.sheet.Paper.Scale, int .i64 a.sheet.Paper.Lang, slice Q a.placed.length R, slice V a.notes.length W, slice K T M] 67 :: bO j (Kd.int .i64) K [] a.fills [] M 3 :: bx O [pointer (some ⟨J, 0, none⟩)] 58 :: bx P [slice F p.length I] 28 :: tk (slice F p.length I) 2 34 :: L) w) ∨ (D 7 = true ∧ D 8 = false ∧ ∃ (f : Option Addr) (g : Nat) (j : Gh) (q : Nat) (u : Option Addr) (v : Nat) (G' : Gh), G ≤ G' ∧ s.Slices.length ≤ g ∧ Dat ah G' f s.Slices ∧ j ≤ G' ∧ (p ++ [s]).length ≤ v ∧ Dat br G' u (p ++ [s]) ∧ Own u v ∧ ag [(0, pointer (some ⟨O, 0, none⟩)), (1, pointer (some ⟨P, 0, none⟩))] [] [(0, 4, slice F p.length I), (1, 5, pointer (some ⟨J, 0, none⟩)), (2, 6, slice F p.length I), (3, 7, int .i64 (p.length : Int)), (4, 8, int .i64 (aj ((p.length : Int) + 1))), (5, 9, agg [int .i64 s.Number, slice f s.Slices.length g].toArray), (6, 10, slice (some ⟨q, 0, none⟩) 1 1), (7, 11, slice u (p ++ [s]).length v)] D r ∧ Hp G' (bx q [int .i64 s.Number, slice f s.Slices.length g] 34 :: bx J [int .i64 a.sheet.Paper.Width, int .i64 a.sheet.Paper.Height, int .i64 a.sheet.Paper.Columns, int .i64 a.sheet.Paper.Gap, int .i64 a.sheet.Paper.Scale, int .i64 a.sheet.Paper.Lang, slice Q a.placed.length R, slice V a.notes.length W, slice K T M] 67 :: bO j (Kd.int .i64) K [] a.fills [] M 3 :: bx O [pointer (some ⟨J, 0, none⟩)] 58 :: bx P [slice F p.length I] 28 :: tk (slice u (p ++ [s]).length v) 2 34 :: L) w) ∨ (D 8 = true ∧ ∃ (f : Option Addr) (g : Nat) (j : Gh) (q : Nat) (u : Option Addr) (v : Nat) (G' : Gh), G ≤ G' ∧ s.Slices.length ≤ g ∧ Dat ah G' f s.Slices ∧ j ≤ G' ∧ (p ++ [s]).length ≤ v ∧ Dat br G' u (p ++ [s]) ∧ Own u v ∧ ag [(0, pointer (some ⟨O, 0, none⟩)), (1, pointer (some ⟨P, 0, none⟩))] [] [(0, 4, slice F p.length I), (1, 5, pointer (some ⟨J, 0, none⟩)), (2, 6, slice F p.length I), (3, 7, int .i64 (p.length : Int)), (4, 8, int .i64 (aj ((p.length : Int) + 1))), (5, 9, agg [int .i64 s.Number, slice f s.Slices.length g].toArray), (6, 10, slice (some ⟨q, 0, none⟩) 1 1), (7, 11, slice u (p ++ [s]).length v)] D r ∧ Hp G' (bx q [int .i64 s.Number, slice f s.Slices.length g] 34 :: bx J [int .i64 a.sheet.Paper.Width, int .i64 a.sheet.Paper.Height, int .i64 a.sheet.Paper.Columns, int .i64 a.sheet.Paper.Gap, int .i64 a.sheet.Paper.Scale, int .i64 a.sheet.Paper.Lang, slice Q a.placed.length R, slice V a.notes.length W, slice K T M] 67 :: bO j (Kd.int .i64) K [] a.fills [] M 3 :: bx O [pointer (some ⟨J, 0, none⟩)] 58 :: bx P [slice u (p ++ [s]).length v] 28 :: tk (slice u (p ++ [s]).length v) 2 34 :: L) w)) dJ z z ?_ ?_ ?_
 exact (.inl ⟨z, _, Gh.le_refl _, ag.start ⟨z, z, tv⟩ trivial, hI.drew⟩)
 refine ⟨?_, ?_, ?_, ?_, ?_, ?_, ?_, ?_, ?_, tv⟩
 rintro D r U (⟨k, l, i, b, d⟩ | ⟨c, k, f, g, j, l, i, m, n, o, b, d⟩ | ⟨c, k, f, g, j, q, l, i, m, n, o, b, d⟩ | ⟨c, k, f, g, j, q, u, v, l, i, m, n, o, A, B, C, b, d⟩ | ⟨c, f, g, j, q, u, v, l, i, m, n, o, A, B, C, b, d⟩) y E t
 obtain ⟨S, rfl⟩ := Has.ex (cC (b.ins.get 1 rfl) cN)
 exact ld d 4 jY z z z<|nl ⟨z, (.inl ⟨k, _, i, (ag.step b y z z z z), d⟩)⟩
 obtain ⟨S, rfl⟩ := Has.ex (cC (b.ins.get 1 rfl) cN)
 exact ld d 3 jY z z z<|nl ⟨z, (.inr (.inl ⟨c, k, f, g, j, _, i, m, n, o, (ag.step b y z z z z), d⟩))⟩
 obtain ⟨S, rfl⟩ := Has.ex (cC (b.ins.get 1 rfl) cN)
 exact ld d 4 jY z z z<|nl ⟨z, (.inr (.inr (.inl ⟨c, k, f, g, j, q, _, i, m, n, o, (ag.step b y z z z z), d⟩)))⟩
 cases (t 7 rfl).symm.trans c
 cases (t 8 rfl).symm.trans c
 rintro D r U (⟨k, l, i, b, d⟩ | ⟨c, k, f, g, j, l, i, m, n, o, b, d⟩ | ⟨c, k, f, g, j, q, l, i, m, n, o, b, d⟩ | ⟨c, k, f, g, j, q, u, v, l, i, m, n, o, A, B, C, b, d⟩ | ⟨c, f, g, j, q, u, v, l, i, m, n, o, A, B, C, b, d⟩) y E t
 obtain ⟨S, rfl⟩ := Has.ex (cC (b.ins.get 0 rfl) cN)
 exact ld d 0 lX z z z<|nl ⟨z, (.inl ⟨k, _, i, (ag.step b y z z z z), d⟩)⟩
 cases (t 5 rfl).symm.trans c
 cases (t 6 rfl).symm.trans c
 cases (t 7 rfl).symm.trans c
 cases (t 8 rfl).symm.trans c
 rintro D r U (⟨k, l, i, b, d⟩ | ⟨c, k, f, g, j, l, i, m, n, o, b, d⟩ | ⟨c, k, f, g, j, q, l, i, m, n, o, b, d⟩ | ⟨c, k, f, g, j, q, u, v, l, i, m, n, o, A, B, C, b, d⟩ | ⟨c, f, g, j, q, u, v, l, i, m, n, o, A, B, C, b, d⟩) y E t
 obtain ⟨S, rfl⟩ := Has.ex (cC (b.ins.get 1 rfl) cN)
 exact ld d 4 jY z z z<|nl ⟨z, (.inl ⟨k, _, i, (ag.step b y z z z z), d⟩)⟩
 cases (t 5 rfl).symm.trans c
 cases (t 6 rfl).symm.trans c
 cases (t 7 rfl).symm.trans c
 cases (t 8 rfl).symm.trans c
 rintro D r U (⟨k, l, i, b, d⟩ | ⟨c, k, f, g, j, l, i, m, n, o, b, d⟩ | ⟨c, k, f, g, j, q, l, i, m, n, o, b, d⟩ | ⟨c, k, f, g, j, q, u, v, l, i, m, n, o, A, B, C, b, d⟩ | ⟨c, f, g, j, q, u, v, l, i, m, n, o, A, B, C, b, d⟩) y E t
 obtain ⟨S, rfl⟩ := Has.ex (cC (b.get 2 rfl (E 2 rfl)) cN)
 exact q_len kH z<|nl ⟨z, (.inl ⟨k, _, i, (ag.step b y z z z z), d⟩)⟩
 cases (t 5 rfl).symm.trans c
 cases (t 6 rfl).symm.trans c
 cases (t 7 rfl).symm.trans c
 cases (t 8 rfl).symm.trans c
 rintro D r U (⟨k, l, i, b, d⟩ | ⟨c, k, f, g, j, l, i, m, n, o, b, d⟩ | ⟨c, k, f, g, j, q, l, i, m, n, o, b, d⟩ | ⟨c, k, f, g, j, q, u, v, l, i, m, n, o, A, B, C, b, d⟩ | ⟨c, f, g, j, q, u, v, l, i, m, n, o, A, B, C, b, d⟩) y E t
 obtain ⟨S, rfl⟩ := Has.ex (cC (b.get 3 rfl (E 3 rfl)) cN)
 exact bm z z<|nl ⟨z, (.inl ⟨k, _, i, (ag.step b y z z z z), d⟩)⟩
 cases (t 5 rfl).symm.trans c
 cases (t 6 rfl).symm.trans c
 cases (t 7 rfl).symm.trans c
 cases (t 8 rfl).symm.trans c
 rintro D r U (⟨k, l, i, b, d⟩ | ⟨c, k, f, g, j, l, i, m, n, o, b, d⟩ | ⟨c, k, f, g, j, q, l, i, m, n, o, b, d⟩ | ⟨c, k, f, g, j, q, u, v, l, i, m, n, o, A, B, C, b, d⟩ | ⟨c, f, g, j, q, u, v, l, i, m, n, o, A, B, C, b, d⟩) y E t
 obtain ⟨S, rfl⟩ := Has.ex (cC (b.get 1 rfl (E 1 rfl)) (cC (b.get 4 rfl (E 4 rfl)) cN))
 refine have av:=Hp.rwUp d 3 z i;have ax:=Hp.pick 6 [1, 2, 3, 0, 4, 5] av z;ft (vs := [pointer (some ⟨J, 0, none⟩), int .i64 (aj ((p.length : Int) + 1))]) qP z z (g0 au ax al (Dat.mono i am) an ao (Dat.mono i ap) aq ar)<|?_
 rintro _ aH ⟨f, g, j, ay, az, m, n, rfl⟩
 refine ⟨_, rfl, ?_⟩
 exact nl ⟨z, (.inr (.inl ⟨z, (t 6 z), f, g, j, _, (gT i ay), m, n, gR, (ag.step (ag.more (new := [(5, 9, agg [int .i64 s.Number, slice f s.Slices.length g].toArray)]) b (List.forall_mem_cons.2 ⟨y, (fun _ h => nomatch h)⟩)) y z z z z), az⟩))⟩
 cases y.symm.trans c
 cases (t 6 rfl).symm.trans c
 cases (t 7 rfl).symm.trans c
 cases (t 8 rfl).symm.trans c
 rintro D r U (⟨k, l, i, b, d⟩ | ⟨c, k, f, g, j, l, i, m, n, o, b, d⟩ | ⟨c, k, f, g, j, q, l, i, m, n, o, b, d⟩ | ⟨c, k, f, g, j, q, u, v, l, i, m, n, o, A, B, C, b, d⟩ | ⟨c, f, g, j, q, u, v, l, i, m, n, o, A, B, C, b, d⟩) y E t
 cases (E 5 rfl).symm.trans k
 obtain ⟨S, rfl⟩ := Has.ex (cC (b.get 5 rfl (E 5 rfl)) cN)
 refine eh d (vs := [(0, agg [int .i64 s.Number, slice f s.Slices.length g].toArray)]) (cs := [int .i64 s.Number, slice f s.Slices.length g]) ko ib rfl (by decide) rfl (by kernel_rfl) (fun q aI aA => ?_)
 exact nl ⟨z, (.inr (.inr (.inl ⟨z, (t 7 z), f, g, j, q, _, i, m, n, o, (ag.step (ag.more (new := [(6, 10, slice (some ⟨q, 0, none⟩) 1 1)]) b (List.forall_mem_cons.2 ⟨y, (fun _ h => nomatch h)⟩)) y z z z z), aA⟩)))⟩
 cases y.symm.trans c
 cases (t 7 rfl).symm.trans c
 cases (t 8 rfl).symm.trans c
 rintro D r U (⟨k, l, i, b, d⟩ | ⟨c, k, f, g, j, l, i, m, n, o, b, d⟩ | ⟨c, k, f, g, j, q, l, i, m, n, o, b, d⟩ | ⟨c, k, f, g, j, q, u, v, l, i, m, n, o, A, B, C, b, d⟩ | ⟨c, f, g, j, q, u, v, l, i, m, n, o, A, B, C, b, d⟩) y E t
 cases (E 5 rfl).symm.trans k
 cases (E 6 rfl).symm.trans k
 obtain ⟨S, rfl⟩ := Has.ex (cC (b.get 0 rfl (E 0 rfl)) (cC (b.get 6 rfl (E 6 rfl)) cN))
 refine fx (xs := p) (ys := [s]) br d 5 ko ib rfl rfl rfl rfl ae ac (Dat.mono i ad) (dU d 0 kH rfl rfl) ⟨[int .i64 s.Number, slice f s.Slices.length g], _, rfl, (d7 (x := s) m n), rfl⟩ rfl (by simp only [List.length_cons, List.length_nil]; omega) (by simp only [List.length_cons, List.length_nil]; omega) (fun u v aJ aK ab C A B aB => ?_)
 exact nl ⟨z, (.inr (.inr (.inr (.inl ⟨z, (t 8 z), f, g, j, q, u, v, _, (gT i ab), m, (Dat.mono ab n), (gT o ab), A, B, C, (ag.step (ag.more (new := [(7, 11, slice u (p ++ [s]).length v)]) b (List.forall_mem_cons.2 ⟨y, (fun _ h => nomatch h)⟩)) y z z z z), aB⟩))))⟩
 cases y.symm.trans c
 cases (t 8 rfl).symm.trans c
 rintro D r U (⟨k, l, i, b, d⟩ | ⟨c, k, f, g, j, l, i, m, n, o, b, d⟩ | ⟨c, k, f, g, j, q, l, i, m, n, o, b, d⟩ | ⟨c, k, f, g, j, q, u, v, l, i, m, n, o, A, B, C, b, d⟩ | ⟨c, f, g, j, q, u, v, l, i, m, n, o, A, B, C, b, d⟩) y E t
 cases (E 5 rfl).symm.trans k
 cases (E 6 rfl).symm.trans k
 cases (E 7 rfl).symm.trans k
 obtain ⟨S, rfl⟩ := Has.ex (cC (b.ins.get 1 rfl) (cC (b.get 7 rfl (E 7 rfl)) cN))
 exact f5 d 4 jY z z z z z z z fun aL aC=>nl ⟨z, (.inr (.inr (.inr (.inr ⟨z, f, g, j, q, u, v, _, i, m, n, o, A, B, C, (ag.stepN b z z), aC⟩))))⟩
 cases y.symm.trans c
 intro D r U Y hR
 rcases hR with ⟨k, l, i, b, d⟩ | ⟨c, k, f, g, j, l, i, m, n, o, b, d⟩ | ⟨c, k, f, g, j, q, l, i, m, n, o, b, d⟩ | ⟨c, k, f, g, j, q, u, v, l, i, m, n, o, A, B, C, b, d⟩ | ⟨c, f, g, j, q, u, v, l, i, m, n, o, A, B, C, b, d⟩
 cases (Y 5 (Nat.le_of_ble_eq_true rfl)).symm.trans k
 cases (Y 6 (Nat.le_of_ble_eq_true rfl)).symm.trans k
 cases (Y 7 (Nat.le_of_ble_eq_true rfl)).symm.trans k
 cases (Y 8 (Nat.le_of_ble_eq_true rfl)).symm.trans k
 obtain ⟨S, rfl⟩ := Has.ex (r := r) cN
 refine have aD:=Hp.rwUp d 2 z o;have aE:=Hp.pick 6 [3, 1, 2, 4, 5] aD z;?_
 cases H
 exact ⟨.inl z, z, _, z, u, v, _, i, aE, A, B, C, z⟩
theorem dZ {a1 a2} {a7 : List Bool} {A3 c4 A8 c9 bB cy G L w} (H : cz a1 a2 a7 = some (bB, cy)) (hI : Hp G L w) (cA : a2.length ≤ c4) (cD : Dat ah G A3 a2) (cE : a7.length ≤ c9) (cF : Dat Kd.bool G A8 a7) :
    Calls Try.prog 8 [agg [int .i64 a1.Width, int .i64 a1.Height, int .i64 a1.Columns, int .i64 a1.Gap, int .i64 a1.Scale, int .i64 a1.Lang].toArray, slice A3 a2.length c4, slice A8 a7.length c9].toArray w fun e w' => ∃ (ch : Option Addr) (ci : Nat) (G' : Gh), G ≤ G' ∧ Hp G' (tk (slice ch bB.length ci) 2 34 :: L) w' ∧ bB.length ≤ ci ∧ Dat br G' ch bB ∧ Own ch ci ∧ e = .returned (tuple [slice ch bB.length ci, int .i64 cy].toArray) := by
 refine ln (N := 77) Try.func8 z z (Nat.le_of_ble_eq_true z)<|?_
 unfold cz at H
 refine sr fun ga c3=>jW hI z z fun aD gb cG=>aK z<|aK z<|nl<|c3 _ _ _<|sQ fun gc c5=>sr fun gd c6=>gg cG 0 k6 z z z z<|cf (vs := [(0, agg [int .i64 a1.Width, int .i64 a1.Height, int .i64 a1.Columns, int .i64 a1.Gap, int .i64 a1.Scale, int .i64 a1.Lang].toArray)]) (cs := [int .i64 a1.Width, int .i64 a1.Height, int .i64 a1.Columns, int .i64 a1.Gap, int .i64 a1.Scale, int .i64 a1.Lang]) qn p5 z z<|bK H fun c7 c8 H=>cv bo20 (iH (a1 := (⟨a1⟩ : aX)) c8 cG) z z fun ge cr=>bV z<|mv z<|?_
 refine bK H fun cH hC H=>js 5 cr [(1, slice A3 a2.length c4), (2, slice A8 a7.length c9), (3, pointer (some ⟨aD, 0, none⟩)), (23, bool cH)] ?_ fun _ gf cJ=>?_
 refine have H:=hC;dC ((!c7) = true) (fun aQ=>?_) fun aQ=>?_
 refine yK aQ H fun H=>Sk 4 z z (vY aQ) z<|cY (vY aQ) z<|nl<|?_
 cases H
 exact je ⟨z, z, z, z, tv⟩ cr
 refine nK aQ H fun H=>mv (hw:=gY z z z (vN aQ)) z<|mv (hw:=gY z z z (vN aQ)) z<|bK H fun gh da H=>cv (hw:=gY z z z (vN aQ)) bo21 (jA da cr cA cD cE cF) z z fun gi db=>bV (hw:=gY z z z (vN aQ)) z<|dm (vN aQ) z<|nl<|?_
 cases H
 exact je ⟨z, z, z, z, tv⟩ db
 refine nl<|c6 _ _ _<|dC (cH = true) (fun bC=>?_) fun bC=>?_
 refine yK bC H fun H=>wt (vY bC)<|sr fun gj dc=>aK z<|aK z<|nl<|dc _ _ _<|wr<|?_
 refine ⟨.inr rfl, ([] : List Nat), _, _, rfl, Hp.marks (K := [bx aD [int .i64 a1.Width, int .i64 a1.Height, int .i64 a1.Columns, int .i64 a1.Gap, int .i64 a1.Scale, int .i64 a1.Lang] 23]) cJ, fun gk dd => ?_⟩
 refine have de:=Hp.emp dd;have df:=Hp.pick 2 [0] de z;?_
 cases H
 exact ⟨_, ⟨_, _, z, z, ⟨_, _, z, z, z⟩⟩, none, 0, _, gR, df, (show ([] : List ap).length ≤ 0 from Nat.le_refl 0), (Dat.nil _ _ _), Own.nil, z⟩
 refine nK bC H fun H=>wf (vN bC)<|ws<|c5 _ _ _<|sr fun gm dg=>bQ cJ ze28 fun U gn dh=>nl<|dg _ _ _<|sr fun go di=>bQ dh ze57 fun aI gr dj=>nl<|di _ _ _<|sr fun gs dk=>bQ dj ze58 fun B gt dl=>?_
 refine nl<|dk _ _ _<|sr fun gu dn=>py (vs := []) (us := [pointer (some ⟨B, 0, none⟩), pointer (some ⟨U, 0, none⟩)]) z z<|bQ dl ze1 fun aJ gv dp=>f5 dp 0 ag1 z z z z z z z fun gw dq=>nl<|dn _ _ _<|sQ fun gx cK=>sr fun gy dr=>mv z<|mv z<|ms H fun bD bE dt H=>ft (vs := [slice A3 a2.length c4, slice A8 a7.length c9]) bo24 z z (kb dt dq cA cD cE cF)<|?_
 rintro _ gz ⟨bF, bG, bH, bI, bJ, bM, cL, cj, du, dx, dy, dz, dB, rfl⟩
 refine ⟨_, rfl, ?_⟩
 refine nl<|dr _ _ _<|wb<|have dD:=Hp.emp du;have dE:=Hp.emp dD;have dF:=Hp.emp dE;have dG:=Hp.emp dF;have dH:=Hp.emp dG;have dI:=Hp.emp dH;have dK:=Hp.pick 13 [6, 7, 8, 9, 10, 11, 12, 3, 2, 1, 0, 5, 4] dI z;?_
 obtain ⟨⟨⟨an, bg, m, aR⟩, dM⟩, dN, H⟩ := bS H
 refine nT dK bo43 z fun fn tmps gl aS gA dP cM=>?_
 have dQ : Yl Try.prog (n3 (fun (u : (Option ai) × Bool × (List ak) × (List ap)) (x : ak) => aU a1 u.1 u.2.1 u.2.2.1 u.2.2.2 x)) (encS dL) _ gl := oR (pp := [28]) (gdd := aS) cM (fun (u : (Option ai) × Bool × (List ak) × (List ap)) (x : ak) => aU a1 u.1 u.2.1 u.2.2.1 u.2.2.2 x) [Code.exit 0] (fun (u : (Option ai) × Bool × (List ak) × (List ap)) (G' : Gh) (K : List dv) => ∃ (C : Option Addr) (E : Nat) (au : Option Addr) (av : Nat) (V : Nat) (aL : Option Addr) (aN : Nat) (aw : Option Addr) (ax : Nat) (ay : Option Addr) (aO : Nat) (az : Nat) (a3 : Gh) (_ : cL ≤ G'), K = bx aJ [func (.func 22) [].toArray [pointer (some ⟨B, 0, none⟩), pointer (some ⟨U, 0, none⟩)].toArray] 1 :: bx B [oV u.1 V] 58 :: bx aI [slice C u.2.2.1.length E] 57 :: bx U [slice au u.2.2.2.length av] 28 :: bx aD [int .i64 a1.Width, int .i64 a1.Height, int .i64 a1.Columns, int .i64 a1.Gap, int .i64 a1.Scale, int .i64 a1.Lang] 23 :: oI u.1 (fun (c : ai) => bx V [int .i64 c.sheet.Paper.Width, int .i64 c.sheet.Paper.Height, int .i64 c.sheet.Paper.Columns, int .i64 c.sheet.Paper.Gap, int .i64 c.sheet.Paper.Scale, int .i64 c.sheet.Paper.Lang, slice aL c.placed.length aN, slice aw c.notes.length ax, slice ay aO az] 67) :: oI u.1 (fun (c : ai) => tk (slice aL c.placed.length aN) 8 36) :: oI u.1 (fun (c : ai) => cI u.2.1 (tk (slice aw c.notes.length ax) 8 36)) :: oI u.1 (fun (c : ai) => bO a3 (Kd.int .i64) ay [] c.fills [] az 3) :: tk (slice C u.2.2.1.length E) 3 64 :: tk (slice au u.2.2.2.length av) 2 34 :: (List.map pX (aS :: ([] : List Nat)) ++ L) ∧ u.2.2.1.length ≤ E ∧ Dat dL G' C u.2.2.1 ∧ Own C E ∧ u.2.2.2.length ≤ av ∧ Dat br G' au u.2.2.2 ∧ Own au av ∧ oF u.1 (fun (c : ai) => c.placed.length ≤ aN ∧ Dat ah G' aL c.placed ∧ Own aL aN ∧ c.notes.length ≤ ax ∧ Dat ah G' aw c.notes ∧ (u.2.1 = true → Own aw ax) ∧ c.fills.length = aO ∧ Mw ay ay ([] : List Int).length aO az az 1 ∧ True) ∧ a3 ≤ G' ∧ True) dP (fun _ _ _ h => (fun h => pe h) h) (fun hG' ⟨C, E, au, av, V, aL, aN, aw, ax, ay, aO, az, a3, dS, hK', a4, aT, bh, aV, aW, aY, hO167, bi, _⟩ => ⟨C, E, au, av, V, aL, aN, aw, ax, ay, aO, az, a3, gT dS hG', hK', a4, (Dat.mono hG' aT), bh, aV, (Dat.mono hG' aW), aY, (kE (fun _ ⟨o0, o1, o2, o3, o4, o5, o6, o7, _⟩ => ⟨o0, Dat.mono hG' o1, o2, o3, Dat.mono hG' o4, o5, o6, o7, tv⟩) hO167), (gT bi hG'), tv⟩) (by
 rintro Rd Bs ⟨an, bg, m, aR⟩ u' k jo' bR K M gB vs ⟨C, E, au, av, V, aL, aN, aw, ax, ay, aO, az, a3, ct, rfl, a4, aT, bh, aV, aW, aY, hO167, bi, _⟩ ⟨_, rfl, dT⟩ H dV
 obtain ⟨aE, aF, bT, bU, ao, aq, bj, bk, rfl⟩ := gp dT
 replace H : aU a1 an bg m aR k = some (u', jo') := H
 unfold aU at H
 refine aA<|bQ dV nm fun aZ gC dW=>f5 dW 0 iD z z z z z z z fun gD dX=>nl<|have dY:=Hp.pick 13 [1, 0, 2, 3, 4, 5, 6, 7, 8, 9, 10, 11, 12] dX z;?_
 refine ⟨rfl, rfl, _, _, gR, dY, fun gE bl => ?_⟩
 refine wb<|sQ fun gF d0=>sr fun gG d1=>fa dw z<|ld bl 1 cB z z z<|q_len dA z<|ei z z<|nl<|d1 _ _ _<|dC ((k.slices.length : Int) = 0) (fun bW=>?_) fun bW=>?_
 refine yK bW H fun H=>wt (bY bW)<|sr fun gH d2=>gg bl 6 k6 z z z z<|cf (vs := [(0, agg [int .i64 a1.Width, int .i64 a1.Height, int .i64 a1.Columns, int .i64 a1.Gap, int .i64 a1.Scale, int .i64 a1.Lang].toArray)]) (cs := [int .i64 a1.Width, int .i64 a1.Height, int .i64 a1.Columns, int .i64 a1.Gap, int .i64 a1.Scale, int .i64 a1.Lang]) qn p5 z z<|?_
 refine eh bl (vs := [(0, int .i64 0)]) (cs := [int .i64 0]) j5 pK rfl (by decide) rfl (by kernel_rfl) (fun ck gI d3 => ?_)
 refine have cO:=Hp.rowLit (kd := (Kd.int .i64)) (t := ([0] : List Int)) (n := 1) d3 ⟨[int .i64 0], _, z, z, z⟩ z;fa jV z<|ld cO 2 cB z z z<|cf (vs := [(0, agg [int .i64 a1.Width, int .i64 a1.Height, int .i64 a1.Columns, int .i64 a1.Gap, int .i64 a1.Scale, int .i64 a1.Lang].toArray), (3, slice (some ⟨ck, 0, none⟩) 1 1), (2, slice ao k.notes.length aq)]) (cs := [int .i64 a1.Width, int .i64 a1.Height, int .i64 a1.Columns, int .i64 a1.Gap, int .i64 a1.Scale, int .i64 a1.Lang, slice none 0 0, slice ao k.notes.length aq, slice (some ⟨ck, 0, none⟩) 1 1]) q7 rd z z<|jW cO z z fun d4 gJ d5=>f5 d5 5 lX z z z z z z z fun gK d6=>nl<|d2 _ _ _<|wx<|have d7:=Hp.emp d6;have d8:=Hp.emp d7;have d9:=Hp.pick 17 [4, 6, 7, 8, 9, 10, 2, 1, 0, 3, 15, 16] d8 z;?_
 cases H
 exact ⟨(.inr ⟨_, z, z⟩), _, _, gR, ⟨C, E, au, av, d4, none, 0, ao, aq, (some ⟨ck, 0, none⟩), 1, 1, bR, ct, z, a4, aT, bh, aV, aW, aY, ⟨(show ([] : List ac).length ≤ 0 from Nat.le_refl 0), (Dat.nil _ _ _), Own.nil, bj, bk, (fun h => nomatch h), z, (Mw.new (α := Int) ck 1 1), tv⟩, gR, tv⟩, d9⟩
 refine nK bW H fun H=>wf (bN bW)<|ws<|d0 _ _ _<|sQ fun gL cP=>sr fun gM ea=>ld bl 4 mR z z z<|q_len pv z<|aK z<|nl<|ea _ _ _<|sQ fun gO eb=>ms H fun cQ bm hC H=>?_
 refine aP (Q := fun e r ds w => e = .normal ∧ ∃ (cl : Nat) (bn : Option Addr) (bo : Nat) (bp : Option Addr) (bq : Nat) (bs : Option Addr) (bX : Nat) (bt : Nat) (cu : Gh) (bu : Gh), ds = [] ∧ bR ≤ bu ∧ Has [(3, pointer (some ⟨aD, 0, none⟩)), (9, pointer (some ⟨aI, 0, none⟩)), (10, pointer (some ⟨B, 0, none⟩)), (11, pointer (some ⟨aJ, 0, none⟩)), (12, pointer (some ⟨aZ, 0, none⟩)), (59, bool cQ)] r ∧ Hp bu (Bs :: bx aZ [slice aE k.slices.length aF, slice ao k.notes.length aq, int .i64 k.end_] 64 :: bx aJ [func (.func 22) [].toArray [pointer (some ⟨B, 0, none⟩), pointer (some ⟨U, 0, none⟩)].toArray] 1 :: bx B [oV bm cl] 58 :: bx aI [slice C m.length E] 57 :: bx U [slice au aR.length av] 28 :: bx aD [int .i64 a1.Width, int .i64 a1.Height, int .i64 a1.Columns, int .i64 a1.Gap, int .i64 a1.Scale, int .i64 a1.Lang] 23 :: oI bm (fun (al : ai) => bx cl [int .i64 al.sheet.Paper.Width, int .i64 al.sheet.Paper.Height, int .i64 al.sheet.Paper.Columns, int .i64 al.sheet.Paper.Gap, int .i64 al.sheet.Paper.Scale, int .i64 al.sheet.Paper.Lang, slice bn al.placed.length bo, slice bp al.notes.length bq, slice bs bX bt] 67) :: oI bm (fun (al : ai) => tk (slice bn al.placed.length bo) 8 36) :: oI bm (fun (al : ai) => tk (slice bp al.notes.length bq) 8 36) :: oI bm (fun (al : ai) => bO cu (Kd.int .i64) bs [] al.fills [] bt 3) :: tk (slice C m.length E) 3 64 :: tk (slice au aR.length av) 2 34 :: ((List.map pX (aS :: ([] : List Nat)) ++ L) ++ M)) w ∧ oF bm (fun (al : ai) => al.placed.length ≤ bo ∧ Dat ah bu bn al.placed ∧ Own bn bo ∧ al.notes.length ≤ bq ∧ Dat ah bu bp al.notes ∧ Own bp bq ∧ al.fills.length = bX ∧ Mw bs bs ([] : List Int).length bX bt bt 1 ∧ True) ∧ cu ≤ bu ∧ True) ?_ ?_
 refine have H:=hC;?_
 rcases an with _ | c
 refine aM [0, 1, 3, 7, 7, 7, 39, 7, 7, 263, 903, 1927, 3975, 8167, 16359, 32767, 65535, 131071] (fun D r w => (∃ (G' : Gh), bR ≤ G' ∧ ag [(3, pointer (some ⟨aD, 0, none⟩)), (9, pointer (some ⟨aI, 0, none⟩)), (10, pointer (some ⟨B, 0, none⟩)), (11, pointer (some ⟨aJ, 0, none⟩)), (12, pointer (some ⟨aZ, 0, none⟩))] [] [(0, 42, pointer none), (1, 43, bool true), (2, 44, bool true), (3, 45, undef), (4, 46, undef), (5, 47, undef), (6, 48, undef), (7, 49, undef), (8, 50, undef), (9, 51, undef), (10, 52, undef), (11, 53, undef), (12, 54, undef), (13, 55, undef), (14, 56, undef), (15, 57, undef), (16, 58, undef), (17, 59, bool true)] D r ∧ Hp G' (Bs :: bx aZ [slice aE k.slices.length aF, slice ao k.notes.length aq, int .i64 k.end_] 64 :: bx aJ [func (.func 22) [].toArray [pointer (some ⟨B, 0, none⟩), pointer (some ⟨U, 0, none⟩)].toArray] 1 :: bx B [pointer none] 58 :: bx aI [slice C m.length E] 57 :: bx U [slice au aR.length av] 28 :: bx aD [int .i64 a1.Width, int .i64 a1.Height, int .i64 a1.Columns, int .i64 a1.Gap, int .i64 a1.Scale, int .i64 a1.Lang] 23 :: emp :: emp :: emp :: emp :: tk (slice C m.length E) 3 64 :: tk (slice au aR.length av) 2 34 :: ((List.map pX (aS :: ([] : List Nat)) ++ L) ++ M)) w)) dJ z z ?_ ?_ ?_
 exact ⟨_, Gh.le_refl _, ag.start ⟨z, z, z, z, z, tv⟩ trivial, bl.drew⟩
 refine ⟨?_, ?_, ?_, ?_, ?_, ?_, ?_, ?_, ?_, ?_, ?_, ?_, ?_, ?_, ?_, ?_, ?_, ?_, tv⟩
 rintro D r aB ⟨ar, q, i, o⟩ d b l
 obtain ⟨s, rfl⟩ := Has.ex (cC (i.ins.get 2 rfl) cN)
 exact ld o 3 lX z z z<|nl ⟨z, ⟨_, q, (ag.step i d z z z z), o⟩⟩
 rintro D r aB ⟨ar, q, i, o⟩ d b l
 obtain ⟨s, rfl⟩ := Has.ex (cC (i.get 0 rfl (b 0 rfl)) cN)
 exact mJ nI z z<|nl ⟨z, ⟨_, q, (ag.step i d z z z z), o⟩⟩
 rintro D r aB ⟨ar, q, i, o⟩ d b l
 obtain ⟨s, rfl⟩ := Has.ex (cC (i.get 1 rfl (b 1 rfl)) cN)
 exact mv z<|nl ⟨z, ⟨_, q, (ag.step i d z z z z), o⟩⟩
 rintro D r aB ⟨ar, q, i, o⟩ d b l
 obtain ⟨s, rfl⟩ := Has.ex (cC (i.get 2 rfl (b 2 rfl)) cN)
 exact wN (gN z z z z z)<|nl ⟨z, ⟨_, q, (ag.step i d z z z z), o⟩⟩
 rintro D r aB ⟨ar, q, i, o⟩ d b l
 obtain ⟨s, rfl⟩ := Has.ex (cC (i.get 2 rfl (b 2 rfl)) cN)
 exact wN (gN z z z z z)<|nl ⟨z, ⟨_, q, (ag.step i d z z z z), o⟩⟩
 rintro D r aB ⟨ar, q, i, o⟩ d b l
 obtain ⟨s, rfl⟩ := Has.ex (cC (i.get 2 rfl (b 2 rfl)) cN)
 exact wN (gN z z z z z)<|nl ⟨z, ⟨_, q, (ag.step i d z z z z), o⟩⟩
 rintro D r aB ⟨ar, q, i, o⟩ d b l
 obtain ⟨s, rfl⟩ := Has.ex (cC (i.get 2 rfl (b 2 rfl)) cN)
 exact wN (gN z z z z z)<|nl ⟨z, ⟨_, q, (ag.step i d z z z z), o⟩⟩
 rintro D r aB ⟨ar, q, i, o⟩ d b l
 obtain ⟨s, rfl⟩ := Has.ex (cC (i.get 2 rfl (b 2 rfl)) cN)
 exact wN (gN z z z z z)<|nl ⟨z, ⟨_, q, (ag.step i d z z z z), o⟩⟩
 rintro D r aB ⟨ar, q, i, o⟩ d b l
 obtain ⟨s, rfl⟩ := Has.ex (cC (i.get 2 rfl (b 2 rfl)) cN)
 exact wN (gN z z z z z)<|nl ⟨z, ⟨_, q, (ag.step i d z z z z), o⟩⟩
 rintro D r aB ⟨ar, q, i, o⟩ d b l
 obtain ⟨s, rfl⟩ := Has.ex (cC (i.get 2 rfl (b 2 rfl)) cN)
 exact wN (gN z z z z z)<|nl ⟨z, ⟨_, q, (ag.step i d z z z z), o⟩⟩
 rintro D r aB ⟨ar, q, i, o⟩ d b l
 obtain ⟨s, rfl⟩ := Has.ex (cC (i.get 2 rfl (b 2 rfl)) cN)
 exact wN (gN z z z z z)<|nl ⟨z, ⟨_, q, (ag.step i d z z z z), o⟩⟩
 rintro D r aB ⟨ar, q, i, o⟩ d b l
 obtain ⟨s, rfl⟩ := Has.ex (cC (i.get 2 rfl (b 2 rfl)) cN)
 exact wN (gN z z z z z)<|nl ⟨z, ⟨_, q, (ag.step i d z z z z), o⟩⟩
 rintro D r aB ⟨ar, q, i, o⟩ d b l
 obtain ⟨s, rfl⟩ := Has.ex (cC (i.get 2 rfl (b 2 rfl)) cN)
 exact wN (gN z z z z z)<|nl ⟨z, ⟨_, q, (ag.step i d z z z z), o⟩⟩
 rintro D r aB ⟨ar, q, i, o⟩ d b l
 obtain ⟨s, rfl⟩ := Has.ex (cC (i.get 2 rfl (b 2 rfl)) cN)
 exact wN (gN z z z z z)<|nl ⟨z, ⟨_, q, (ag.step i d z z z z), o⟩⟩
 rintro D r aB ⟨ar, q, i, o⟩ d b l
 obtain ⟨s, rfl⟩ := Has.ex (cC (i.get 2 rfl (b 2 rfl)) cN)
 exact wN (gN z z z z z)<|nl ⟨z, ⟨_, q, (ag.step i d z z z z), o⟩⟩
 rintro D r aB ⟨ar, q, i, o⟩ d b l
 obtain ⟨s, rfl⟩ := Has.ex (cC (i.get 2 rfl (b 2 rfl)) cN)
 exact wN (gN z z z z z)<|nl ⟨z, ⟨_, q, (ag.step i d z z z z), o⟩⟩
 rintro D r aB ⟨ar, q, i, o⟩ d b l
 obtain ⟨s, rfl⟩ := Has.ex (cC (i.get 2 rfl (b 2 rfl)) cN)
 exact wN (gN z z z z z)<|nl ⟨z, ⟨_, q, (ag.step i d z z z z), o⟩⟩
 rintro D r aB ⟨ar, q, i, o⟩ d b l
 obtain ⟨s, rfl⟩ := Has.ex (cC (i.get 2 rfl (b 2 rfl)) (cC (i.get 16 rfl (b 16 rfl)) cN))
 exact cY z z<|nl ⟨z, ⟨_, q, (ag.step i d z z z z), o⟩⟩
 intro D r aB cb hR
 obtain ⟨ar, q, i, o⟩ := hR
 obtain ⟨s, rfl⟩ := Has.ex (cC (i.ins.get 0 rfl) (cC (i.ins.get 1 rfl) (cC (i.ins.get 2 rfl) (cC (i.ins.get 3 rfl) (cC (i.ins.get 4 rfl) (cC (i.get 17 rfl (cb 17 (Nat.le_of_ble_eq_true rfl))) cN))))))
 refine have ec:=Hp.emp o;have ed:=Hp.emp ec;have ee:=Hp.emp ed;have ef:=Hp.emp ee;have eg:=Hp.pick 17 [4, 5, 6, 7, 8, 9, 10, 3, 2, 1, 0, 15, 16] ef z;?_
 cases H
 exact ⟨z, 0, none, 0, none, 0, none, 0, 0, ar, _, z, q, ⟨z, z, z, z, z, z, tv⟩, eg, trivial, gR, tv⟩
 obtain ⟨ej, ek, el, em, en, eo, ep, er, _⟩ := hO167
 refine iK H fun es H=>?_
 subst es
 refine bK H fun be eu H=>iK H fun⟨cR, cS⟩H=>?_
 obtain ⟨cm, gP, ev, ew, gQ, ey⟩ := Dat.get aT am (aj ((m.length : Int) - 1)) cR cS
 obtain ⟨gS, gU, gV, gW, gX, gZ, g0, g1, rfl⟩ := gp ew
 refine ms H fun bv aG ez H=>?_
 refine aM [0, 1, 3, 7, 7, 7, 39, 7, 7, 263, 903, 1927, 3975, 8167, 16359, 32767, 65535, 131071] (fun D r w => (D 15 = false ∧ ∃ (G' : Gh), bR ≤ G' ∧ ag [(3, pointer (some ⟨aD, 0, none⟩)), (9, pointer (some ⟨aI, 0, none⟩)), (10, pointer (some ⟨B, 0, none⟩)), (11, pointer (some ⟨aJ, 0, none⟩)), (12, pointer (some ⟨aZ, 0, none⟩)), (13, int .i64 (m.length : Int))] [] [(0, 42, pointer (some ⟨V, 0, none⟩)), (1, 43, bool false), (2, 44, bool false), (3, 45, pointer (some ⟨V, 0, none⟩)), (4, 46, agg [slice aE k.slices.length aF, slice ao k.notes.length aq, int .i64 k.end_].toArray), (5, 47, agg [slice aE k.slices.length aF, slice ao k.notes.length aq, int .i64 k.end_].toArray), (6, 48, int .i64 be), (7, 49, slice C m.length E), (8, 50, int .i64 (m.length : Int)), (9, 51, int .i64 (aj ((m.length : Int) - 1))), (10, 52, pointer (some (cm.add (Int.toNat (aj ((m.length : Int) - 1)) * 3)))), (11, 53, pointer (some ((cm.add (Int.toNat (aj ((m.length : Int) - 1)) * 3)).add 2))), (12, 54, int .i64 ((m.getD (Int.toNat (aj ((m.length : Int) - 1))) am).end_)), (13, 55, int .i64 (aj (be - ((m.getD (Int.toNat (aj ((m.length : Int) - 1))) am).end_)))), (14, 56, int .i64 (max 0 (aj (be - ((m.getD (Int.toNat (aj ((m.length : Int) - 1))) am).end_)))))] D r ∧ Hp G' (Bs :: bx aZ [slice aE k.slices.length aF, slice ao k.notes.length aq, int .i64 k.end_] 64 :: bx aJ [func (.func 22) [].toArray [pointer (some ⟨B, 0, none⟩), pointer (some ⟨U, 0, none⟩)].toArray] 1 :: bx B [pointer (some ⟨V, 0, none⟩)] 58 :: bx aI [slice C m.length E] 57 :: bx U [slice au aR.length av] 28 :: bx aD [int .i64 a1.Width, int .i64 a1.Height, int .i64 a1.Columns, int .i64 a1.Gap, int .i64 a1.Scale, int .i64 a1.Lang] 23 :: bx V [int .i64 c.sheet.Paper.Width, int .i64 c.sheet.Paper.Height, int .i64 c.sheet.Paper.Columns, int .i64 c.sheet.Paper.Gap, int .i64 c.sheet.Paper.Scale, int .i64 c.sheet.Paper.Lang, slice aL c.placed.length aN, slice aw c.notes.length ax, slice ay aO az] 67 :: tk (slice aL c.placed.length aN) 8 36 :: tk (slice aw c.notes.length ax) 8 36 :: bO a3 (Kd.int .i64) ay [] c.fills [] az 3 :: tk (slice C m.length E) 3 64 :: tk (slice au aR.length av) 2 34 :: ((List.map pX (aS :: ([] : List Nat)) ++ L) ++ M)) w) ∨ (D 15 = true ∧ ∃ (F : Option Addr) (I : Nat) (J : Option Addr) (O : Nat) (P : Option Addr) (S : Nat) (R : Nat) (T : Gh) (G' : Gh), bR ≤ G' ∧ aG.placed.length ≤ I ∧ Dat ah G' F aG.placed ∧ Own F I ∧ aG.notes.length ≤ O ∧ Dat ah G' J aG.notes ∧ Own J O ∧ aG.fills.length = S ∧ Mw P P ([] : List Int).length S R R 1 ∧ T ≤ G' ∧ ag [(3, pointer (some ⟨aD, 0, none⟩)), (9, pointer (some ⟨aI, 0, none⟩)), (10, pointer (some ⟨B, 0, none⟩)), (11, pointer (some ⟨aJ, 0, none⟩)), (12, pointer (some ⟨aZ, 0, none⟩)), (13, int .i64 (m.length : Int))] [] [(0, 42, pointer (some ⟨V, 0, none⟩)), (1, 43, bool false), (2, 44, bool false), (3, 45, pointer (some ⟨V, 0, none⟩)), (4, 46, agg [slice aE k.slices.length aF, slice ao k.notes.length aq, int .i64 k.end_].toArray), (5, 47, agg [slice aE k.slices.length aF, slice ao k.notes.length aq, int .i64 k.end_].toArray), (6, 48, int .i64 be), (7, 49, slice C m.length E), (8, 50, int .i64 (m.length : Int)), (9, 51, int .i64 (aj ((m.length : Int) - 1))), (10, 52, pointer (some (cm.add (Int.toNat (aj ((m.length : Int) - 1)) * 3)))), (11, 53, pointer (some ((cm.add (Int.toNat (aj ((m.length : Int) - 1)) * 3)).add 2))), (12, 54, int .i64 ((m.getD (Int.toNat (aj ((m.length : Int) - 1))) am).end_)), (13, 55, int .i64 (aj (be - ((m.getD (Int.toNat (aj ((m.length : Int) - 1))) am).end_)))), (14, 56, int .i64 (max 0 (aj (be - ((m.getD (Int.toNat (aj ((m.length : Int) - 1))) am).end_))))), (15, 57, bool bv), (16, 58, bool (!bv)), (17, 59, bool (!bv))] D r ∧ Hp G' (bx V [int .i64 aG.sheet.Paper.Width, int .i64 aG.sheet.Paper.Height, int .i64 aG.sheet.Paper.Columns, int .i64 aG.sheet.Paper.Gap, int .i64 aG.sheet.Paper.Scale, int .i64 aG.sheet.Paper.Lang, slice F aG.placed.length I, slice J aG.notes.length O, slice P S R] 67 :: tk (slice F aG.placed.length I) 8 36 :: tk (slice J aG.notes.length O) 8 36 :: bO T (Kd.int .i64) P [] aG.fills [] R 3 :: Bs :: bx aZ [slice aE k.slices.length aF, slice ao k.notes.length aq, int .i64 k.end_] 64 :: bx aJ [func (.func 22) [].toArray [pointer (some ⟨B, 0, none⟩), pointer (some ⟨U, 0, none⟩)].toArray] 1 :: bx B [pointer (some ⟨V, 0, none⟩)] 58 :: bx aI [slice C m.length E] 57 :: bx U [slice au aR.length av] 28 :: bx aD [int .i64 a1.Width, int .i64 a1.Height, int .i64 a1.Columns, int .i64 a1.Gap, int .i64 a1.Scale, int .i64 a1.Lang] 23 :: tk (slice C m.length E) 3 64 :: tk (slice au aR.length av) 2 34 :: ((List.map pX (aS :: ([] : List Nat)) ++ L) ++ M)) w)) dJ z z ?_ ?_ ?_
 exact (.inl ⟨z, _, Gh.le_refl _, ag.start ⟨z, z, z, z, z, z, tv⟩ trivial, bl.drew⟩)
 refine ⟨?_, ?_, ?_, ?_, ?_, ?_, ?_, ?_, ?_, ?_, ?_, ?_, ?_, ?_, ?_, ?_, ?_, ?_, tv⟩
 rintro D r aC (⟨v, p, f, a, g⟩ | ⟨y, F, I, J, O, P, S, R, T, p, f, W, X, Y, Z, aa, ab, ad, ae, af, a, g⟩) d b l
 obtain ⟨s, rfl⟩ := Has.ex (cC (a.ins.get 2 rfl) cN)
 exact ld g 3 lX z z z<|nl ⟨z, (.inl ⟨v, _, f, (ag.step a d z z z z), g⟩)⟩
 cases (l 15 rfl).symm.trans y
 rintro D r aC (⟨v, p, f, a, g⟩ | ⟨y, F, I, J, O, P, S, R, T, p, f, W, X, Y, Z, aa, ab, ad, ae, af, a, g⟩) d b l
 obtain ⟨s, rfl⟩ := Has.ex (cC (a.get 0 rfl (b 0 rfl)) cN)
 exact mO nI z z<|nl ⟨z, (.inl ⟨v, _, f, (ag.step a d z z z z), g⟩)⟩
 cases (l 15 rfl).symm.trans y
 rintro D r aC (⟨v, p, f, a, g⟩ | ⟨y, F, I, J, O, P, S, R, T, p, f, W, X, Y, Z, aa, ab, ad, ae, af, a, g⟩) d b l
 obtain ⟨s, rfl⟩ := Has.ex (cC (a.get 1 rfl (b 1 rfl)) cN)
 exact mv z<|nl ⟨z, (.inl ⟨v, _, f, (ag.step a d z z z z), g⟩)⟩
 cases (l 15 rfl).symm.trans y
 rintro D r aC (⟨v, p, f, a, g⟩ | ⟨y, F, I, J, O, P, S, R, T, p, f, W, X, Y, Z, aa, ab, ad, ae, af, a, g⟩) d b l
 obtain ⟨s, rfl⟩ := Has.ex (cC (a.ins.get 2 rfl) (cC (a.get 2 rfl (b 2 rfl)) cN))
 exact ld (hw:=gY z z z z) g 3 lX z z z<|nl ⟨z, (.inl ⟨v, _, f, (ag.step a d z z z z), g⟩)⟩
 cases (l 15 rfl).symm.trans y
 rintro D r aC (⟨v, p, f, a, g⟩ | ⟨y, F, I, J, O, P, S, R, T, p, f, W, X, Y, Z, aa, ab, ad, ae, af, a, g⟩) d b l
 obtain ⟨s, rfl⟩ := Has.ex (cC (a.ins.get 4 rfl) (cC (a.get 2 rfl (b 2 rfl)) cN))
 exact gg (hw:=gY z z z z) g 1 iD z z z z<|nl ⟨z, (.inl ⟨v, _, f, (ag.step a d z z z z), g⟩)⟩
 cases (l 15 rfl).symm.trans y
 rintro D r aC (⟨v, p, f, a, g⟩ | ⟨y, F, I, J, O, P, S, R, T, p, f, W, X, Y, Z, aa, ab, ad, ae, af, a, g⟩) d b l
 obtain ⟨s, rfl⟩ := Has.ex (cC (a.ins.get 4 rfl) (cC (a.get 2 rfl (b 2 rfl)) cN))
 exact gg (hw:=gY z z z z) g 1 iD z z z z<|nl ⟨z, (.inl ⟨v, _, f, (ag.step a d z z z z), g⟩)⟩
 cases (l 15 rfl).symm.trans y
 rintro D r aC (⟨v, p, f, a, g⟩ | ⟨y, F, I, J, O, P, S, R, T, p, f, W, X, Y, Z, aa, ab, ad, ae, af, a, g⟩) d b l
 obtain ⟨s, rfl⟩ := Has.ex (cC (a.get 2 rfl (b 2 rfl)) (cC (a.get 5 rfl (b 5 rfl)) cN))
 exact cv (hw:=gY z z z z) qh (eX eu g bT (Dat.mono f bU) bj (Dat.mono f bk)) z z fun g2 eA=>nl ⟨z, (.inl ⟨v, _, f, (ag.step a d z z z z), eA⟩)⟩
 cases (l 15 rfl).symm.trans y
 rintro D r aC (⟨v, p, f, a, g⟩ | ⟨y, F, I, J, O, P, S, R, T, p, f, W, X, Y, Z, aa, ab, ad, ae, af, a, g⟩) d b l
 obtain ⟨s, rfl⟩ := Has.ex (cC (a.ins.get 1 rfl) (cC (a.get 2 rfl (b 2 rfl)) cN))
 exact ld (hw:=gY z z z z) g 4 mR z z z<|nl ⟨z, (.inl ⟨v, _, f, (ag.step a d z z z z), g⟩)⟩
 cases (l 15 rfl).symm.trans y
 rintro D r aC (⟨v, p, f, a, g⟩ | ⟨y, F, I, J, O, P, S, R, T, p, f, W, X, Y, Z, aa, ab, ad, ae, af, a, g⟩) d b l
 obtain ⟨s, rfl⟩ := Has.ex (cC (a.ins.get 5 rfl) (cC (a.get 2 rfl (b 2 rfl)) cN))
 exact mv (hw:=gY z z z z) z<|nl ⟨z, (.inl ⟨v, _, f, (ag.step a d z z z z), g⟩)⟩
 cases (l 15 rfl).symm.trans y
 rintro D r aC (⟨v, p, f, a, g⟩ | ⟨y, F, I, J, O, P, S, R, T, p, f, W, X, Y, Z, aa, ab, ad, ae, af, a, g⟩) d b l
 obtain ⟨s, rfl⟩ := Has.ex (cC (a.get 2 rfl (b 2 rfl)) (cC (a.get 8 rfl (b 8 rfl)) cN))
 exact b6 (hw:=gY z z z z) z z<|nl ⟨z, (.inl ⟨v, _, f, (ag.step a d z z z z), g⟩)⟩
 cases (l 15 rfl).symm.trans y
 rintro D r aC (⟨v, p, f, a, g⟩ | ⟨y, F, I, J, O, P, S, R, T, p, f, W, X, Y, Z, aa, ab, ad, ae, af, a, g⟩) d b l
 obtain ⟨s, rfl⟩ := Has.ex (cC (a.get 2 rfl (b 2 rfl)) (cC (a.get 7 rfl (b 7 rfl)) (cC (a.get 9 rfl (b 9 rfl)) cN)))
 exact bL (hw:=gY z z z z) nJ z ev z cR cS<|nl ⟨z, (.inl ⟨v, _, f, (ag.step a d z z z z), g⟩)⟩
 cases (l 15 rfl).symm.trans y
 rintro D r aC (⟨v, p, f, a, g⟩ | ⟨y, F, I, J, O, P, S, R, T, p, f, W, X, Y, Z, aa, ab, ad, ae, af, a, g⟩) d b l
 obtain ⟨s, rfl⟩ := Has.ex (cC (a.get 2 rfl (b 2 rfl)) (cC (a.get 10 rfl (b 10 rfl)) cN))
 exact eS (hw:=gY z z z z) dO z z<|nl ⟨z, (.inl ⟨v, _, f, (ag.step a d z z z z), g⟩)⟩
 cases (l 15 rfl).symm.trans y
 rintro D r aC (⟨v, p, f, a, g⟩ | ⟨y, F, I, J, O, P, S, R, T, p, f, W, X, Y, Z, aa, ab, ad, ae, af, a, g⟩) d b l
 obtain ⟨s, rfl⟩ := Has.ex (cC (a.get 2 rfl (b 2 rfl)) (cC (a.get 11 rfl (b 11 rfl)) cN))
 exact et (hw:=gY z z z z) g bb z (f.cel _ _ (ey 2 _ z))<|nl ⟨z, (.inl ⟨v, _, f, (ag.step a d z z z z), g⟩)⟩
 cases (l 15 rfl).symm.trans y
 rintro D r aC (⟨v, p, f, a, g⟩ | ⟨y, F, I, J, O, P, S, R, T, p, f, W, X, Y, Z, aa, ab, ad, ae, af, a, g⟩) d b l
 obtain ⟨s, rfl⟩ := Has.ex (cC (a.get 2 rfl (b 2 rfl)) (cC (a.get 6 rfl (b 6 rfl)) (cC (a.get 12 rfl (b 12 rfl)) cN)))
 exact b6 (hw:=gY z z z z) z z<|nl ⟨z, (.inl ⟨v, _, f, (ag.step a d z z z z), g⟩)⟩
 cases (l 15 rfl).symm.trans y
 rintro D r aC (⟨v, p, f, a, g⟩ | ⟨y, F, I, J, O, P, S, R, T, p, f, W, X, Y, Z, aa, ab, ad, ae, af, a, g⟩) d b l
 obtain ⟨s, rfl⟩ := Has.ex (cC (a.get 2 rfl (b 2 rfl)) (cC (a.get 13 rfl (b 13 rfl)) cN))
 exact dR (hw:=gY z z z z) z z<|nl ⟨z, (.inl ⟨v, _, f, (ag.step a d z z z z), g⟩)⟩
 cases (l 15 rfl).symm.trans y
 rintro D r aC (⟨v, p, f, a, g⟩ | ⟨y, F, I, J, O, P, S, R, T, p, f, W, X, Y, Z, aa, ab, ad, ae, af, a, g⟩) d b l
 obtain ⟨s, rfl⟩ := Has.ex (cC (a.get 2 rfl (b 2 rfl)) (cC (a.get 3 rfl (b 3 rfl)) (cC (a.get 4 rfl (b 4 rfl)) (cC (a.get 14 rfl (b 14 rfl)) cN))))
 refine have eB:=Hp.rwUp g 10 z (gT bi f);have eC:=Hp.pick 13 [7, 8, 9, 10, 0, 1, 2, 3, 4, 5, 6, 11, 12] eB z;ft (hw:=gY z z z z) (vs := [pointer (some ⟨V, 0, none⟩), agg [slice aE k.slices.length aF, slice ao k.notes.length aq, int .i64 k.end_].toArray, int .i64 (max 0 (aj (be - ((m.getD (Int.toNat (aj ((m.length : Int) - 1))) am).end_))))]) bo25 z z (iq ez eC ej (Dat.mono f ek) el em (Dat.mono f en) (eo z) ep er bT (Dat.mono f bU) bj (Dat.mono f bk))<|?_
 rintro _ g3 ⟨F, I, J, O, P, S, R, T, eD, eE, W, X, Y, Z, aa, ab, ad, ae, rfl⟩
 refine ⟨_, rfl, ?_⟩
 exact nl ⟨z, (.inr ⟨z, F, I, J, O, P, S, R, T, _, (gT f eD), W, X, Y, Z, aa, ab, ad, ae, gR, (ag.step (ag.more (new := [(15, 57, bool bv), (16, 58, bool (!bv)), (17, 59, bool (!bv))]) a (List.forall_mem_cons.2 ⟨d, (List.forall_mem_cons.2 ⟨l 16 z, (List.forall_mem_cons.2 ⟨l 17 z, (fun _ h => nomatch h)⟩)⟩)⟩)) d z z z z), eE⟩)⟩
 cases d.symm.trans y
 rintro D r aC (⟨v, p, f, a, g⟩ | ⟨y, F, I, J, O, P, S, R, T, p, f, W, X, Y, Z, aa, ab, ad, ae, af, a, g⟩) d b l
 cases (b 15 rfl).symm.trans v
 obtain ⟨s, rfl⟩ := Has.ex (cC (a.get 2 rfl (b 2 rfl)) (cC (a.get 15 rfl (b 15 rfl)) cN))
 exact bV (hw:=gY z z z z) z<|nl ⟨z, (.inr ⟨y, F, I, J, O, P, S, R, T, _, f, W, X, Y, Z, aa, ab, ad, ae, af, (ag.step a d z z z z), g⟩)⟩
 rintro D r aC (⟨v, p, f, a, g⟩ | ⟨y, F, I, J, O, P, S, R, T, p, f, W, X, Y, Z, aa, ab, ad, ae, af, a, g⟩) d b l
 cases (b 15 rfl).symm.trans v
 obtain ⟨s, rfl⟩ := Has.ex (cC (a.get 2 rfl (b 2 rfl)) (cC (a.get 16 rfl (b 16 rfl)) cN))
 exact dm z z<|nl ⟨z, (.inr ⟨y, F, I, J, O, P, S, R, T, _, f, W, X, Y, Z, aa, ab, ad, ae, af, (ag.step a d z z z z), g⟩)⟩
 intro D r aC cb hR
 rcases hR with ⟨v, p, f, a, g⟩ | ⟨y, F, I, J, O, P, S, R, T, p, f, W, X, Y, Z, aa, ab, ad, ae, af, a, g⟩
 cases (cb 15 (Nat.le_of_ble_eq_true rfl)).symm.trans v
 obtain ⟨s, rfl⟩ := Has.ex (cC (a.ins.get 0 rfl) (cC (a.ins.get 1 rfl) (cC (a.ins.get 2 rfl) (cC (a.ins.get 3 rfl) (cC (a.ins.get 4 rfl) (cC (a.get 17 rfl (cb 17 (Nat.le_of_ble_eq_true rfl))) cN))))))
 refine have eF:=Hp.rwUp g 3 z af;have eG:=Hp.pick 13 [4, 5, 6, 7, 8, 9, 10, 0, 1, 2, 3, 11, 12] eF z;?_
 cases H
 exact ⟨z, V, F, I, J, O, P, S, R, p, _, z, f, ⟨z, z, z, z, z, z, tv⟩, eG, ⟨W, X, Y, Z, aa, ab, ad, ae, tv⟩, gR, tv⟩
 rintro e r ds g4 ⟨rfl, cl, bn, bo, bp, bq, bs, bX, bt, cu, bu, rfl, aH, cx, bZ, hO387, cT, _⟩
 rw [cx.eq]; clear cx
 refine eb _ _ _<|dC (cQ = true) (fun b0=>?_) fun b0=>?_
 refine yK b0 H fun H=>wt (vY b0)<|sr fun g5 eH=>ld bZ 2 ag1 z z z<|have eI:=Hp.oUp bZ 10 z cT;have eJ:=Hp.pick 13 [3, 7, 8, 9, 10, 5, 12, 0, 1, 2, 4, 6, 11] eI z;bK H fun g6 eK H=>ft (vs := [pointer (some ⟨B, 0, none⟩), pointer (some ⟨U, 0, none⟩)]) qj z z (iU eK eJ hO387 aV (Dat.mono aH aW) aY)<|?_
 rintro _ g7 ⟨eL, eM, g8, a0, cn, eN, eO, eP, rfl⟩
 refine ⟨_, rfl, ?_⟩
 refine nl<|eH _ _ _<|aA<|gg cn 10 k6 z z z z<|cf (vs := [(0, agg [int .i64 a1.Width, int .i64 a1.Height, int .i64 a1.Columns, int .i64 a1.Gap, int .i64 a1.Scale, int .i64 a1.Lang].toArray)]) (cs := [int .i64 a1.Width, int .i64 a1.Height, int .i64 a1.Columns, int .i64 a1.Gap, int .i64 a1.Scale, int .i64 a1.Lang]) qn p5 z z<|gg cn 7 iD z z z z<|ld cn 9 mR z z z<|bK H fun g9 eQ H=>ft (vs := [agg [int .i64 a1.Width, int .i64 a1.Height, int .i64 a1.Columns, int .i64 a1.Gap, int .i64 a1.Scale, int .i64 a1.Lang].toArray, agg [slice aE k.slices.length aF, slice ao k.notes.length aq, int .i64 k.end_].toArray, slice C m.length E]) bo27 z z (kj (a1 := (⟨a1⟩ : aX)) eQ cn bT (Dat.mono (gT aH a0) bU) bj (Dat.mono (gT aH a0) bk) a4 (Dat.mono (gT aH a0) aT))<|?_
 rintro _ ha ⟨eR, eT, eU, eV, eW, eY, eZ, e0, hb, bw, e1, e2, e3, e4, e5, e6, e7, e8, e9, rfl⟩
 refine ⟨_, rfl, ?_⟩
 refine f5 e1 4 lX z z z z z z z fun hc cw=>nl<|cP _ _ _<|aA<|ld cw 13 mR z z z<|gg cw 11 iD z z z z<|?_
 refine eh cw (vs := [(0, agg [slice aE k.slices.length aF, slice ao k.notes.length aq, int .i64 k.end_].toArray)]) (cs := [slice aE k.slices.length aF, slice ao k.notes.length aq, int .i64 k.end_]) nJ nm rfl (by decide) rfl (by kernel_rfl) (fun hd he cU => ?_)
 refine iK H fun hf H=>?_
 refine fx (xs := m) (ys := [k]) dL cU 16 nJ nm rfl rfl rfl rfl bh a4 (Dat.mono (gT (gT aH a0) bw) aT) (dU cU 0 pv rfl rfl) ⟨[slice aE k.slices.length aF, slice ao k.notes.length aq, int .i64 k.end_], _, rfl, (f6 (x := k) bT (Dat.mono (gT (gT aH a0) bw) bU) bj (Dat.mono (gT (gT aH a0) bw) bk)), rfl⟩ rfl (by simp only [List.length_cons, List.length_nil]; omega) (by simp only [List.length_cons, List.length_nil]; omega) (fun fb fc fd hg bz fe ff fg fh => ?_)
 refine f5 fh 14 mR z z z z z z z fun hh fi=>nl<|have fj:=Hp.rwUp fi 4 z bz;have fk:=Hp.pick 17 [11, 13, 5, 14, 9, 15, 1, 2, 3, 4, 16, 10] fj z;?_
 cases H
 exact ⟨z, _, _, (gT (gT (gT aH a0) bw) bz), ⟨fb, fc, eL, eM, eR, eT, eU, eV, eW, eY, eZ, e0, fd, (gT (gT (gT (gT ct aH) a0) bw) bz), z, ff, fg, fe, eN, (Dat.mono (gT bw bz) eO), eP, ⟨e2, (Dat.mono bz e3), e4, e5, (Dat.mono bz e6), (fun _ => e7), e8, e9, tv⟩, gR, tv⟩, fk⟩
 refine nK b0 H fun H=>wf (vN b0)<|ws<|cP _ _ _<|aA<|ld bZ 4 mR z z z<|gg bZ 1 iD z z z z<|?_
 refine eh bZ (vs := [(0, agg [slice aE k.slices.length aF, slice ao k.notes.length aq, int .i64 k.end_].toArray)]) (cs := [slice aE k.slices.length aF, slice ao k.notes.length aq, int .i64 k.end_]) nJ nm rfl (by decide) rfl (by kernel_rfl) (fun hi hj cV => ?_)
 refine iK H fun hk H=>?_
 refine fx (xs := m) (ys := [k]) dL cV 12 nJ nm rfl rfl rfl rfl bh a4 (Dat.mono aH aT) (dU cV 0 pv rfl rfl) ⟨[slice aE k.slices.length aF, slice ao k.notes.length aq, int .i64 k.end_], _, rfl, (f6 (x := k) bT (Dat.mono aH bU) bj (Dat.mono aH bk)), rfl⟩ rfl (by simp only [List.length_cons, List.length_nil]; omega) (by simp only [List.length_cons, List.length_nil]; omega) (fun fl fm fo hl bA fp fq fr fs => ?_)
 refine f5 fs 5 mR z z z z z z z fun hm fu=>nl<|have fv:=Hp.oUp fu 11 z (gT cT bA);have fw:=Hp.pick 14 [1, 3, 4, 5, 6, 7, 8, 9, 10, 11, 12, 13] fv z;?_
 cases H
 exact ⟨z, _, _, (gT aH bA), ⟨fl, fm, au, av, cl, bn, bo, bp, bq, bs, bX, bt, fo, (gT (gT ct aH) bA), z, fq, fr, fp, aV, (Dat.mono (gT aH bA) aW), aY, (kE (fun _ ⟨o0, o1, o2, o3, o4, o5, o6, o7, _⟩ => ⟨o0, Dat.mono bA o1, o2, o3, Dat.mono bA o4, (fun _ => o5), o6, o7, tv⟩) hO387), gR, tv⟩, fw⟩)
 refine have fy:=Hp.sink (A := [bx bF [slice bG bD.length bH] 24, bx bI [slice bJ bE.length bM] 25]) (K := [bx aJ [func (.func 22) [].toArray [pointer (some ⟨B, 0, none⟩), pointer (some ⟨U, 0, none⟩)].toArray] 1, bx B [pointer none] 58, bx aI [slice none 0 0] 57, bx U [slice none 0 0] 28, bx aD [int .i64 a1.Width, int .i64 a1.Height, int .i64 a1.Columns, int .i64 a1.Gap, int .i64 a1.Scale, int .i64 a1.Lang] 23, emp, emp, emp, emp, tk (slice none 0 0) 3 64, tk (slice none 0 0) 2 34]) cM;(iV (sy := (((none : Option ai), true, ([] : List ak), ([] : List ap)), none)) dN fy dx dy dz dB dQ ⟨_, z, none, 0, none, 0, 0, none, 0, none, 0, none, 0, 0, cL, Gh.le_refl _, z, (show ([] : List ak).length ≤ 0 from Nat.le_refl 0), (Dat.nil _ _ _), Own.nil, (show ([] : List ap).length ≤ 0 from Nat.le_refl 0), (Dat.nil _ _ _), Own.nil, trivial, gR, tv⟩).mono<|?_
 rintro _ hn ⟨ho, cW, hp, fz, ⟨K, rfl, C, E, au, av, V, aL, aN, aw, ax, ay, aO, az, a3, co, rfl, a4, aT, bh, aV, aW, aY, hO167, bi, _⟩, rfl⟩
 refine have cX:=Hp.front fz 2 z;?_
 rcases dM with _ | j
 refine ⟨_, rfl, LoopState.ready, none, cW, _, (fun h => nomatch h), cX, fun fA b1 => ?_⟩
 refine cK _ _ _<|sr fun hq fB=>ld b1 2 ag1 z z z<|have fC:=Hp.oUp b1 10 z bi;have fD:=Hp.pick 13 [3, 7, 8, 10, 5, 12, 0, 1, 2, 4, 6, 9, 11] fC z;bK H fun b2 fE H=>ft (vs := [pointer (some ⟨B, 0, none⟩), pointer (some ⟨U, 0, none⟩)]) qj z z (fN fE fD (kE (fun _ ⟨o0, o1, o2, o3, o4, o5, o6, o7, _⟩ => ⟨o0, o1, o2, o3, o4, o6, o7, tv⟩) hO167) aV aW aY)<|?_
 rintro _ hr ⟨b3, b4, cZ, c0, cp, fF, fG, fH, rfl⟩
 refine ⟨_, rfl, ?_⟩
 refine nl<|fB _ _ _<|sQ fun hs fI=>sr fun ht fJ=>ld cp 3 jY z z z<|q_len kH z<|gq z z<|nl<|fJ _ _ _<|dC (500 < (b2.length : Int)) (fun b5=>?_) fun b5=>?_
 refine yK b5 H fun H=>wt (bY b5)<|sr fun hu fK=>aK z<|aK z<|nl<|fK _ _ _<|wr<|?_
 refine ⟨.inr rfl, (aS :: ([] : List Nat)), _, _, rfl, Hp.marks (K := [bx B [oV an V] 58, oI an (fun (c : ai) => bx V [int .i64 c.sheet.Paper.Width, int .i64 c.sheet.Paper.Height, int .i64 c.sheet.Paper.Columns, int .i64 c.sheet.Paper.Gap, int .i64 c.sheet.Paper.Scale, int .i64 c.sheet.Paper.Lang, slice aL c.placed.length aN, slice aw c.notes.length ax, slice ay aO az] 67), oI an (fun (c : ai) => bO cZ (Kd.int .i64) ay [] c.fills [] az 3), bx U [slice b3 b2.length b4] 28, tk (slice b3 b2.length b4) 2 34, bx bF [slice bG bD.length bH] 24, bx bI [slice bJ bE.length bM] 25, bx aJ [func (.func 22) [].toArray [pointer (some ⟨B, 0, none⟩), pointer (some ⟨U, 0, none⟩)].toArray] 1, bx aI [slice C m.length E] 57, bx aD [int .i64 a1.Width, int .i64 a1.Height, int .i64 a1.Columns, int .i64 a1.Gap, int .i64 a1.Scale, int .i64 a1.Lang] 23, oI an (fun (c : ai) => cI bg (tk (slice aw c.notes.length ax) 8 36)), tk (slice C m.length E) 3 64]) cp, fun hv fL => ?_⟩
 refine have fM:=Hp.emp fL;have fO:=Hp.pick 13 [0] fM z;?_
 cases H
 exact ⟨_, ⟨_, _, z, z, ⟨_, _, z, z, z⟩⟩, none, 0, _, (gT (gT cj co) c0), fO, (show ([] : List ap).length ≤ 0 from Nat.le_refl 0), (Dat.nil _ _ _), Own.nil, z⟩
 refine nK b5 H fun H=>wf (bN b5)<|ws<|fI _ _ _<|sr fun hx fP=>ld cp 3 jY z z z<|aK z<|aK z<|nl<|fP _ _ _<|wr<|?_
 refine ⟨.inr rfl, (aS :: ([] : List Nat)), _, _, rfl, Hp.marks (K := [bx B [oV an V] 58, oI an (fun (c : ai) => bx V [int .i64 c.sheet.Paper.Width, int .i64 c.sheet.Paper.Height, int .i64 c.sheet.Paper.Columns, int .i64 c.sheet.Paper.Gap, int .i64 c.sheet.Paper.Scale, int .i64 c.sheet.Paper.Lang, slice aL c.placed.length aN, slice aw c.notes.length ax, slice ay aO az] 67), oI an (fun (c : ai) => bO cZ (Kd.int .i64) ay [] c.fills [] az 3), bx U [slice b3 b2.length b4] 28, tk (slice b3 b2.length b4) 2 34, bx bF [slice bG bD.length bH] 24, bx bI [slice bJ bE.length bM] 25, bx aJ [func (.func 22) [].toArray [pointer (some ⟨B, 0, none⟩), pointer (some ⟨U, 0, none⟩)].toArray] 1, bx aI [slice C m.length E] 57, bx aD [int .i64 a1.Width, int .i64 a1.Height, int .i64 a1.Columns, int .i64 a1.Gap, int .i64 a1.Scale, int .i64 a1.Lang] 23, oI an (fun (c : ai) => cI bg (tk (slice aw c.notes.length ax) 8 36)), tk (slice C m.length E) 3 64]) cp, fun hy fQ => ?_⟩
 refine have fR:=Hp.pick 12 [4] fQ z;?_
 cases H
 exact ⟨_, ⟨_, _, z, z, ⟨_, _, z, z, z⟩⟩, b3, b4, _, (gT (gT cj co) c0), fR, fF, fG, fH, z⟩
 rcases j with _ | j
 refine ⟨_, rfl, LoopState.done, (some (Code.exit 0)), cW, _, (fun h => nomatch h), cX, fun fA b1 => ?_⟩
 refine cK _ _ _<|sr fun hz fS=>ld b1 2 ag1 z z z<|have fT:=Hp.oUp b1 10 z bi;have fU:=Hp.pick 13 [3, 7, 8, 10, 5, 12, 0, 1, 2, 4, 6, 9, 11] fT z;bK H fun b7 fV H=>ft (vs := [pointer (some ⟨B, 0, none⟩), pointer (some ⟨U, 0, none⟩)]) qj z z (fN fV fU (kE (fun _ ⟨o0, o1, o2, o3, o4, o5, o6, o7, _⟩ => ⟨o0, o1, o2, o3, o4, o6, o7, tv⟩) hO167) aV aW aY)<|?_
 rintro _ hA ⟨b8, b9, c1, c2, cq, fW, fX, fY, rfl⟩
 refine ⟨_, rfl, ?_⟩
 refine nl<|fS _ _ _<|sQ fun hB fZ=>sr fun hD f0=>ld cq 3 jY z z z<|q_len kH z<|gq z z<|nl<|f0 _ _ _<|dC (500 < (b7.length : Int)) (fun ca=>?_) fun ca=>?_
 refine yK ca H fun H=>wt (bY ca)<|sr fun hE f1=>aK z<|aK z<|nl<|f1 _ _ _<|wr<|?_
 refine ⟨.inr rfl, (aS :: ([] : List Nat)), _, _, rfl, Hp.marks (K := [bx B [oV an V] 58, oI an (fun (c : ai) => bx V [int .i64 c.sheet.Paper.Width, int .i64 c.sheet.Paper.Height, int .i64 c.sheet.Paper.Columns, int .i64 c.sheet.Paper.Gap, int .i64 c.sheet.Paper.Scale, int .i64 c.sheet.Paper.Lang, slice aL c.placed.length aN, slice aw c.notes.length ax, slice ay aO az] 67), oI an (fun (c : ai) => bO c1 (Kd.int .i64) ay [] c.fills [] az 3), bx U [slice b8 b7.length b9] 28, tk (slice b8 b7.length b9) 2 34, bx bF [slice bG bD.length bH] 24, bx bI [slice bJ bE.length bM] 25, bx aJ [func (.func 22) [].toArray [pointer (some ⟨B, 0, none⟩), pointer (some ⟨U, 0, none⟩)].toArray] 1, bx aI [slice C m.length E] 57, bx aD [int .i64 a1.Width, int .i64 a1.Height, int .i64 a1.Columns, int .i64 a1.Gap, int .i64 a1.Scale, int .i64 a1.Lang] 23, oI an (fun (c : ai) => cI bg (tk (slice aw c.notes.length ax) 8 36)), tk (slice C m.length E) 3 64]) cq, fun hF f2 => ?_⟩
 refine have f3:=Hp.emp f2;have f4:=Hp.pick 13 [0] f3 z;?_
 cases H
 exact ⟨_, ⟨_, _, z, z, ⟨_, _, z, z, z⟩⟩, none, 0, _, (gT (gT cj co) c2), f4, (show ([] : List ap).length ≤ 0 from Nat.le_refl 0), (Dat.nil _ _ _), Own.nil, z⟩
 refine nK ca H fun H=>wf (bN ca)<|ws<|fZ _ _ _<|sr fun hG f7=>ld cq 3 jY z z z<|aK z<|aK z<|nl<|f7 _ _ _<|wr<|?_
 refine ⟨.inr rfl, (aS :: ([] : List Nat)), _, _, rfl, Hp.marks (K := [bx B [oV an V] 58, oI an (fun (c : ai) => bx V [int .i64 c.sheet.Paper.Width, int .i64 c.sheet.Paper.Height, int .i64 c.sheet.Paper.Columns, int .i64 c.sheet.Paper.Gap, int .i64 c.sheet.Paper.Scale, int .i64 c.sheet.Paper.Lang, slice aL c.placed.length aN, slice aw c.notes.length ax, slice ay aO az] 67), oI an (fun (c : ai) => bO c1 (Kd.int .i64) ay [] c.fills [] az 3), bx U [slice b8 b7.length b9] 28, tk (slice b8 b7.length b9) 2 34, bx bF [slice bG bD.length bH] 24, bx bI [slice bJ bE.length bM] 25, bx aJ [func (.func 22) [].toArray [pointer (some ⟨B, 0, none⟩), pointer (some ⟨U, 0, none⟩)].toArray] 1, bx aI [slice C m.length E] 57, bx aD [int .i64 a1.Width, int .i64 a1.Height, int .i64 a1.Columns, int .i64 a1.Gap, int .i64 a1.Scale, int .i64 a1.Lang] 23, oI an (fun (c : ai) => cI bg (tk (slice aw c.notes.length ax) 8 36)), tk (slice C m.length E) 3 64]) cq, fun hH f8 => ?_⟩
 refine have f9:=Hp.pick 12 [4] f8 z;?_
 cases H
 exact ⟨_, ⟨_, _, z, z, ⟨_, _, z, z, z⟩⟩, b8, b9, _, (gT (gT cj co) c2), f9, fW, fX, fY, z⟩
 cases H
theorem ci {a1 a G L w} (H : bU a1 = some a) (hI : Hp G L w) :
    Calls Try.prog 12 [int .i64 a1].toArray w fun e w' => Hp G L w' ∧ e = .returned (agg [int .i64 a.Width, int .i64 a.Height, int .i64 a.Columns, int .i64 a.Gap, int .i64 a.Scale, int .i64 a.Lang].toArray) := by
 refine aw (N := 7) Try.func12 z z (Nat.le_of_ble_eq_true z)<|?_
 unfold bU at H
 refine sr fun k c=>bQ hI qG fun d l f=>nl<|c _ _ _<|sr fun m h=>mv z<|nB z z<|mv z<|cf (vs := [(0, int .i64 (aj (300 * a1))), (1, int .i64 30), (2, int .i64 a1), (4, int .i64 100)]) (cs := [int .i64 (aj (300 * a1)), int .i64 30, int .i64 a1, int .i64 0, int .i64 100, int .i64 0]) qG pl23 z z<|f5 f 0 k6 z z z z z z z fun n b=>nl<|h _ _ _<|wr<|have i:=gA (P := Try.prog) b 0 (cs := [int .i64 (aj (300 * a1)), int .i64 30, int .i64 a1, int .i64 0, int .i64 100, int .i64 0]) (g := d) (o := 0) k6 z z z;?_
 refine have j:=Hp.pick 1 [] b z;?_
 cases H
 exact rt ⟨_, _, _, z, z, i, z⟩ j
theorem cx {a G L w} (H : b8 = some a) (hI : Hp G L w) :
    Calls Try.prog 13 [].toArray w fun e w' => ∃ (b : Option Addr) (c : Nat) (G' : Gh), G ≤ G' ∧ Hp G' (tk (slice b a.length c) 8 36 :: L) w' ∧ a.length ≤ c ∧ Dat ah G' b a ∧ Own b c ∧ e = .returned (slice b a.length c) := by
 refine aw (N := 6) Try.func13 z z (Nat.le_of_ble_eq_true z)<|?_
 unfold b8 at H
 refine sr fun l d=>aK z<|nl<|d _ _ _<|sr fun m f=>cf (vs := [(0, int .i64 1), (4, int .i64 10)]) (cs := [int .i64 1, int .i64 0, int .i64 0, int .i64 0, int .i64 10, string (⟨#[]⟩ : ByteArray), bool false, bool false]) cP oz z z<|cf (vs := [(0, int .i64 2), (3, int .i64 12), (4, int .i64 10)]) (cs := [int .i64 2, int .i64 0, int .i64 0, int .i64 12, int .i64 10, string (⟨#[]⟩ : ByteArray), bool false, bool false]) cP oz z z<|cf (vs := [(0, int .i64 3), (3, int .i64 24), (4, int .i64 10)]) (cs := [int .i64 3, int .i64 0, int .i64 0, int .i64 24, int .i64 10, string (⟨#[]⟩ : ByteArray), bool false, bool false]) cP oz z z<|cf (vs := [(0, int .i64 4), (3, int .i64 36), (4, int .i64 10)]) (cs := [int .i64 4, int .i64 0, int .i64 0, int .i64 36, int .i64 10, string (⟨#[]⟩ : ByteArray), bool false, bool false]) cP oz z z<|?_
 refine eh hI (vs := [(0, agg [int .i64 1, int .i64 0, int .i64 0, int .i64 0, int .i64 10, string (⟨#[]⟩ : ByteArray), bool false, bool false].toArray), (1, agg [int .i64 2, int .i64 0, int .i64 0, int .i64 12, int .i64 10, string (⟨#[]⟩ : ByteArray), bool false, bool false].toArray), (2, agg [int .i64 3, int .i64 0, int .i64 0, int .i64 24, int .i64 10, string (⟨#[]⟩ : ByteArray), bool false, bool false].toArray), (3, agg [int .i64 4, int .i64 0, int .i64 0, int .i64 36, int .i64 10, string (⟨#[]⟩ : ByteArray), bool false, bool false].toArray)]) (cs := [int .i64 1, int .i64 0, int .i64 0, int .i64 0, int .i64 10, string (⟨#[]⟩ : ByteArray), bool false, bool false, int .i64 2, int .i64 0, int .i64 0, int .i64 12, int .i64 10, string (⟨#[]⟩ : ByteArray), bool false, bool false, int .i64 3, int .i64 0, int .i64 0, int .i64 24, int .i64 10, string (⟨#[]⟩ : ByteArray), bool false, bool false, int .i64 4, int .i64 0, int .i64 0, int .i64 36, int .i64 10, string (⟨#[]⟩ : ByteArray), bool false, bool false]) cA cP rfl (by decide) rfl (by kernel_rfl) (fun g o h => ?_)
 obtain ⟨p, i, j, k⟩ := Hp.publish (xs := ([(⟨1, 0, 0, 0, 10, (⟨#[]⟩ : ByteArray), false, false⟩ : ac), (⟨2, 0, 0, 12, 10, (⟨#[]⟩ : ByteArray), false, false⟩ : ac), (⟨3, 0, 0, 24, 10, (⟨#[]⟩ : ByteArray), false, false⟩ : ac), (⟨4, 0, 0, 36, 10, (⟨#[]⟩ : ByteArray), false, false⟩ : ac)] : List ac)) (n := 4) ah h ⟨[int .i64 1, int .i64 0, int .i64 0, int .i64 0, int .i64 10, string (⟨#[]⟩ : ByteArray), bool false, bool false], _, rfl, (aH (x := (⟨1, 0, 0, 0, 10, (⟨#[]⟩ : ByteArray), false, false⟩ : ac))), ⟨[int .i64 2, int .i64 0, int .i64 0, int .i64 12, int .i64 10, string (⟨#[]⟩ : ByteArray), bool false, bool false], _, rfl, (aH (x := (⟨2, 0, 0, 12, 10, (⟨#[]⟩ : ByteArray), false, false⟩ : ac))), ⟨[int .i64 3, int .i64 0, int .i64 0, int .i64 24, int .i64 10, string (⟨#[]⟩ : ByteArray), bool false, bool false], _, rfl, (aH (x := (⟨3, 0, 0, 24, 10, (⟨#[]⟩ : ByteArray), false, false⟩ : ac))), ⟨[int .i64 4, int .i64 0, int .i64 0, int .i64 36, int .i64 10, string (⟨#[]⟩ : ByteArray), bool false, bool false], _, rfl, (aH (x := (⟨4, 0, 0, 36, 10, (⟨#[]⟩ : ByteArray), false, false⟩ : ac))), rfl⟩⟩⟩⟩ rfl
 refine aK z<|nl<|f _ _ _<|wr<|?_
 cases H
 exact ⟨.inr z, z, _, ⟨_, _, z, z, z⟩, (some ⟨g, 0, none⟩), 4, _, i, j, (show ([(⟨1, 0, 0, 0, 10, (⟨#[]⟩ : ByteArray), false, false⟩ : ac), (⟨2, 0, 0, 12, 10, (⟨#[]⟩ : ByteArray), false, false⟩ : ac), (⟨3, 0, 0, 24, 10, (⟨#[]⟩ : ByteArray), false, false⟩ : ac), (⟨4, 0, 0, 36, 10, (⟨#[]⟩ : ByteArray), false, false⟩ : ac)] : List ac).length ≤ 4 from Nat.le_of_ble_eq_true z), k, (Own.mk _ _ _), z⟩
theorem ji {a1 a b d G L w} (H : e7 a1 a = some d) (hI : Hp G (bx b [int .i64 a] 3 :: L) w) :
    Calls Try.prog 29 [agg [int .i64 a1.Node, int .i64 a1.Table, int .i64 a1.X, int .i64 a1.Y, int .i64 a1.H, string a1.Text, bool a1.Head, bool a1.Note].toArray, pointer (some ⟨b, 0, none⟩)].toArray w fun e w' => Hp G (bx b [int .i64 a] 3 :: L) w' ∧ e = .returned (bool d) := by
 refine aw (N := 8) Try.func29 z z (Nat.le_of_ble_eq_true z)<|?_
 unfold e7 at H
 refine sr fun i f=>jW hI z z fun j k c=>aK z<|nl<|f _ _ _<|sr fun l g=>fa iC z<|ld c 0 bb z z z<|ld c 1 bb z z z<|ei z z<|aK z<|nl<|g _ _ _<|wr<|?_
 refine have h:=Hp.pick 2 [1] c z;?_
 cases H
 exact rt ⟨_, _, z, z, z⟩ h
theorem fc {a1 c h i d m G L w} (H : bM a1 c = some m) (hI : Hp G (bx d [int .i64 c] 3 :: L) w) (V : a1.length ≤ i) (u : Dat ah G h a1) :
    Calls Try.prog 47 [slice h a1.length i, func (.func 29) [].toArray [pointer (some ⟨d, 0, none⟩)].toArray].toArray w fun e w' => Hp G (bx d [int .i64 c] 3 :: L) w' ∧ e = .returned (int .i64 m) := by
 refine aw (N := 19) Try.func47 z z (Nat.le_of_ble_eq_true z)<|?_
 unfold bM at H
 refine sr fun W x=>aK z<|nl<|x _ _ _<|sQ fun Z y=>sr fun ab A=>mv z<|q_len dA z<|mv z<|nl<|A _ _ _<|wb<|bK H fun k hC H=>aP (Q := fun e r ds w => match (generalizing := false) k with | (Sum.inl n) => e = .ret ∧ ds = [] ∧ Has [(4, int .i64 n)] r ∧ Hp G (bx d [int .i64 c] 3 :: L) w ∧ True | (Sum.inr _) => e = .exit 0 ∧ ds = [] ∧ Has [] r ∧ Hp G (bx d [int .i64 c] 3 :: L) w ∧ True) ?_ ?_
 refine bH fun I t=>?_
 refine bo.partial_correctness a1 c (fun a o => ∀ (r : Rg) (w : World), Has [(0, slice h a1.length i), (1, func (.func 29) [].toArray [pointer (some ⟨d, 0, none⟩)].toArray), (7, int .i64 (a1.length : Int)), (8, int .i64 a)] r → Hp G (bx d [int .i64 c] 3 :: L) w → o = k → I r [] w) ?_ 0 _ hC _ _ ⟨rfl, rfl, rfl, rfl, tv⟩ hI rfl
 intro _ ih a o H r ac b l ho
 rw [ho] at H; clear ho
 rw [b.eq]; clear b
 refine t _ _ _<|sr fun ad B=>cZ z z<|nl<|B _ _ _<|sQ fun ae C=>dC (a < (a1.length : Int)) (fun f=>?_) fun f=>?_
 refine yK f H fun H=>wt (bY f)<|ws<|C _ _ _<|sQ fun af D=>wb<|sr fun ag E=>mv z<|aK z<|nl<|E _ _ _<|sr fun ai F=>mv z<|mv z<|?_
 refine mv z<|iK H fun⟨p, q⟩H=>?_
 obtain ⟨aj, ak, J, K, al, M⟩ := Dat.get u aa (a) p q
 obtain ⟨rfl⟩ := aF K
 refine bL cA z J z p q<|fq l dx z (cs := [int .i64 ((a1.getD (Int.toNat a) aa).Node), int .i64 ((a1.getD (Int.toNat a) aa).Table), int .i64 ((a1.getD (Int.toNat a) aa).X), int .i64 ((a1.getD (Int.toNat a) aa).Y), int .i64 ((a1.getD (Int.toNat a) aa).H), string ((a1.getD (Int.toNat a) aa).Text), bool ((a1.getD (Int.toNat a) aa).Head), bool ((a1.getD (Int.toNat a) aa).Note)]) z (fun j v hv => gR.cel _ _ (M j v hv))<|bK H fun O P H=>cv bo29 (ji (a1 := (a1.getD (Int.toNat a) aa)) P l) z z fun am s=>nl<|F _ _ _<|dC (O = true) (fun g=>?_) fun g=>?_
 refine yK g H fun H=>wt (vY g)<|sr fun an R=>mv z<|aK z<|nl<|R _ _ _<|wr<|?_
 cases H
 exact ⟨z, z, ⟨z, tv⟩, s, tv⟩
 exact nK g H fun H=>wf (vN g)<|ws<|D _ _ _<|aA<|bm z z<|mv z<|nl<|ih _ _ H _ _ ⟨z, z, z, z, tv⟩ s z
 refine nK f H fun H=>wf (bN f)<|wx<|?_
 cases H
 exact ⟨z, z, trivial, l, tv⟩
 rcases k with n | _
 rintro e r ds ao ⟨rfl, rfl, b, S, _⟩
 rw [b.eq]; clear b
 cases H
 exact rt ⟨_, _, z, z, z⟩ S
 rintro e r ds ap ⟨rfl, rfl, b, T, _⟩
 rw [b.eq]; clear b
 refine y _ _ _<|sr fun aq U=>aK z<|nl<|U _ _ _<|wr<|?_
 cases H
 exact rt ⟨_, _, z, z, z⟩ T
theorem eR {a1 a c d b f G L w} (H : bD a1 a = some f) (hI : Hp G (bx b [int .i64 a] 3 :: L) w) (g : a1.length ≤ d) (h : Dat ah G c a1) :
    Calls Try.prog 28 [slice c a1.length d, func (.func 29) [].toArray [pointer (some ⟨b, 0, none⟩)].toArray].toArray w fun e w' => Hp G (bx b [int .i64 a] 3 :: L) w' ∧ e = .returned (bool f) := by
 refine aw (N := 9) Try.func28 z z (Nat.le_of_ble_eq_true z)<|?_
 unfold bD at H
 refine sr fun m i=>aK z<|nl<|i _ _ _<|sr fun n j=>mv z<|mv z<|bK H fun o k H=>cv bo47 (fc k hI g h) z z fun p l=>gS z z<|aK z<|nl<|j _ _ _<|wr<|?_
 cases H
 exact rt ⟨_, _, z, z, z⟩ l
theorem iQ {a1 a6 g h m n G L w} (H : fY a1 a6 = some (m, n)) (hI : Hp G L w) (ah : a1.length ≤ h) (x : Dat br G g a1) :
    Calls Try.prog 14 [slice g a1.length h, int .i64 a6].toArray w fun e w' => Hp G L w' ∧ e = .returned (tuple [int .i64 m, bool n].toArray) := by
 refine aw (N := 21) Try.func14 z z (Nat.le_of_ble_eq_true z)<|?_
 unfold fY at H
 refine sr fun K7 y=>jW hI z z fun c aj A=>aK z<|aK z<|nl<|y _ _ _<|sQ fun ak B=>sr fun al C=>mv z<|q_len kH z<|mv z<|nl<|C _ _ _<|wb<|?_
 refine bK H fun i hC H=>aP (Q := fun e r ds w => match (generalizing := false) i with | (Sum.inl p) => e = .ret ∧ ds = [] ∧ Has [(4, int .i64 p), (5, bool true)] r ∧ Hp G (bx c [int .i64 a6] 3 :: L) w ∧ True | (Sum.inr _) => e = .exit 0 ∧ ds = [] ∧ Has [] r ∧ Hp G (bx c [int .i64 a6] 3 :: L) w ∧ True) ?_ ?_
 refine bH fun I u=>?_
 refine eH.partial_correctness a1 a6 (fun b o => ∀ (r : Rg) (w : World), Has [(3, pointer (some ⟨c, 0, none⟩)), (8, slice g a1.length h), (9, int .i64 (a1.length : Int)), (10, int .i64 b)] r → Hp G (bx c [int .i64 a6] 3 :: L) w → o = i → I r [] w) ?_ 0 _ hC _ _ ⟨rfl, rfl, rfl, rfl, tv⟩ A rfl
 intro _ ih b o H r am a k ho
 rw [ho] at H; clear ho
 rw [a.eq]; clear a
 refine u _ _ _<|sr fun an D=>cZ z z<|nl<|D _ _ _<|sQ fun ao E=>dC (b < (a1.length : Int)) (fun d=>?_) fun d=>?_
 refine yK d H fun H=>wt (bY d)<|ws<|E _ _ _<|sQ fun ap F=>wb<|sr fun aq J=>iK H fun⟨q, s⟩H=>?_
 obtain ⟨ar, au, K, M, ax, O⟩ := Dat.get x av (b) q s
 obtain ⟨P, R, S, T, rfl⟩ := ew M
 refine bL ko z K z q s<|fq k kC z (cs := [int .i64 ((a1.getD (Int.toNat b) av).Number), slice P ((a1.getD (Int.toNat b) av).Slices).length R]) z (fun j v hv => gR.cel _ _ (O j v hv))<|bQ k ib fun ay az U=>f5 U 0 kC z z z z z z z fun aB t=>nl<|J _ _ _<|sr fun aC V=>fa jf z<|ld t 0 cB z z z<|py (vs := []) (us := [pointer (some ⟨c, 0, none⟩)]) z z<|have W:=Hp.pick 2 [1, 0] t z;bK H fun X Y H=>cv bo28 (eR (a1 := (a1.getD (Int.toNat b) av).Slices) Y W S T) z z fun aD l=>nl<|?_
 refine V _ _ _<|dC (X = true) (fun f=>?_) fun f=>?_
 refine yK f H fun H=>wt (vY f)<|sr fun aE Z=>fa nh z<|ld l 1 bb z z z<|aK z<|aK z<|nl<|Z _ _ _<|wr<|have aa:=Hp.pick 2 [0] l z;?_
 cases H
 exact ⟨z, z, ⟨z, z, tv⟩, aa, tv⟩
 exact nK f H fun H=>wf (vN f)<|ws<|F _ _ _<|aA<|bm z z<|mv z<|nl<|have ab:=Hp.pick 2 [0] l z;ih _ _ H _ _ ⟨z, z, z, z, tv⟩ ab z
 refine nK d H fun H=>wf (bN d)<|wx<|?_
 cases H
 exact ⟨z, z, trivial, k, tv⟩
 rcases i with p | _
 rintro e r ds aF ⟨rfl, rfl, a, ac, _⟩
 rw [a.eq]; clear a
 refine have ad:=Hp.pick 1 [] ac z;?_
 cases H
 exact rt ⟨_, _, z, z, ⟨_, _, z, z, z⟩⟩ ad
 rintro e r ds aG ⟨rfl, rfl, a, ae, _⟩
 rw [a.eq]; clear a
 refine B _ _ _<|sr fun aH af=>aK z<|aK z<|nl<|af _ _ _<|wr<|have ag:=Hp.pick 1 [] ae z;?_
 cases H
 exact rt ⟨_, _, z, z, ⟨_, _, z, z, z⟩⟩ ag
theorem gB {a1 a6 h i k l n G L w} (H : cL a1 a6 = some n) (hI : Hp G L w) (af : a1.length ≤ i) (A : Dat ah G h a1) (ag : a6.length ≤ l) (B : Dat ah G k a6) :
    Calls Try.prog 30 [slice h a1.length i, slice k a6.length l].toArray w fun e w' => Hp G L w' ∧ e = .returned (bool n) := by
 refine aw (N := 26) Try.func30 z z (Nat.le_of_ble_eq_true z)<|?_
 unfold cL at H
 refine sr fun ai C=>aK z<|nl<|C _ _ _<|sQ fun aj D=>sr fun ak E=>mv z<|q_len dA z<|mv z<|q_len dA z<|lx z z<|nl<|E _ _ _<|dC (¬ (a1.length : Int) = (a6.length : Int)) (fun c=>?_) fun c=>?_
 refine yK c H fun H=>wt (bY c)<|sr fun al F=>aK z<|nl<|F _ _ _<|wr<|?_
 cases H
 exact rt ⟨_, _, z, z, z⟩ hI
 refine nK c H fun H=>wf (bN c)<|ws<|D _ _ _<|sQ fun am J=>sr fun an K=>aK z<|nl<|K _ _ _<|wb<|bK H fun m hC H=>aP (Q := fun e r ds w => match (generalizing := false) m with | (Sum.inl _) => e = .ret ∧ ds = [] ∧ Has [(4, bool false)] r ∧ Hp G (L) w ∧ True | (Sum.inr _) => e = .exit 0 ∧ ds = [] ∧ Has [] r ∧ Hp G (L) w ∧ True) ?_ ?_
 refine bH fun I y=>?_
 refine cb.partial_correctness a1 a6 (fun a o => ∀ (r : Rg) (w : World), Has [(0, slice h a1.length i), (1, slice k a6.length l), (5, int .i64 a)] r → Hp G (L) w → o = m → I r [] w) ?_ 0 _ hC _ _ ⟨rfl, rfl, rfl, tv⟩ hI rfl
 intro _ ih a o H r ao b p ho
 rw [ho] at H; clear ho
 rw [b.eq]; clear b
 refine y _ _ _<|sQ fun ap M=>sr fun aq O=>mv z<|mv z<|q_len dA z<|cZ z z<|nl<|O _ _ _<|dC (a < (a1.length : Int)) (fun d=>?_) fun d=>?_
 refine yK d H fun H=>wt (bY d)<|ws<|M _ _ _<|sQ fun ar P=>wb<|sQ fun au R=>?_
 refine ie dJ (by kernel_rfl) ?_
 refine have g:=p.drew;wq (mv z bc) z<|wq (mv z bc) z<|iK H fun⟨s, t⟩H=>?_
 obtain ⟨av, ax, S, T, ay, U⟩ := Dat.get A aa (a) s t
 obtain ⟨rfl⟩ := aF T
 refine wq (bL cA z S z s t bc) z<|wq (fq g dx z (cs := [int .i64 ((a1.getD (Int.toNat a) aa).Node), int .i64 ((a1.getD (Int.toNat a) aa).Table), int .i64 ((a1.getD (Int.toNat a) aa).X), int .i64 ((a1.getD (Int.toNat a) aa).Y), int .i64 ((a1.getD (Int.toNat a) aa).H), string ((a1.getD (Int.toNat a) aa).Text), bool ((a1.getD (Int.toNat a) aa).Head), bool ((a1.getD (Int.toNat a) aa).Note)]) z (fun j v hv => gR.cel _ _ (U j v hv)) bc) z<|wq (mv z bc) z<|wq (mv z bc) z<|iK H fun⟨u, x⟩H=>?_
 obtain ⟨az, aB, V, W, aC, Z⟩ := Dat.get B aa (a) u x
 obtain ⟨rfl⟩ := aF W
 refine wq (bL cA z V z u x bc) z<|wq (fq g dx z (cs := [int .i64 ((a6.getD (Int.toNat a) aa).Node), int .i64 ((a6.getD (Int.toNat a) aa).Table), int .i64 ((a6.getD (Int.toNat a) aa).X), int .i64 ((a6.getD (Int.toNat a) aa).Y), int .i64 ((a6.getD (Int.toNat a) aa).H), string ((a6.getD (Int.toNat a) aa).Text), bool ((a6.getD (Int.toNat a) aa).Head), bool ((a6.getD (Int.toNat a) aa).Note)]) z (fun j v hv => gR.cel _ _ (Z j v hv)) bc) z<|wq (ou (q := (a1.getD (Int.toNat a) aa) = (a6.getD (Int.toNat a) aa)) z z la (lm (a1.getD (Int.toNat a) aa) (a6.getD (Int.toNat a) aa)) (k8 _ _) bc) z<|iM<|R _ _ _<|dC (¬ (a1.getD (Int.toNat a) aa) = (a6.getD (Int.toNat a) aa)) (fun f=>?_) fun f=>?_
 refine yK f H fun H=>wt (bY f)<|sr fun aD ab=>aK z<|nl<|ab _ _ _<|wr<|?_
 cases H
 exact ⟨z, z, ⟨z, tv⟩, g, tv⟩
 exact nK f H fun H=>wf (bN f)<|ws<|P _ _ _<|aA<|mv z<|bm z z<|aK z<|nl<|ih _ _ H _ _ ⟨z, z, z, tv⟩ g z
 refine nK d H fun H=>wf (bN d)<|wx<|?_
 cases H
 exact ⟨z, z, trivial, p, tv⟩
 rcases m with _ | _
 rintro e r ds aE ⟨rfl, rfl, b, ac, _⟩
 rw [b.eq]; clear b
 cases H
 exact rt ⟨_, _, z, z, z⟩ ac
 rintro e r ds aG ⟨rfl, rfl, b, ad, _⟩
 rw [b.eq]; clear b
 refine J _ _ _<|sr fun aH ae=>aK z<|nl<|ae _ _ _<|wr<|?_
 cases H
 exact rt ⟨_, _, z, z, z⟩ ad
theorem eM {a1 a6 h i j k q G L w} (H : da a1 a6 = some q) (hI : Hp G L w) (aH : a1.length ≤ i) (s : Dat br G h a1) (aI : a6.length ≤ k) (t : Dat br G j a6) :
    Calls Try.prog 15 [slice h a1.length i, slice j a6.length k].toArray w fun e w' => Hp G L w' ∧ e = .returned (bool q) := by
 refine aw (N := 42) Try.func15 z z (Nat.le_of_ble_eq_true z)<|?_
 unfold da at H
 refine sr fun aJ M=>aK z<|nl<|M _ _ _<|sQ fun aL O=>sr fun aM P=>mv z<|q_len kH z<|mv z<|q_len kH z<|lx z z<|nl<|P _ _ _<|dC (¬ (a1.length : Int) = (a6.length : Int)) (fun d=>?_) fun d=>?_
 refine yK d H fun H=>wt (bY d)<|sr fun aN R=>aK z<|nl<|R _ _ _<|wr<|?_
 cases H
 exact rt ⟨_, _, z, z, z⟩ hI
 refine nK d H fun H=>wf (bN d)<|ws<|O _ _ _<|sQ fun aO S=>sr fun aQ T=>aK z<|nl<|T _ _ _<|wb<|bK H fun l hC H=>aP (Q := fun e r ds w => match (generalizing := false) l with | (Sum.inl _) => e = .ret ∧ ds = [] ∧ Has [(4, bool false)] r ∧ Hp G (L) w ∧ True | (Sum.inr _) => e = .exit 0 ∧ ds = [] ∧ Has [] r ∧ Hp G (L) w ∧ True) ?_ ?_
 refine bH fun I K=>?_
 refine de.partial_correctness a1 a6 (fun b o => ∀ (r : Rg) (w : World), Has [(0, slice h a1.length i), (1, slice j a6.length k), (5, int .i64 b)] r → Hp G (L) w → o = l → I r [] w) ?_ 0 _ hC _ _ ⟨rfl, rfl, rfl, tv⟩ hI rfl
 intro _ ih b o H r aR c m ho
 rw [ho] at H; clear ho
 rw [c.eq]; clear c
 refine K _ _ _<|sQ fun aS U=>sr fun aT V=>mv z<|mv z<|q_len kH z<|cZ z z<|nl<|V _ _ _<|dC (b < (a1.length : Int)) (fun f=>?_) fun f=>?_
 refine yK f H fun H=>wt (bY f)<|ws<|U _ _ _<|sQ fun aU W=>wb<|sQ fun aV X=>bK H fun u hC H=>jc .normal m [(0, slice h a1.length i), (1, slice j a6.length k), (5, int .i64 b), (41, bool u)] ?_ fun _ aW x=>?_
 refine have H:=hC;?_
 refine jq m dJ (by kernel_rfl) ?_
 refine cw (fun Gq w hGq Iq=>mv z bc) z z<|cw (fun Gq w hGq Iq=>mv z bc) z z<|iK H fun⟨y, A⟩H=>?_
 obtain ⟨aX, aY, Y, Z, aZ, aa⟩ := Dat.get s av (b) y A
 obtain ⟨a0, a2, a3, a4, rfl⟩ := ew Z
 refine cw (fun Gq w hGq Iq=>bL ko z Y z y A bc) z z<|cw (fun Gq w hGq Iq=>eS nh z z bc) z z<|cw (fun Gq w hGq Iq=>et Iq bb z (hGq.cel _ _ (aa 0 _ z)) bc) z z<|cw (fun Gq w hGq Iq=>mv z bc) z z<|cw (fun Gq w hGq Iq=>mv z bc) z z<|iK H fun⟨B, C⟩H=>?_
 obtain ⟨a5, a7, ab, ac, a8, ad⟩ := Dat.get t av (b) B C
 obtain ⟨a9, ba, bd, be, rfl⟩ := ew ac
 refine cw (fun Gq w hGq Iq=>bL ko z ab z B C bc) z z<|cw (fun Gq w hGq Iq=>eS nh z z bc) z z<|cw (fun Gq w hGq Iq=>et Iq bb z (hGq.cel _ _ (ad 0 _ z)) bc) z z<|cw (fun Gq w hGq Iq=>lx z z bc) z z<|cw (fun Gq w hGq Iq=>mv z bc) z z<|dC (¬ ((a1.getD (Int.toNat b) av).Number) = ((a6.getD (Int.toNat b) av).Number)) (fun a=>?_) fun a=>?_
 refine yK a H fun H=>wp (al z z z (bY a) z)<|wp (al z z z (bY a) z)<|wp (al z z z (bY a) z)<|wp (al z z z (bY a) z)<|wp (al z z z (bY a) z)<|wp (al z z z (bY a) z)<|wp (al z z z (bY a) z)<|wp (al z z z (bY a) z)<|wp (al z z z (bY a) z)<|wp (al z z z (bY a) z)<|wp (al z z z (bY a) z)<|wp (al z z z (bY a) z)<|cw (fun Gq w hGq Iq=>cY (bY a) z bc) z z<|?_
 refine wz fun ae af n p=>?_
 cases H
 exact je ⟨z, z, z, z, tv⟩ (Hp.low n p)
 refine nK a H fun H=>cw (fun Gq w hGq Iq=>mv (hw:=gY z z z (bN a)) z bc) z z<|cw (fun Gq w hGq Iq=>mv (hw:=gY z z z (bN a)) z bc) z z<|iK H fun⟨D, E⟩H=>?_
 obtain ⟨bf, bg, ag, ah, bh, ai⟩ := Dat.get s av (b) D E
 obtain ⟨aj, ak, am, an, rfl⟩ := ew ah
 refine cw (fun Gq w hGq Iq=>bL (hw:=gY z z z (bN a)) ko z ag z D E bc) z z<|cw (fun Gq w hGq Iq=>eS (hw:=gY z z z (bN a)) jf z z bc) z z<|cw (fun Gq w hGq Iq=>et (hw:=gY z z z (bN a)) Iq cB z (hGq.cel _ _ (ai 1 _ z)) bc) z z<|cw (fun Gq w hGq Iq=>mv (hw:=gY z z z (bN a)) z bc) z z<|cw (fun Gq w hGq Iq=>mv (hw:=gY z z z (bN a)) z bc) z z<|iK H fun⟨F, J⟩H=>?_
 obtain ⟨bi, bj, ao, ap, bk, aq⟩ := Dat.get t av (b) F J
 obtain ⟨ar, au, ax, ay, rfl⟩ := ew ap
 refine cw (fun Gq w hGq Iq=>bL (hw:=gY z z z (bN a)) ko z ao z F J bc) z z<|cw (fun Gq w hGq Iq=>eS (hw:=gY z z z (bN a)) jf z z bc) z z<|cw (fun Gq w hGq Iq=>et (hw:=gY z z z (bN a)) Iq cB z (hGq.cel _ _ (aq 1 _ z)) bc) z z<|bK H fun az aB H=>wk (vs := [slice aj ((a1.getD (Int.toNat b) av).Slices).length ak, slice ar ((a6.getD (Int.toNat b) av).Slices).length au]) (v := bool az) bo30 z z (fun Gq w hGq Iq => ?_) ?_ (hw := gY z z z (nA a))
 refine Calls.mono (gB (a1 := (a1.getD (Int.toNat b) av).Slices) (a6 := (a6.getD (Int.toNat b) av).Slices) aB Iq am (Dat.mono hGq an) ax (Dat.mono hGq ay))<|?_
 rintro _ w2 ⟨I2, rfl⟩
 exact ⟨z, _, hGq, I2⟩
 refine cw (fun Gq w hGq Iq=>bV (hw:=gY z z z (bN a)) z bc) z z<|cw (fun Gq w hGq Iq=>dm (bN a) z bc) z z<|wz fun ae af n p=>?_
 cases H
 exact je ⟨z, z, z, z, tv⟩ (Hp.low n p)
 refine X _ _ _<|dC (u = true) (fun g=>?_) fun g=>?_
 refine yK g H fun H=>wt (vY g)<|sr fun bn aD=>aK z<|nl<|aD _ _ _<|wr<|?_
 cases H
 exact ⟨z, z, ⟨z, tv⟩, x, tv⟩
 exact nK g H fun H=>wf (vN g)<|ws<|W _ _ _<|aA<|mv z<|bm z z<|aK z<|nl<|ih _ _ H _ _ ⟨z, z, z, tv⟩ x z
 refine nK f H fun H=>wf (bN f)<|wx<|?_
 cases H
 exact ⟨z, z, trivial, m, tv⟩
 rcases l with _ | _
 rintro e r ds bo ⟨rfl, rfl, c, aE, _⟩
 rw [c.eq]; clear c
 cases H
 exact rt ⟨_, _, z, z, z⟩ aE
 rintro e r ds bp ⟨rfl, rfl, c, aF, _⟩
 rw [c.eq]; clear c
 refine S _ _ _<|sr fun bq aG=>aK z<|nl<|aG _ _ _<|wr<|?_
 cases H
 exact rt ⟨_, _, z, z, z⟩ aF
theorem aV {a1 b a3 a G L w} (H : aJ a1 b a3 = some a) (hI : Hp G L w) :
    Calls Try.prog 16 [int .i64 a1, int .i64 b, int .i64 a3].toArray w fun e w' => Hp G L w' ∧ e = .returned (agg [int .i64 a.Node, int .i64 a.Table, int .i64 a.X, int .i64 a.Y, int .i64 a.H, string a.Text, bool a.Head, bool a.Note].toArray) := by
 refine aw (N := 11) Try.func16 z z (Nat.le_of_ble_eq_true z)<|?_
 unfold aJ at H
 refine sr fun l d=>bQ hI cP fun f m h=>nl<|d _ _ _<|sr fun n i=>mv z<|mv z<|mv z<|cf (vs := [(0, int .i64 a1), (2, int .i64 b), (3, int .i64 a3), (4, int .i64 10)]) (cs := [int .i64 a1, int .i64 0, int .i64 b, int .i64 a3, int .i64 10, string (⟨#[]⟩ : ByteArray), bool false, bool false]) cP oz z z<|f5 h 0 dx z z z z z z z fun p c=>nl<|i _ _ _<|wr<|have j:=gA (P := Try.prog) c 0 (cs := [int .i64 a1, int .i64 0, int .i64 b, int .i64 a3, int .i64 10, string (⟨#[]⟩ : ByteArray), bool false, bool false]) (g := f) (o := 0) dx z z z;?_
 refine have k:=Hp.pick 1 [] c z;?_
 cases H
 exact rt ⟨_, _, _, z, z, j, z⟩ k
end Go.Proofs.Ytlcfemplcaejgaa.LG
