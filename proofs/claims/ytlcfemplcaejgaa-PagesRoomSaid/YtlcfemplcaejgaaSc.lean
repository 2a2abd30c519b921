/-
  The walks: each function computes its plain function: printed by a program out of the translation.
-/
import Derived.Test.YtlcfemplcaejgaaSb
set_option linter.unusedVariables false
set_option linter.unusedSimpArgs false
set_option maxRecDepth 100000
namespace Go.Proofs.Ytlcfemplcaejgaa.LG
open Go Go.LG Go.RowKit Go.Value
set_option maxHeartbeats 20000000
theorem fG {a3 : ai} {a E F q A4 c5 U V R ad S af ak} {W : ai} {G L w} (H : ce a3 a E F = some W) (hI : Hp G (bx q [int .i64 a3.sheet.Paper.Width, int .i64 a3.sheet.Paper.Height, int .i64 a3.sheet.Paper.Columns, int .i64 a3.sheet.Paper.Gap, int .i64 a3.sheet.Paper.Scale, int .i64 a3.sheet.Paper.Lang, slice A4 a3.placed.length c5, slice U a3.notes.length V, slice R ad S] 67 :: tk (slice A4 a3.placed.length c5) 8 36 :: tk (slice U a3.notes.length V) 8 36 :: bO G (Kd.int .i64) R [] a3.fills [] S 3 :: L) w) (aX : a3.placed.length ≤ c5) (aY : Dat ah G A4 a3.placed) (aZ : Own A4 c5) (a0 : a3.notes.length ≤ V) (a1 : Dat ah G U a3.notes) (a2 : Own U V) (aQ : a3.fills.length = ad) (a4 : Mw R R ([] : List Int).length ad S S 1) (bD : a.length ≤ ak) (a6 : Dat ah G af a) :
    Calls Try.prog 46 [pointer (some ⟨q, 0, none⟩), slice af a.length ak, int .i64 E, int .i64 F].toArray w fun e w' => ∃ (ay : Option Addr) (az : Nat) (aB : Option Addr) (aC : Nat) (aD : Option Addr) (aI : Nat) (aE : Nat) (G' : Gh), G ≤ G' ∧ Hp G' (bx q [int .i64 W.sheet.Paper.Width, int .i64 W.sheet.Paper.Height, int .i64 W.sheet.Paper.Columns, int .i64 W.sheet.Paper.Gap, int .i64 W.sheet.Paper.Scale, int .i64 W.sheet.Paper.Lang, slice ay W.placed.length az, slice aB W.notes.length aC, slice aD aI aE] 67 :: tk (slice ay W.placed.length az) 8 36 :: tk (slice aB W.notes.length aC) 8 36 :: bO G' (Kd.int .i64) aD [] W.fills [] aE 3 :: L) w' ∧ W.placed.length ≤ az ∧ Dat ah G' ay W.placed ∧ Own ay az ∧ W.notes.length ≤ aC ∧ Dat ah G' aB W.notes ∧ Own aB aC ∧ W.fills.length = aI ∧ Mw aD aD ([] : List Int).length aI aE aE 1 ∧ e = .returned (tuple [].toArray) := by
 refine aw (N := 59) Try.func46 z z (Nat.le_of_ble_eq_true z)<|?_
 unfold ce at H
 refine sQ fun bE a7=>bK H fun C a8 H=>?_
 refine aM [0, 1, 3, 7, 15, 31, 0, 64, 192, 448, 960, 0, 2048, 6144, 14336, 30720, 63488, 131008, 262143, 524287] (fun D r w => (∃ (G' : Gh), G ≤ G' ∧ ag [(0, pointer (some ⟨q, 0, none⟩)), (1, slice af a.length ak), (2, int .i64 E), (3, int .i64 F)] [] [(0, 11, pointer (some ⟨q, 0, none⟩)), (1, 12, pointer (some ⟨q, 0, none⟩)), (2, 13, pointer (some ⟨q, 8, none⟩)), (3, 14, slice R ad S), (4, 15, int .i64 (a3.fills.length : Int)), (5, 16, int .i64 (aj ((a3.fills.length : Int) - 1))), (6, 17, pointer (some ⟨q, 0, none⟩)), (7, 18, pointer (some ⟨q, 0, none⟩)), (8, 19, pointer (some ⟨q, 0, none⟩)), (9, 20, agg [int .i64 a3.sheet.Paper.Width, int .i64 a3.sheet.Paper.Height, int .i64 a3.sheet.Paper.Columns, int .i64 a3.sheet.Paper.Gap, int .i64 a3.sheet.Paper.Scale, int .i64 a3.sheet.Paper.Lang].toArray), (10, 21, int .i64 C), (11, 22, pointer (some ⟨q, 0, none⟩)), (12, 23, pointer (some ⟨q, 0, none⟩)), (13, 24, pointer (some ⟨q, 0, none⟩)), (14, 25, pointer (some ⟨q, 0, none⟩)), (15, 26, pointer (some ⟨q, 3, none⟩)), (16, 27, int .i64 a3.sheet.Paper.Gap), (17, 28, int .i64 (aj (C + a3.sheet.Paper.Gap))), (18, 29, int .i64 (aj ((aj ((a3.fills.length : Int) - 1)) * (aj (C + a3.sheet.Paper.Gap))))), (19, 8, int .i64 (aj ((aj ((a3.fills.length : Int) - 1)) * (aj (C + a3.sheet.Paper.Gap)))))] D r ∧ Hp G' (bx q [int .i64 a3.sheet.Paper.Width, int .i64 a3.sheet.Paper.Height, int .i64 a3.sheet.Paper.Columns, int .i64 a3.sheet.Paper.Gap, int .i64 a3.sheet.Paper.Scale, int .i64 a3.sheet.Paper.Lang, slice A4 a3.placed.length c5, slice U a3.notes.length V, slice R ad S] 67 :: tk (slice A4 a3.placed.length c5) 8 36 :: tk (slice U a3.notes.length V) 8 36 :: bO G (Kd.int .i64) R [] a3.fills [] S 3 :: L) w)) dJ z z ?_ ?_ ?_
 exact ⟨_, Gh.le_refl _, ag.start ⟨z, z, z, z, tv⟩ trivial, hI.drew⟩
 refine ⟨?_, ?_, ?_, ?_, ?_, ?_, ?_, ?_, ?_, ?_, ?_, ?_, ?_, ?_, ?_, ?_, ?_, ?_, ?_, ?_, tv⟩
 rintro D r T ⟨P, t, i, u⟩ d f p
 obtain ⟨B, rfl⟩ := Has.ex (cC (i.ins.get 0 rfl) cN)
 exact mv z<|nl ⟨z, ⟨_, t, (ag.step i d z z z z), u⟩⟩
 rintro D r T ⟨P, t, i, u⟩ d f p
 obtain ⟨B, rfl⟩ := Has.ex (cC (i.get 0 rfl (f 0 rfl)) cN)
 exact e5 z<|nl ⟨z, ⟨_, t, (ag.step i d z z z z), u⟩⟩
 rintro D r T ⟨P, t, i, u⟩ d f p
 obtain ⟨B, rfl⟩ := Has.ex (cC (i.get 1 rfl (f 1 rfl)) cN)
 exact fa gF z<|nl ⟨z, ⟨_, t, (ag.step i d z z z z), u⟩⟩
 rintro D r T ⟨P, t, i, u⟩ d f p
 obtain ⟨B, rfl⟩ := Has.ex (cC (i.get 2 rfl (f 2 rfl)) cN)
 exact ld u 0 k4 z z z<|nl ⟨z, ⟨_, t, (ag.step i d z z z z), u⟩⟩
 rintro D r T ⟨P, t, i, u⟩ d f p
 obtain ⟨B, rfl⟩ := Has.ex (cC (i.get 3 rfl (f 3 rfl)) cN)
 exact gC l6 z aQ<|nl ⟨z, ⟨_, t, (ag.step i d z z z z), u⟩⟩
 rintro D r T ⟨P, t, i, u⟩ d f p
 obtain ⟨B, rfl⟩ := Has.ex (cC (i.get 4 rfl (f 4 rfl)) cN)
 exact b6 z z<|nl ⟨z, ⟨_, t, (ag.step i d z z z z), u⟩⟩
 rintro D r T ⟨P, t, i, u⟩ d f p
 obtain ⟨B, rfl⟩ := Has.ex (cC (i.ins.get 0 rfl) cN)
 exact mv z<|nl ⟨z, ⟨_, t, (ag.step i d z z z z), u⟩⟩
 rintro D r T ⟨P, t, i, u⟩ d f p
 obtain ⟨B, rfl⟩ := Has.ex (cC (i.get 6 rfl (f 6 rfl)) cN)
 exact e5 z<|nl ⟨z, ⟨_, t, (ag.step i d z z z z), u⟩⟩
 rintro D r T ⟨P, t, i, u⟩ d f p
 obtain ⟨B, rfl⟩ := Has.ex (cC (i.get 7 rfl (f 7 rfl)) cN)
 exact fa iz z<|nl ⟨z, ⟨_, t, (ag.step i d z z z z), u⟩⟩
 rintro D r T ⟨P, t, i, u⟩ d f p
 obtain ⟨B, rfl⟩ := Has.ex (cC (i.get 8 rfl (f 8 rfl)) cN)
 exact gg u 0 px z z z z<|nl ⟨z, ⟨_, t, (ag.step i d z z z z), u⟩⟩
 rintro D r T ⟨P, t, i, u⟩ d f p
 obtain ⟨B, rfl⟩ := Has.ex (cC (i.get 9 rfl (f 9 rfl)) cN)
 exact cv q9 (fo a8 u) z z fun bF a9=>nl ⟨z, ⟨_, t, (ag.step i d z z z z), a9⟩⟩
 rintro D r T ⟨P, t, i, u⟩ d f p
 obtain ⟨B, rfl⟩ := Has.ex (cC (i.ins.get 0 rfl) cN)
 exact mv z<|nl ⟨z, ⟨_, t, (ag.step i d z z z z), u⟩⟩
 rintro D r T ⟨P, t, i, u⟩ d f p
 obtain ⟨B, rfl⟩ := Has.ex (cC (i.get 11 rfl (f 11 rfl)) cN)
 exact e5 z<|nl ⟨z, ⟨_, t, (ag.step i d z z z z), u⟩⟩
 rintro D r T ⟨P, t, i, u⟩ d f p
 obtain ⟨B, rfl⟩ := Has.ex (cC (i.get 12 rfl (f 12 rfl)) cN)
 exact fa iz z<|nl ⟨z, ⟨_, t, (ag.step i d z z z z), u⟩⟩
 rintro D r T ⟨P, t, i, u⟩ d f p
 obtain ⟨B, rfl⟩ := Has.ex (cC (i.get 13 rfl (f 13 rfl)) cN)
 exact fa ee z<|nl ⟨z, ⟨_, t, (ag.step i d z z z z), u⟩⟩
 rintro D r T ⟨P, t, i, u⟩ d f p
 obtain ⟨B, rfl⟩ := Has.ex (cC (i.get 14 rfl (f 14 rfl)) cN)
 exact fa kI z<|nl ⟨z, ⟨_, t, (ag.step i d z z z z), u⟩⟩
 rintro D r T ⟨P, t, i, u⟩ d f p
 obtain ⟨B, rfl⟩ := Has.ex (cC (i.get 15 rfl (f 15 rfl)) cN)
 exact ld u 0 bb z z z<|nl ⟨z, ⟨_, t, (ag.step i d z z z z), u⟩⟩
 rintro D r T ⟨P, t, i, u⟩ d f p
 obtain ⟨B, rfl⟩ := Has.ex (cC (i.get 10 rfl (f 10 rfl)) (cC (i.get 16 rfl (f 16 rfl)) cN))
 exact bm z z<|nl ⟨z, ⟨_, t, (ag.step i d z z z z), u⟩⟩
 rintro D r T ⟨P, t, i, u⟩ d f p
 obtain ⟨B, rfl⟩ := Has.ex (cC (i.get 5 rfl (f 5 rfl)) (cC (i.get 17 rfl (f 17 rfl)) cN))
 exact nB z z<|nl ⟨z, ⟨_, t, (ag.step i d z z z z), u⟩⟩
 rintro D r T ⟨P, t, i, u⟩ d f p
 obtain ⟨B, rfl⟩ := Has.ex (cC (i.get 18 rfl (f 18 rfl)) cN)
 exact aK z<|nl ⟨z, ⟨_, t, (ag.step i d z z z z), u⟩⟩
 intro D r T ar hR
 obtain ⟨P, t, i, u⟩ := hR
 obtain ⟨B, rfl⟩ := Has.ex (cC (i.ins.get 0 rfl) (cC (i.ins.get 1 rfl) (cC (i.ins.get 2 rfl) (cC (i.ins.get 3 rfl) (cC (i.get 19 rfl (ar 19 (Nat.le_of_ble_eq_true rfl))) cN)))))
 refine a7 _ _ _<|sr fun bG ba=>mv z<|q_len dA z<|mv z<|nl<|ba _ _ _<|wb<|bK H fun av hC H=>?_
 refine aP (Q := fun e r ds w => e = .exit 0 ∧ ∃ (ap : Option Addr) (aq : Nat) (aG : Gh), ds = [] ∧ P ≤ aG ∧ Has [] r ∧ Hp aG (bx q [int .i64 a3.sheet.Paper.Width, int .i64 a3.sheet.Paper.Height, int .i64 a3.sheet.Paper.Columns, int .i64 a3.sheet.Paper.Gap, int .i64 a3.sheet.Paper.Scale, int .i64 a3.sheet.Paper.Lang, slice ap av.length aq, slice U a3.notes.length V, slice R ad S] 67 :: tk (slice U a3.notes.length V) 8 36 :: bO G (Kd.int .i64) R [] a3.fills [] S 3 :: tk (slice ap av.length aq) 8 36 :: L) w ∧ av.length ≤ aq ∧ Dat ah aG ap av ∧ Own ap aq ∧ True) ?_ ?_
 refine have bc:=Hp.pick 4 [0, 2, 3, 1] u z;bH fun I aW=>?_
 refine a5.partial_correctness a3 a E F C (fun b O o => ∀ (Z : Option Addr) (ab : Nat) (al : Gh) (r : Rg) (w : World), P ≤ al → Has [(0, pointer (some ⟨q, 0, none⟩)), (2, int .i64 E), (3, int .i64 F), (8, int .i64 (aj ((aj ((a3.fills.length : Int) - 1)) * (aj (C + a3.sheet.Paper.Gap))))), (30, slice af a.length ak), (31, int .i64 (a.length : Int)), (32, int .i64 b)] r → Hp al (bx q [int .i64 a3.sheet.Paper.Width, int .i64 a3.sheet.Paper.Height, int .i64 a3.sheet.Paper.Columns, int .i64 a3.sheet.Paper.Gap, int .i64 a3.sheet.Paper.Scale, int .i64 a3.sheet.Paper.Lang, slice Z O.length ab, slice U a3.notes.length V, slice R ad S] 67 :: tk (slice U a3.notes.length V) 8 36 :: bO G (Kd.int .i64) R [] a3.fills [] S 3 :: tk (slice Z O.length ab) 8 36 :: L) w → O.length ≤ ab → Dat ah al Z O → Own Z ab → o = av → I r [] w) ?_ 0 a3.placed _ hC A4 c5 _ _ _ gR ⟨rfl, rfl, rfl, rfl, rfl, rfl, rfl, tv⟩ bc aX (Dat.mono t aY) aZ rfl
 intro _ ih b O o H Z ab al r bI aJ au aL aR aS aT ho
 rw [ho] at H; clear ho
 rw [au.eq]; clear au
 refine aW _ _ _<|sr fun bJ bd=>cZ z z<|nl<|bd _ _ _<|sQ fun bM be=>dC (b < (a.length : Int)) (fun ax=>?_) fun ax=>?_
 refine yK ax H fun H=>wt (bY ax)<|ws<|be _ _ _<|sQ fun bP bf=>wb<|sr fun bR bg=>iK H fun⟨aU, aV⟩H=>?_
 obtain ⟨bS, bT, bh, bi, bU, bj⟩ := Dat.get (Dat.mono (gT t aJ) a6) aa (b) aU aV
 obtain ⟨rfl⟩ := aF bi
 refine bL cA z bh z aU aV<|fq aL dx z (cs := [int .i64 ((a.getD (Int.toNat b) aa).Node), int .i64 ((a.getD (Int.toNat b) aa).Table), int .i64 ((a.getD (Int.toNat b) aa).X), int .i64 ((a.getD (Int.toNat b) aa).Y), int .i64 ((a.getD (Int.toNat b) aa).H), string ((a.getD (Int.toNat b) aa).Text), bool ((a.getD (Int.toNat b) aa).Head), bool ((a.getD (Int.toNat b) aa).Note)]) z (fun j v hv => gR.cel _ _ (bj j v hv))<|bQ aL cP fun am bV bk=>f5 bk 0 dx z z z z z z z fun bW aN=>nl<|bg _ _ _<|sr fun bX bl=>fa hY z<|ld aN 0 bb z z z<|mv z<|bm z z<|fa bn z<|ld aN 0 bb z z z<|mv z<|?_
 refine b6 z z<|mv z<|bm z z<|fa hY z<|f5 aN 0 bb z z z z z z z fun bZ bo=>fa bn z<|f5 bo 0 bb z z z z z z z fun b0 bp=>nl<|bl _ _ _<|iK H fun b1 H=>?_
 refine aM [0, 0, 2, 6, 14, 0, 32, 126, 255, 511, 1023] (fun D r w => (D 6 = false ∧ ∃ (G' : Gh), al ≤ G' ∧ ag [(0, pointer (some ⟨q, 0, none⟩)), (2, int .i64 E), (3, int .i64 F), (8, int .i64 (aj ((aj ((a3.fills.length : Int) - 1)) * (aj (C + a3.sheet.Paper.Gap))))), (10, pointer (some ⟨am, 0, none⟩)), (30, slice af a.length ak), (31, int .i64 (a.length : Int)), (32, int .i64 b)] [] [(0, 48, pointer (some ⟨q, 0, none⟩)), (1, 49, pointer (some ⟨q, 0, none⟩)), (2, 50, pointer (some ⟨q, 0, none⟩)), (3, 51, pointer (some ⟨q, 6, none⟩)), (4, 52, slice Z O.length ab), (5, 53, agg [int .i64 ((a.getD (Int.toNat b) aa).Node), int .i64 ((a.getD (Int.toNat b) aa).Table), int .i64 (aj (((a.getD (Int.toNat b) aa).X) + (aj ((aj ((a3.fills.length : Int) - 1)) * (aj (C + a3.sheet.Paper.Gap)))))), int .i64 (aj ((aj (((a.getD (Int.toNat b) aa).Y) - E)) + F)), int .i64 ((a.getD (Int.toNat b) aa).H), string ((a.getD (Int.toNat b) aa).Text), bool ((a.getD (Int.toNat b) aa).Head), bool ((a.getD (Int.toNat b) aa).Note)].toArray)] D r ∧ Hp G' (bx am [int .i64 ((a.getD (Int.toNat b) aa).Node), int .i64 ((a.getD (Int.toNat b) aa).Table), int .i64 (aj (((a.getD (Int.toNat b) aa).X) + (aj ((aj ((a3.fills.length : Int) - 1)) * (aj (C + a3.sheet.Paper.Gap)))))), int .i64 (aj ((aj (((a.getD (Int.toNat b) aa).Y) - E)) + F)), int .i64 ((a.getD (Int.toNat b) aa).H), string ((a.getD (Int.toNat b) aa).Text), bool ((a.getD (Int.toNat b) aa).Head), bool ((a.getD (Int.toNat b) aa).Note)] 36 :: bx q [int .i64 a3.sheet.Paper.Width, int .i64 a3.sheet.Paper.Height, int .i64 a3.sheet.Paper.Columns, int .i64 a3.sheet.Paper.Gap, int .i64 a3.sheet.Paper.Scale, int .i64 a3.sheet.Paper.Lang, slice Z O.length ab, slice U a3.notes.length V, slice R ad S] 67 :: tk (slice U a3.notes.length V) 8 36 :: bO G (Kd.int .i64) R [] a3.fills [] S 3 :: tk (slice Z O.length ab) 8 36 :: L) w) ∨ (D 6 = true ∧ D 7 = false ∧ ∃ (n : Nat) (G' : Gh), al ≤ G' ∧ ag [(0, pointer (some ⟨q, 0, none⟩)), (2, int .i64 E), (3, int .i64 F), (8, int .i64 (aj ((aj ((a3.fills.length : Int) - 1)) * (aj (C + a3.sheet.Paper.Gap))))), (10, pointer (some ⟨am, 0, none⟩)), (30, slice af a.length ak), (31, int .i64 (a.length : Int)), (32, int .i64 b)] [] [(0, 48, pointer (some ⟨q, 0, none⟩)), (1, 49, pointer (some ⟨q, 0, none⟩)), (2, 50, pointer (some ⟨q, 0, none⟩)), (3, 51, pointer (some ⟨q, 6, none⟩)), (4, 52, slice Z O.length ab), (5, 53, agg [int .i64 ((a.getD (Int.toNat b) aa).Node), int .i64 ((a.getD (Int.toNat b) aa).Table), int .i64 (aj (((a.getD (Int.toNat b) aa).X) + (aj ((aj ((a3.fills.length : Int) - 1)) * (aj (C + a3.sheet.Paper.Gap)))))), int .i64 (aj ((aj (((a.getD (Int.toNat b) aa).Y) - E)) + F)), int .i64 ((a.getD (Int.toNat b) aa).H), string ((a.getD (Int.toNat b) aa).Text), bool ((a.getD (Int.toNat b) aa).Head), bool ((a.getD (Int.toNat b) aa).Note)].toArray), (6, 54, slice (some ⟨n, 0, none⟩) 1 1)] D r ∧ Hp G' (bx n [int .i64 ((a.getD (Int.toNat b) aa).Node), int .i64 ((a.getD (Int.toNat b) aa).Table), int .i64 (aj (((a.getD (Int.toNat b) aa).X) + (aj ((aj ((a3.fills.length : Int) - 1)) * (aj (C + a3.sheet.Paper.Gap)))))), int .i64 (aj ((aj (((a.getD (Int.toNat b) aa).Y) - E)) + F)), int .i64 ((a.getD (Int.toNat b) aa).H), string ((a.getD (Int.toNat b) aa).Text), bool ((a.getD (Int.toNat b) aa).Head), bool ((a.getD (Int.toNat b) aa).Note)] 36 :: bx am [int .i64 ((a.getD (Int.toNat b) aa).Node), int .i64 ((a.getD (Int.toNat b) aa).Table), int .i64 (aj (((a.getD (Int.toNat b) aa).X) + (aj ((aj ((a3.fills.length : Int) - 1)) * (aj (C + a3.sheet.Paper.Gap)))))), int .i64 (aj ((aj (((a.getD (Int.toNat b) aa).Y) - E)) + F)), int .i64 ((a.getD (Int.toNat b) aa).H), string ((a.getD (Int.toNat b) aa).Text), bool ((a.getD (Int.toNat b) aa).Head), bool ((a.getD (Int.toNat b) aa).Note)] 36 :: bx q [int .i64 a3.sheet.Paper.Width, int .i64 a3.sheet.Paper.Height, int .i64 a3.sheet.Paper.Columns, int .i64 a3.sheet.Paper.Gap, int .i64 a3.sheet.Paper.Scale, int .i64 a3.sheet.Paper.Lang, slice Z O.length ab, slice U a3.notes.length V, slice R ad S] 67 :: tk (slice U a3.notes.length V) 8 36 :: bO G (Kd.int .i64) R [] a3.fills [] S 3 :: tk (slice Z O.length ab) 8 36 :: L) w) ∨ (D 7 = true ∧ D 10 = false ∧ ∃ (n : Nat) (y : Option Addr) (A : Nat) (G' : Gh), al ≤ G' ∧ (O ++ [(⟨(a.getD (Int.toNat b) aa).Node, (a.getD (Int.toNat b) aa).Table, aj (((a.getD (Int.toNat b) aa).X) + (aj ((aj ((a3.fills.length : Int) - 1)) * (aj (C + a3.sheet.Paper.Gap))))), aj ((aj (((a.getD (Int.toNat b) aa).Y) - E)) + F), (a.getD (Int.toNat b) aa).H, (a.getD (Int.toNat b) aa).Text, (a.getD (Int.toNat b) aa).Head, (a.getD (Int.toNat b) aa).Note⟩ : ac)]).length ≤ A ∧ Dat ah G' y (O ++ [(⟨(a.getD (Int.toNat b) aa).Node, (a.getD (Int.toNat b) aa).Table, aj (((a.getD (Int.toNat b) aa).X) + (aj ((aj ((a3.fills.length : Int) - 1)) * (aj (C + a3.sheet.Paper.Gap))))), aj ((aj (((a.getD (Int.toNat b) aa).Y) - E)) + F), (a.getD (Int.toNat b) aa).H, (a.getD (Int.toNat b) aa).Text, (a.getD (Int.toNat b) aa).Head, (a.getD (Int.toNat b) aa).Note⟩ : ac)]) ∧ Own y A ∧ ag [(0, pointer (some ⟨q, 0, none⟩)), (2, int .i64 E), (3, int .i64 F), (8, int .i64 (aj ((aj ((a3.fills.length : Int) - 1)) * (aj (C + a3.sheet.Paper.Gap))))), (10, pointer (some ⟨am, 0, none⟩)), (30, slice af a.length ak), (31, int .i64 (a.length : Int)), (32, int .i64 b)] [] [(0, 48, pointer (some ⟨q, 0, none⟩)), (1, 49, pointer (some ⟨q, 0, none⟩)), (2, 50, pointer (some ⟨q, 0, none⟩)), (3, 51, pointer (some ⟨q, 6, none⟩)), (4, 52, slice Z O.length ab), (5, 53, agg [int .i64 ((a.getD (Int.toNat b) aa).Node), int .i64 ((a.getD (Int.toNat b) aa).Table), int .i64 (aj (((a.getD (Int.toNat b) aa).X) + (aj ((aj ((a3.fills.length : Int) - 1)) * (aj (C + a3.sheet.Paper.Gap)))))), int .i64 (aj ((aj (((a.getD (Int.toNat b) aa).Y) - E)) + F)), int .i64 ((a.getD (Int.toNat b) aa).H), string ((a.getD (Int.toNat b) aa).Text), bool ((a.getD (Int.toNat b) aa).Head), bool ((a.getD (Int.toNat b) aa).Note)].toArray), (6, 54, slice (some ⟨n, 0, none⟩) 1 1), (7, 55, slice y (O ++ [(⟨(a.getD (Int.toNat b) aa).Node, (a.getD (Int.toNat b) aa).Table, aj (((a.getD (Int.toNat b) aa).X) + (aj ((aj ((a3.fills.length : Int) - 1)) * (aj (C + a3.sheet.Paper.Gap))))), aj ((aj (((a.getD (Int.toNat b) aa).Y) - E)) + F), (a.getD (Int.toNat b) aa).H, (a.getD (Int.toNat b) aa).Text, (a.getD (Int.toNat b) aa).Head, (a.getD (Int.toNat b) aa).Note⟩ : ac)]).length A), (8, 56, pointer (some ⟨q, 0, none⟩)), (9, 57, pointer (some ⟨q, 6, none⟩))] D r ∧ Hp G' (bx n [int .i64 ((a.getD (Int.toNat b) aa).Node), int .i64 ((a.getD (Int.toNat b) aa).Table), int .i64 (aj (((a.getD (Int.toNat b) aa).X) + (aj ((aj ((a3.fills.length : Int) - 1)) * (aj (C + a3.sheet.Paper.Gap)))))), int .i64 (aj ((aj (((a.getD (Int.toNat b) aa).Y) - E)) + F)), int .i64 ((a.getD (Int.toNat b) aa).H), string ((a.getD (Int.toNat b) aa).Text), bool ((a.getD (Int.toNat b) aa).Head), bool ((a.getD (Int.toNat b) aa).Note)] 36 :: bx am [int .i64 ((a.getD (Int.toNat b) aa).Node), int .i64 ((a.getD (Int.toNat b) aa).Table), int .i64 (aj (((a.getD (Int.toNat b) aa).X) + (aj ((aj ((a3.fills.length : Int) - 1)) * (aj (C + a3.sheet.Paper.Gap)))))), int .i64 (aj ((aj (((a.getD (Int.toNat b) aa).Y) - E)) + F)), int .i64 ((a.getD (Int.toNat b) aa).H), string ((a.getD (Int.toNat b) aa).Text), bool ((a.getD (Int.toNat b) aa).Head), bool ((a.getD (Int.toNat b) aa).Note)] 36 :: bx q [int .i64 a3.sheet.Paper.Width, int .i64 a3.sheet.Paper.Height, int .i64 a3.sheet.Paper.Columns, int .i64 a3.sheet.Paper.Gap, int .i64 a3.sheet.Paper.Scale, int .i64 a3.sheet.Paper.Lang, slice Z O.length ab, slice U a3.notes.length V, slice R ad S] 67 :: tk (slice U a3.notes.length V) 8 36 :: bO G (Kd.int .i64) R [] a3.fills [] S 3 :: tk (slice y (O ++ [(⟨(a.getD (Int.toNat b) aa).Node, (a.getD (Int.toNat b) aa).Table, aj (((a.getD (Int.toNat b) aa).X) + (aj ((aj ((a3.fills.length : Int) - 1)) * (aj (C + a3.sheet.Paper.Gap))))), aj ((aj (((a.getD (Int.toNat b) aa).Y) - E)) + F), (a.getD (Int.toNat b) aa).H, (a.getD (Int.toNat b) aa).Text, (a.getD (Int.toNat b) aa).Head, (a.getD (Int.toNat b) aa).Note⟩ : ac)]).length A) 8 36 :: L) w) ∨ (D 10 = true ∧ ∃ (n : Nat) (y : Option Addr) (A : Nat) (G' : Gh), al ≤ G' ∧ (O ++ [(⟨(a.getD (Int.toNat b) aa).Node, (a.getD (Int.toNat b) aa).Table, aj (((a.getD (Int.toNat b) aa).X) + (aj ((aj ((a3.fills.length : Int) - 1)) * (aj (C + a3.sheet.Paper.Gap))))), aj ((aj (((a.getD (Int.toNat b) aa).Y) - E)) + F), (a.getD (Int.toNat b) aa).H, (a.getD (Int.toNat b) aa).Text, (a.getD (Int.toNat b) aa).Head, (a.getD (Int.toNat b) aa).Note⟩ : ac)]).length ≤ A ∧ Dat ah G' y (O ++ [(⟨(a.getD (Int.toNat b) aa).Node, (a.getD (Int.toNat b) aa).Table, aj (((a.getD (Int.toNat b) aa).X) + (aj ((aj ((a3.fills.length : Int) - 1)) * (aj (C + a3.sheet.Paper.Gap))))), aj ((aj (((a.getD (Int.toNat b) aa).Y) - E)) + F), (a.getD (Int.toNat b) aa).H, (a.getD (Int.toNat b) aa).Text, (a.getD (Int.toNat b) aa).Head, (a.getD (Int.toNat b) aa).Note⟩ : ac)]) ∧ Own y A ∧ ag [(0, pointer (some ⟨q, 0, none⟩)), (2, int .i64 E), (3, int .i64 F), (8, int .i64 (aj ((aj ((a3.fills.length : Int) - 1)) * (aj (C + a3.sheet.Paper.Gap))))), (10, pointer (some ⟨am, 0, none⟩)), (30, slice af a.length ak), (31, int .i64 (a.length : Int)), (32, int .i64 b)] [] [(0, 48, pointer (some ⟨q, 0, none⟩)), (1, 49, pointer (some ⟨q, 0, none⟩)), (2, 50, pointer (some ⟨q, 0, none⟩)), (3, 51, pointer (some ⟨q, 6, none⟩)), (4, 52, slice Z O.length ab), (5, 53, agg [int .i64 ((a.getD (Int.toNat b) aa).Node), int .i64 ((a.getD (Int.toNat b) aa).Table), int .i64 (aj (((a.getD (Int.toNat b) aa).X) + (aj ((aj ((a3.fills.length : Int) - 1)) * (aj (C + a3.sheet.Paper.Gap)))))), int .i64 (aj ((aj (((a.getD (Int.toNat b) aa).Y) - E)) + F)), int .i64 ((a.getD (Int.toNat b) aa).H), string ((a.getD (Int.toNat b) aa).Text), bool ((a.getD (Int.toNat b) aa).Head), bool ((a.getD (Int.toNat b) aa).Note)].toArray), (6, 54, slice (some ⟨n, 0, none⟩) 1 1), (7, 55, slice y (O ++ [(⟨(a.getD (Int.toNat b) aa).Node, (a.getD (Int.toNat b) aa).Table, aj (((a.getD (Int.toNat b) aa).X) + (aj ((aj ((a3.fills.length : Int) - 1)) * (aj (C + a3.sheet.Paper.Gap))))), aj ((aj (((a.getD (Int.toNat b) aa).Y) - E)) + F), (a.getD (Int.toNat b) aa).H, (a.getD (Int.toNat b) aa).Text, (a.getD (Int.toNat b) aa).Head, (a.getD (Int.toNat b) aa).Note⟩ : ac)]).length A), (8, 56, pointer (some ⟨q, 0, none⟩)), (9, 57, pointer (some ⟨q, 6, none⟩))] D r ∧ Hp G' (bx n [int .i64 ((a.getD (Int.toNat b) aa).Node), int .i64 ((a.getD (Int.toNat b) aa).Table), int .i64 (aj (((a.getD (Int.toNat b) aa).X) + (aj ((aj ((a3.fills.length : Int) - 1)) * (aj (C + a3.sheet.Paper.Gap)))))), int .i64 (aj ((aj (((a.getD (Int.toNat b) aa).Y) - E)) + F)), int .i64 ((a.getD (Int.toNat b) aa).H), string ((a.getD (Int.toNat b) aa).Text), bool ((a.getD (Int.toNat b) aa).Head), bool ((a.getD (Int.toNat b) aa).Note)] 36 :: bx am [int .i64 ((a.getD (Int.toNat b) aa).Node), int .i64 ((a.getD (Int.toNat b) aa).Table), int .i64 (aj (((a.getD (Int.toNat b) aa).X) + (aj ((aj ((a3.fills.length : Int) - 1)) * (aj (C + a3.sheet.Paper.Gap)))))), int .i64 (aj ((aj (((a.getD (Int.toNat b) aa).Y) - E)) + F)), int .i64 ((a.getD (Int.toNat b) aa).H), string ((a.getD (Int.toNat b) aa).Text), bool ((a.getD (Int.toNat b) aa).Head), bool ((a.getD (Int.toNat b) aa).Note)] 36 :: bx q [int .i64 a3.sheet.Paper.Width, int .i64 a3.sheet.Paper.Height, int .i64 a3.sheet.Paper.Columns, int .i64 a3.sheet.Paper.Gap, int .i64 a3.sheet.Paper.Scale, int .i64 a3.sheet.Paper.Lang, slice y (O ++ [(⟨(a.getD (Int.toNat b) aa).Node, (a.getD (Int.toNat b) aa).Table, aj (((a.getD (Int.toNat b) aa).X) + (aj ((aj ((a3.fills.length : Int) - 1)) * (aj (C + a3.sheet.Paper.Gap))))), aj ((aj (((a.getD (Int.toNat b) aa).Y) - E)) + F), (a.getD (Int.toNat b) aa).H, (a.getD (Int.toNat b) aa).Text, (a.getD (Int.toNat b) aa).Head, (a.getD (Int.toNat b) aa).Note⟩ : ac)]).length A, slice U a3.notes.length V, slice R ad S] 67 :: tk (slice U a3.notes.length V) 8 36 :: bO G (Kd.int .i64) R [] a3.fills [] S 3 :: tk (slice y (O ++ [(⟨(a.getD (Int.toNat b) aa).Node, (a.getD (Int.toNat b) aa).Table, aj (((a.getD (Int.toNat b) aa).X) + (aj ((aj ((a3.fills.length : Int) - 1)) * (aj (C + a3.sheet.Paper.Gap))))), aj ((aj (((a.getD (Int.toNat b) aa).Y) - E)) + F), (a.getD (Int.toNat b) aa).H, (a.getD (Int.toNat b) aa).Text, (a.getD (Int.toNat b) aa).Head, (a.getD (Int.toNat b) aa).Note⟩ : ac)]).length A) 8 36 :: L) w)) dJ z z ?_ ?_ ?_
 exact (.inl ⟨z, _, Gh.le_refl _, ag.start ⟨z, z, z, z, z, z, z, z, tv⟩ trivial, bp.drew⟩)
 refine ⟨?_, ?_, ?_, ?_, ?_, ?_, ?_, ?_, ?_, ?_, ?_, tv⟩
 rintro D r ae (⟨m, s, k, c, g⟩ | ⟨l, m, n, s, k, c, g⟩ | ⟨l, m, n, y, A, s, k, J, K, M, c, g⟩ | ⟨l, n, y, A, s, k, J, K, M, c, g⟩) d f p
 obtain ⟨B, rfl⟩ := Has.ex (cC (c.ins.get 0 rfl) cN)
 exact mv z<|nl ⟨z, (.inl ⟨m, _, k, (ag.step c d z z z z), g⟩)⟩
 obtain ⟨B, rfl⟩ := Has.ex (cC (c.ins.get 0 rfl) cN)
 exact mv z<|nl ⟨z, (.inr (.inl ⟨l, m, n, _, k, (ag.step c d z z z z), g⟩))⟩
 obtain ⟨B, rfl⟩ := Has.ex (cC (c.ins.get 0 rfl) cN)
 exact mv z<|nl ⟨z, (.inr (.inr (.inl ⟨l, m, n, y, A, _, k, J, K, M, (ag.step c d z z z z), g⟩)))⟩
 cases (p 10 rfl).symm.trans l
 rintro D r ae (⟨m, s, k, c, g⟩ | ⟨l, m, n, s, k, c, g⟩ | ⟨l, m, n, y, A, s, k, J, K, M, c, g⟩ | ⟨l, n, y, A, s, k, J, K, M, c, g⟩) d f p
 obtain ⟨B, rfl⟩ := Has.ex (cC (c.ins.get 0 rfl) cN)
 exact mv z<|nl ⟨z, (.inl ⟨m, _, k, (ag.step c d z z z z), g⟩)⟩
 obtain ⟨B, rfl⟩ := Has.ex (cC (c.ins.get 0 rfl) cN)
 exact mv z<|nl ⟨z, (.inr (.inl ⟨l, m, n, _, k, (ag.step c d z z z z), g⟩))⟩
 cases (p 7 rfl).symm.trans l
 cases (p 10 rfl).symm.trans l
 rintro D r ae (⟨m, s, k, c, g⟩ | ⟨l, m, n, s, k, c, g⟩ | ⟨l, m, n, y, A, s, k, J, K, M, c, g⟩ | ⟨l, n, y, A, s, k, J, K, M, c, g⟩) d f p
 obtain ⟨B, rfl⟩ := Has.ex (cC (c.get 1 rfl (f 1 rfl)) cN)
 exact e5 z<|nl ⟨z, (.inl ⟨m, _, k, (ag.step c d z z z z), g⟩)⟩
 obtain ⟨B, rfl⟩ := Has.ex (cC (c.get 1 rfl (f 1 rfl)) cN)
 exact e5 z<|nl ⟨z, (.inr (.inl ⟨l, m, n, _, k, (ag.step c d z z z z), g⟩))⟩
 cases (p 7 rfl).symm.trans l
 cases (p 10 rfl).symm.trans l
 rintro D r ae (⟨m, s, k, c, g⟩ | ⟨l, m, n, s, k, c, g⟩ | ⟨l, m, n, y, A, s, k, J, K, M, c, g⟩ | ⟨l, n, y, A, s, k, J, K, M, c, g⟩) d f p
 obtain ⟨B, rfl⟩ := Has.ex (cC (c.get 2 rfl (f 2 rfl)) cN)
 exact fa kW z<|nl ⟨z, (.inl ⟨m, _, k, (ag.step c d z z z z), g⟩)⟩
 obtain ⟨B, rfl⟩ := Has.ex (cC (c.get 2 rfl (f 2 rfl)) cN)
 exact fa kW z<|nl ⟨z, (.inr (.inl ⟨l, m, n, _, k, (ag.step c d z z z z), g⟩))⟩
 cases (p 7 rfl).symm.trans l
 cases (p 10 rfl).symm.trans l
 rintro D r ae (⟨m, s, k, c, g⟩ | ⟨l, m, n, s, k, c, g⟩ | ⟨l, m, n, y, A, s, k, J, K, M, c, g⟩ | ⟨l, n, y, A, s, k, J, K, M, c, g⟩) d f p
 obtain ⟨B, rfl⟩ := Has.ex (cC (c.get 3 rfl (f 3 rfl)) cN)
 exact ld g 1 cB z z z<|nl ⟨z, (.inl ⟨m, _, k, (ag.step c d z z z z), g⟩)⟩
 obtain ⟨B, rfl⟩ := Has.ex (cC (c.get 3 rfl (f 3 rfl)) cN)
 exact ld g 2 cB z z z<|nl ⟨z, (.inr (.inl ⟨l, m, n, _, k, (ag.step c d z z z z), g⟩))⟩
 cases (p 7 rfl).symm.trans l
 cases (p 10 rfl).symm.trans l
 rintro D r ae (⟨m, s, k, c, g⟩ | ⟨l, m, n, s, k, c, g⟩ | ⟨l, m, n, y, A, s, k, J, K, M, c, g⟩ | ⟨l, n, y, A, s, k, J, K, M, c, g⟩) d f p
 obtain ⟨B, rfl⟩ := Has.ex (cC (c.ins.get 4 rfl) cN)
 exact gg g 0 dx z z z z<|nl ⟨z, (.inl ⟨m, _, k, (ag.step c d z z z z), g⟩)⟩
 cases (p 6 rfl).symm.trans l
 cases (p 7 rfl).symm.trans l
 cases (p 10 rfl).symm.trans l
 rintro D r ae (⟨m, s, k, c, g⟩ | ⟨l, m, n, s, k, c, g⟩ | ⟨l, m, n, y, A, s, k, J, K, M, c, g⟩ | ⟨l, n, y, A, s, k, J, K, M, c, g⟩) d f p
 obtain ⟨B, rfl⟩ := Has.ex (cC (c.get 5 rfl (f 5 rfl)) cN)
 refine eh g (vs := [(0, agg [int .i64 ((a.getD (Int.toNat b) aa).Node), int .i64 ((a.getD (Int.toNat b) aa).Table), int .i64 (aj (((a.getD (Int.toNat b) aa).X) + (aj ((aj ((a3.fills.length : Int) - 1)) * (aj (C + a3.sheet.Paper.Gap)))))), int .i64 (aj ((aj (((a.getD (Int.toNat b) aa).Y) - E)) + F)), int .i64 ((a.getD (Int.toNat b) aa).H), string ((a.getD (Int.toNat b) aa).Text), bool ((a.getD (Int.toNat b) aa).Head), bool ((a.getD (Int.toNat b) aa).Note)].toArray)]) (cs := [int .i64 ((a.getD (Int.toNat b) aa).Node), int .i64 ((a.getD (Int.toNat b) aa).Table), int .i64 (aj (((a.getD (Int.toNat b) aa).X) + (aj ((aj ((a3.fills.length : Int) - 1)) * (aj (C + a3.sheet.Paper.Gap)))))), int .i64 (aj ((aj (((a.getD (Int.toNat b) aa).Y) - E)) + F)), int .i64 ((a.getD (Int.toNat b) aa).H), string ((a.getD (Int.toNat b) aa).Text), bool ((a.getD (Int.toNat b) aa).Head), bool ((a.getD (Int.toNat b) aa).Note)]) cA cP rfl (by decide) rfl (by kernel_rfl) (fun n b2 bq => ?_)
 exact nl ⟨z, (.inr (.inl ⟨z, (p 7 z), n, _, k, (ag.step (ag.more (new := [(6, 54, slice (some ⟨n, 0, none⟩) 1 1)]) c (List.forall_mem_cons.2 ⟨d, (fun _ h => nomatch h)⟩)) d z z z z), bq⟩))⟩
 cases d.symm.trans l
 cases (p 7 rfl).symm.trans l
 cases (p 10 rfl).symm.trans l
 rintro D r ae (⟨m, s, k, c, g⟩ | ⟨l, m, n, s, k, c, g⟩ | ⟨l, m, n, y, A, s, k, J, K, M, c, g⟩ | ⟨l, n, y, A, s, k, J, K, M, c, g⟩) d f p
 cases (f 6 rfl).symm.trans m
 obtain ⟨B, rfl⟩ := Has.ex (cC (c.get 4 rfl (f 4 rfl)) (cC (c.get 6 rfl (f 6 rfl)) cN))
 refine fx (xs := O) (ys := [(⟨(a.getD (Int.toNat b) aa).Node, (a.getD (Int.toNat b) aa).Table, aj (((a.getD (Int.toNat b) aa).X) + (aj ((aj ((a3.fills.length : Int) - 1)) * (aj (C + a3.sheet.Paper.Gap))))), aj ((aj (((a.getD (Int.toNat b) aa).Y) - E)) + F), (a.getD (Int.toNat b) aa).H, (a.getD (Int.toNat b) aa).Text, (a.getD (Int.toNat b) aa).Head, (a.getD (Int.toNat b) aa).Note⟩ : ac)]) ah g 5 cA cP rfl rfl rfl rfl aT aR (Dat.mono k aS) (dU g 0 dA rfl rfl) ⟨[int .i64 ((a.getD (Int.toNat b) aa).Node), int .i64 ((a.getD (Int.toNat b) aa).Table), int .i64 (aj (((a.getD (Int.toNat b) aa).X) + (aj ((aj ((a3.fills.length : Int) - 1)) * (aj (C + a3.sheet.Paper.Gap)))))), int .i64 (aj ((aj (((a.getD (Int.toNat b) aa).Y) - E)) + F)), int .i64 ((a.getD (Int.toNat b) aa).H), string ((a.getD (Int.toNat b) aa).Text), bool ((a.getD (Int.toNat b) aa).Head), bool ((a.getD (Int.toNat b) aa).Note)], _, rfl, (aH (x := (⟨(a.getD (Int.toNat b) aa).Node, (a.getD (Int.toNat b) aa).Table, aj (((a.getD (Int.toNat b) aa).X) + (aj ((aj ((a3.fills.length : Int) - 1)) * (aj (C + a3.sheet.Paper.Gap))))), aj ((aj (((a.getD (Int.toNat b) aa).Y) - E)) + F), (a.getD (Int.toNat b) aa).H, (a.getD (Int.toNat b) aa).Text, (a.getD (Int.toNat b) aa).Head, (a.getD (Int.toNat b) aa).Note⟩ : ac))), rfl⟩ rfl (by simp only [List.length_cons, List.length_nil]; omega) (by simp only [List.length_cons, List.length_nil]; omega) (fun y A b3 b4 br M J K bs => ?_)
 exact nl ⟨z, (.inr (.inr (.inl ⟨z, (p 10 z), n, y, A, _, (gT k br), J, K, M, (ag.step (ag.more (new := [(7, 55, slice y (O ++ [(⟨(a.getD (Int.toNat b) aa).Node, (a.getD (Int.toNat b) aa).Table, aj (((a.getD (Int.toNat b) aa).X) + (aj ((aj ((a3.fills.length : Int) - 1)) * (aj (C + a3.sheet.Paper.Gap))))), aj ((aj (((a.getD (Int.toNat b) aa).Y) - E)) + F), (a.getD (Int.toNat b) aa).H, (a.getD (Int.toNat b) aa).Text, (a.getD (Int.toNat b) aa).Head, (a.getD (Int.toNat b) aa).Note⟩ : ac)]).length A), (8, 56, pointer (some ⟨q, 0, none⟩)), (9, 57, pointer (some ⟨q, 6, none⟩))]) c (List.forall_mem_cons.2 ⟨d, (List.forall_mem_cons.2 ⟨p 8 z, (List.forall_mem_cons.2 ⟨p 9 z, (fun _ h => nomatch h)⟩)⟩)⟩)) d z z z z), bs⟩)))⟩
 cases d.symm.trans l
 cases (p 10 rfl).symm.trans l
 rintro D r ae (⟨m, s, k, c, g⟩ | ⟨l, m, n, s, k, c, g⟩ | ⟨l, m, n, y, A, s, k, J, K, M, c, g⟩ | ⟨l, n, y, A, s, k, J, K, M, c, g⟩) d f p
 cases (f 6 rfl).symm.trans m
 cases (f 7 rfl).symm.trans m
 obtain ⟨B, rfl⟩ := Has.ex (cC (c.get 0 rfl (f 0 rfl)) cN)
 exact e5 z<|nl ⟨z, (.inr (.inr (.inl ⟨l, m, n, y, A, _, k, J, K, M, (ag.step c d z z z z), g⟩)))⟩
 cases (p 10 rfl).symm.trans l
 rintro D r ae (⟨m, s, k, c, g⟩ | ⟨l, m, n, s, k, c, g⟩ | ⟨l, m, n, y, A, s, k, J, K, M, c, g⟩ | ⟨l, n, y, A, s, k, J, K, M, c, g⟩) d f p
 cases (f 6 rfl).symm.trans m
 cases (f 7 rfl).symm.trans m
 obtain ⟨B, rfl⟩ := Has.ex (cC (c.get 8 rfl (f 8 rfl)) cN)
 exact fa kW z<|nl ⟨z, (.inr (.inr (.inl ⟨l, m, n, y, A, _, k, J, K, M, (ag.step c d z z z z), g⟩)))⟩
 cases (p 10 rfl).symm.trans l
 rintro D r ae (⟨m, s, k, c, g⟩ | ⟨l, m, n, s, k, c, g⟩ | ⟨l, m, n, y, A, s, k, J, K, M, c, g⟩ | ⟨l, n, y, A, s, k, J, K, M, c, g⟩) d f p
 cases (f 6 rfl).symm.trans m
 cases (f 7 rfl).symm.trans m
 obtain ⟨B, rfl⟩ := Has.ex (cC (c.get 7 rfl (f 7 rfl)) (cC (c.get 9 rfl (f 9 rfl)) cN))
 exact f5 g 2 cB z z z z z z z fun b5 bt=>nl ⟨z, (.inr (.inr (.inr ⟨z, n, y, A, _, k, J, K, M, (ag.stepN c z z), bt⟩)))⟩
 cases d.symm.trans l
 intro D r ae ar hR
 rcases hR with ⟨m, s, k, c, g⟩ | ⟨l, m, n, s, k, c, g⟩ | ⟨l, m, n, y, A, s, k, J, K, M, c, g⟩ | ⟨l, n, y, A, s, k, J, K, M, c, g⟩
 cases (ar 6 (Nat.le_of_ble_eq_true rfl)).symm.trans m
 cases (ar 7 (Nat.le_of_ble_eq_true rfl)).symm.trans m
 cases (ar 10 (Nat.le_of_ble_eq_true rfl)).symm.trans m
 obtain ⟨B, rfl⟩ := Has.ex (cC (c.ins.get 0 rfl) (cC (c.ins.get 1 rfl) (cC (c.ins.get 2 rfl) (cC (c.ins.get 3 rfl) (cC (c.ins.get 5 rfl) (cC (c.ins.get 6 rfl) (cC (c.ins.get 7 rfl) cN)))))))
 exact bf _ _ _<|aA<|bm z z<|mv z<|nl<|have bu:=Hp.pick 6 [2, 3, 4, 5] g z;ih _ _ _ H y A _ _ _ (gT aJ k) ⟨z, z, z, z, z, z, z, tv⟩ bu J K M z
 refine nK ax H fun H=>wf (bN ax)<|wx<|?_
 cases H
 exact ⟨z, Z, ab, _, z, aJ, trivial, aL, aR, aS, aT, tv⟩
 rintro e r ds b7 ⟨rfl, ap, aq, aG, rfl, aO, au, bv, bw, bz, bA, _⟩
 rw [au.eq]; clear au
 refine have bB:=Hp.rwUp bv 2 z (gT t aO);have bC:=Hp.pick 4 [0, 3, 1, 2] bB z;?_
 cases H
 exact ⟨.inl z, z, _, z, ap, aq, U, V, R, ad, S, _, (gT t aO), bC, bw, bz, bA, a0, (Dat.mono (gT t aO) a1), a2, aQ, a4, z⟩
theorem df {a3 : ai} {k : ak} {S p A4 c5 A8 c9 aC aE aD X Y Z aa} {U : ai} {G L w} (H : bk a3 k S = some U) (hI : Hp G (bx p [int .i64 a3.sheet.Paper.Width, int .i64 a3.sheet.Paper.Height, int .i64 a3.sheet.Paper.Columns, int .i64 a3.sheet.Paper.Gap, int .i64 a3.sheet.Paper.Scale, int .i64 a3.sheet.Paper.Lang, slice A4 a3.placed.length c5, slice A8 a3.notes.length c9, slice aC aE aD] 67 :: tk (slice A4 a3.placed.length c5) 8 36 :: tk (slice A8 a3.notes.length c9) 8 36 :: bO G (Kd.int .i64) aC [] a3.fills [] aD 3 :: L) w) (aW : a3.placed.length ≤ c5) (aX : Dat ah G A4 a3.placed) (aY : Own A4 c5) (aZ : a3.notes.length ≤ c9) (a0 : Dat ah G A8 a3.notes) (a1 : Own A8 c9) (a2 : a3.fills.length = aE) (a4 : Mw aC aC ([] : List Int).length aE aD aD 1) (aL : k.slices.length ≤ Y) (aN : Dat ah G X k.slices) (aT : k.notes.length ≤ aa) (aO : Dat ah G Z k.notes) :
    Calls Try.prog 45 [pointer (some ⟨p, 0, none⟩), agg [slice X k.slices.length Y, slice Z k.notes.length aa, int .i64 k.end_].toArray, int .i64 S].toArray w fun e w' => ∃ (aF : Option Addr) (aG : Nat) (aH : Option Addr) (aI : Nat) (aJ : Option Addr) (aP : Nat) (aK : Nat) (G' : Gh), G ≤ G' ∧ Hp G' (bx p [int .i64 U.sheet.Paper.Width, int .i64 U.sheet.Paper.Height, int .i64 U.sheet.Paper.Columns, int .i64 U.sheet.Paper.Gap, int .i64 U.sheet.Paper.Scale, int .i64 U.sheet.Paper.Lang, slice aF U.placed.length aG, slice aH U.notes.length aI, slice aJ aP aK] 67 :: tk (slice aF U.placed.length aG) 8 36 :: tk (slice aH U.notes.length aI) 8 36 :: bO G' (Kd.int .i64) aJ [] U.fills [] aK 3 :: L) w' ∧ U.placed.length ≤ aG ∧ Dat ah G' aF U.placed ∧ Own aF aG ∧ U.notes.length ≤ aI ∧ Dat ah G' aH U.notes ∧ Own aH aI ∧ U.fills.length = aP ∧ Mw aJ aJ ([] : List Int).length aP aK aK 1 ∧ e = .returned (tuple [].toArray) := by
 refine aw (N := 38) Try.func45 z z (Nat.le_of_ble_eq_true z)<|?_
 unfold bk at H
 refine sr fun bu a5=>jW hI z z fun T bv a6=>nl<|a5 _ _ _<|sQ fun bw a7=>bK H fun aQ a8 H=>bK H fun a a9 H=>?_
 refine aM [0, 0, 2, 0, 8, 0, 63] (fun D r w => (D 6 = false ∧ ∃ (G' : Gh), G ≤ G' ∧ ag [(0, pointer (some ⟨p, 0, none⟩)), (2, int .i64 S), (4, pointer (some ⟨T, 0, none⟩))] [] [(0, 6, pointer (some ⟨p, 0, none⟩)), (1, 7, pointer (some ⟨T, 0, none⟩)), (2, 8, slice X k.slices.length Y), (3, 9, agg [slice X k.slices.length Y, slice Z k.notes.length aa, int .i64 k.end_].toArray), (4, 10, int .i64 aQ), (5, 11, int .i64 S)] D r ∧ Hp G' (bx T [slice X k.slices.length Y, slice Z k.notes.length aa, int .i64 k.end_] 64 :: bx p [int .i64 a3.sheet.Paper.Width, int .i64 a3.sheet.Paper.Height, int .i64 a3.sheet.Paper.Columns, int .i64 a3.sheet.Paper.Gap, int .i64 a3.sheet.Paper.Scale, int .i64 a3.sheet.Paper.Lang, slice A4 a3.placed.length c5, slice A8 a3.notes.length c9, slice aC aE aD] 67 :: tk (slice A4 a3.placed.length c5) 8 36 :: tk (slice A8 a3.notes.length c9) 8 36 :: bO G (Kd.int .i64) aC [] a3.fills [] aD 3 :: L) w) ∨ (D 6 = true ∧ ∃ (K : Option Addr) (M : Nat) (P : Option Addr) (Q : Nat) (I : Option Addr) (R : Nat) (J : Nat) (V : Gh) (G' : Gh), G ≤ G' ∧ a.placed.length ≤ M ∧ Dat ah G' K a.placed ∧ Own K M ∧ a.notes.length ≤ Q ∧ Dat ah G' P a.notes ∧ Own P Q ∧ a.fills.length = R ∧ Mw I I ([] : List Int).length R J J 1 ∧ V ≤ G' ∧ ag [(0, pointer (some ⟨p, 0, none⟩)), (2, int .i64 S), (4, pointer (some ⟨T, 0, none⟩))] [] [(0, 6, pointer (some ⟨p, 0, none⟩)), (1, 7, pointer (some ⟨T, 0, none⟩)), (2, 8, slice X k.slices.length Y), (3, 9, agg [slice X k.slices.length Y, slice Z k.notes.length aa, int .i64 k.end_].toArray), (4, 10, int .i64 aQ), (5, 11, int .i64 S), (6, 12, tuple [].toArray)] D r ∧ Hp G' (bx p [int .i64 a.sheet.Paper.Width, int .i64 a.sheet.Paper.Height, int .i64 a.sheet.Paper.Columns, int .i64 a.sheet.Paper.Gap, int .i64 a.sheet.Paper.Scale, int .i64 a.sheet.Paper.Lang, slice K a.placed.length M, slice P a.notes.length Q, slice I R J] 67 :: tk (slice K a.placed.length M) 8 36 :: tk (slice P a.notes.length Q) 8 36 :: bO V (Kd.int .i64) I [] a.fills [] J 3 :: bx T [slice X k.slices.length Y, slice Z k.notes.length aa, int .i64 k.end_] 64 :: L) w)) dJ z z ?_ ?_ ?_
 exact (.inl ⟨z, _, Gh.le_refl _, ag.start ⟨z, z, z, tv⟩ trivial, a6.drew⟩)
 refine ⟨?_, ?_, ?_, ?_, ?_, ?_, ?_, tv⟩
 rintro D r av (⟨c, W, B, y, O⟩ | ⟨b, K, M, P, Q, I, R, J, V, W, B, am, an, ao, ap, aq, ar, ac, ae, au, y, O⟩) f i d
 obtain ⟨t, rfl⟩ := Has.ex (cC (y.ins.get 0 rfl) cN)
 exact mv z<|nl ⟨z, (.inl ⟨c, _, B, (ag.step y f z z z z), O⟩)⟩
 cases (d 6 rfl).symm.trans b
 rintro D r av (⟨c, W, B, y, O⟩ | ⟨b, K, M, P, Q, I, R, J, V, W, B, am, an, ao, ap, aq, ar, ac, ae, au, y, O⟩) f i d
 obtain ⟨t, rfl⟩ := Has.ex (cC (y.ins.get 2 rfl) cN)
 exact fa dw z<|nl ⟨z, (.inl ⟨c, _, B, (ag.step y f z z z z), O⟩)⟩
 cases (d 6 rfl).symm.trans b
 rintro D r av (⟨c, W, B, y, O⟩ | ⟨b, K, M, P, Q, I, R, J, V, W, B, am, an, ao, ap, aq, ar, ac, ae, au, y, O⟩) f i d
 obtain ⟨t, rfl⟩ := Has.ex (cC (y.get 1 rfl (i 1 rfl)) cN)
 exact ld O 0 cB z z z<|nl ⟨z, (.inl ⟨c, _, B, (ag.step y f z z z z), O⟩)⟩
 cases (d 6 rfl).symm.trans b
 rintro D r av (⟨c, W, B, y, O⟩ | ⟨b, K, M, P, Q, I, R, J, V, W, B, am, an, ao, ap, aq, ar, ac, ae, au, y, O⟩) f i d
 obtain ⟨t, rfl⟩ := Has.ex (cC (y.ins.get 2 rfl) cN)
 exact gg O 0 iD z z z z<|nl ⟨z, (.inl ⟨c, _, B, (ag.step y f z z z z), O⟩)⟩
 cases (d 6 rfl).symm.trans b
 rintro D r av (⟨c, W, B, y, O⟩ | ⟨b, K, M, P, Q, I, R, J, V, W, B, am, an, ao, ap, aq, ar, ac, ae, au, y, O⟩) f i d
 obtain ⟨t, rfl⟩ := Has.ex (cC (y.get 3 rfl (i 3 rfl)) cN)
 exact cv qh (eX a8 O aL (Dat.mono B aN) aT (Dat.mono B aO)) z z fun bz ba=>nl ⟨z, (.inl ⟨c, _, B, (ag.step y f z z z z), ba⟩)⟩
 cases (d 6 rfl).symm.trans b
 rintro D r av (⟨c, W, B, y, O⟩ | ⟨b, K, M, P, Q, I, R, J, V, W, B, am, an, ao, ap, aq, ar, ac, ae, au, y, O⟩) f i d
 obtain ⟨t, rfl⟩ := Has.ex (cC (y.ins.get 1 rfl) cN)
 exact mv z<|nl ⟨z, (.inl ⟨c, _, B, (ag.step y f z z z z), O⟩)⟩
 cases (d 6 rfl).symm.trans b
 rintro D r av (⟨c, W, B, y, O⟩ | ⟨b, K, M, P, Q, I, R, J, V, W, B, am, an, ao, ap, aq, ar, ac, ae, au, y, O⟩) f i d
 obtain ⟨t, rfl⟩ := Has.ex (cC (y.get 0 rfl (i 0 rfl)) (cC (y.get 2 rfl (i 2 rfl)) (cC (y.get 4 rfl (i 4 rfl)) (cC (y.get 5 rfl (i 5 rfl)) cN))))
 refine have bc:=Hp.rwUp O 4 z B;have bd:=Hp.pick 5 [1, 2, 3, 4, 0] bc z;ft (vs := [pointer (some ⟨p, 0, none⟩), slice X k.slices.length Y, int .i64 aQ, int .i64 S]) qV z z (fG a9 bd aW (Dat.mono B aX) aY aZ (Dat.mono B a0) a1 a2 a4 aL (Dat.mono B aN))<|?_
 rintro _ bA ⟨K, M, P, Q, I, R, J, V, be, bf, am, an, ao, ap, aq, ar, ac, ae, rfl⟩
 refine ⟨_, rfl, ?_⟩
 exact nl ⟨z, (.inr ⟨z, K, M, P, Q, I, R, J, V, _, (gT B be), am, an, ao, ap, aq, ar, ac, ae, gR, (ag.step (ag.more (new := [(6, 12, tuple [].toArray)]) y (List.forall_mem_cons.2 ⟨f, (fun _ h => nomatch h)⟩)) f z z z z), bf⟩)⟩
 cases f.symm.trans b
 intro D r av ax hR
 rcases hR with ⟨c, W, B, y, O⟩ | ⟨b, K, M, P, Q, I, R, J, V, W, B, am, an, ao, ap, aq, ar, ac, ae, au, y, O⟩
 cases (ax 6 (Nat.le_of_ble_eq_true rfl)).symm.trans c
 obtain ⟨t, rfl⟩ := Has.ex (cC (y.ins.get 0 rfl) (cC (y.ins.get 1 rfl) (cC (y.ins.get 2 rfl) cN)))
 refine a7 _ _ _<|sQ fun bB bg=>bK H fun af bh H=>iK H fun⟨aR, bi⟩H=>have aS:=iy ac bi;?_
 obtain ⟨aU, aV⟩ := Mw.ad ae aR aS
 refine aM [0, 1, 3, 7, 0, 16, 48, 112, 240, 496, 0, 0, 2048, 7168, 16383, 32767] (fun D r w => (D 15 = false ∧ ∃ (G' : Gh), W ≤ G' ∧ ag [(0, pointer (some ⟨p, 0, none⟩)), (2, int .i64 S), (4, pointer (some ⟨T, 0, none⟩))] [] [(0, 13, pointer (some ⟨p, 0, none⟩)), (1, 14, pointer (some ⟨p, 0, none⟩)), (2, 15, pointer (some ⟨p, 8, none⟩)), (3, 16, slice I R J), (4, 17, pointer (some ⟨p, 0, none⟩)), (5, 18, pointer (some ⟨p, 0, none⟩)), (6, 19, pointer (some ⟨p, 8, none⟩)), (7, 20, slice I R J), (8, 21, int .i64 (a.fills.length : Int)), (9, 22, int .i64 (aj ((a.fills.length : Int) - 1))), (10, 23, int .i64 S), (11, 24, agg [slice X k.slices.length Y, slice Z k.notes.length aa, int .i64 k.end_].toArray), (12, 25, int .i64 af), (13, 26, int .i64 (aj (S + af))), (14, 27, pointer (some (aU.add (Int.toNat (aj ((a.fills.length : Int) - 1)) * 1))))] D r ∧ Hp G' (bx p [int .i64 a.sheet.Paper.Width, int .i64 a.sheet.Paper.Height, int .i64 a.sheet.Paper.Columns, int .i64 a.sheet.Paper.Gap, int .i64 a.sheet.Paper.Scale, int .i64 a.sheet.Paper.Lang, slice K a.placed.length M, slice P a.notes.length Q, slice I R J] 67 :: tk (slice K a.placed.length M) 8 36 :: tk (slice P a.notes.length Q) 8 36 :: bO V (Kd.int .i64) I [] a.fills [] J 3 :: bx T [slice X k.slices.length Y, slice Z k.notes.length aa, int .i64 k.end_] 64 :: L) w) ∨ (D 15 = true ∧ ∃ (G' : Gh), W ≤ G' ∧ ag [(0, pointer (some ⟨p, 0, none⟩)), (2, int .i64 S), (4, pointer (some ⟨T, 0, none⟩))] [] [(0, 13, pointer (some ⟨p, 0, none⟩)), (1, 14, pointer (some ⟨p, 0, none⟩)), (2, 15, pointer (some ⟨p, 8, none⟩)), (3, 16, slice I R J), (4, 17, pointer (some ⟨p, 0, none⟩)), (5, 18, pointer (some ⟨p, 0, none⟩)), (6, 19, pointer (some ⟨p, 8, none⟩)), (7, 20, slice I R J), (8, 21, int .i64 (a.fills.length : Int)), (9, 22, int .i64 (aj ((a.fills.length : Int) - 1))), (10, 23, int .i64 S), (11, 24, agg [slice X k.slices.length Y, slice Z k.notes.length aa, int .i64 k.end_].toArray), (12, 25, int .i64 af), (13, 26, int .i64 (aj (S + af))), (14, 27, pointer (some (aU.add (Int.toNat (aj ((a.fills.length : Int) - 1)) * 1))))] D r ∧ Hp G' (bx p [int .i64 a.sheet.Paper.Width, int .i64 a.sheet.Paper.Height, int .i64 a.sheet.Paper.Columns, int .i64 a.sheet.Paper.Gap, int .i64 a.sheet.Paper.Scale, int .i64 a.sheet.Paper.Lang, slice K a.placed.length M, slice P a.notes.length Q, slice I R J] 67 :: tk (slice K a.placed.length M) 8 36 :: tk (slice P a.notes.length Q) 8 36 :: bO V (Kd.int .i64) I [] (List.set a.fills (Int.toNat (aj ((a.fills.length : Int) - 1))) (aj (S + af))) [] J 3 :: bx T [slice X k.slices.length Y, slice Z k.notes.length aa, int .i64 k.end_] 64 :: L) w)) dJ z z ?_ ?_ ?_
 exact (.inl ⟨z, _, Gh.le_refl _, ag.start ⟨z, z, z, tv⟩ trivial, O.drew⟩)
 refine ⟨?_, ?_, ?_, ?_, ?_, ?_, ?_, ?_, ?_, ?_, ?_, ?_, ?_, ?_, ?_, ?_, tv⟩
 rintro D r ab (⟨c, x, l, g, m⟩ | ⟨b, x, l, g, m⟩) f i d
 obtain ⟨t, rfl⟩ := Has.ex (cC (g.ins.get 0 rfl) cN)
 exact mv z<|nl ⟨z, (.inl ⟨c, _, l, (ag.step g f z z z z), m⟩)⟩
 cases (d 15 rfl).symm.trans b
 rintro D r ab (⟨c, x, l, g, m⟩ | ⟨b, x, l, g, m⟩) f i d
 obtain ⟨t, rfl⟩ := Has.ex (cC (g.get 0 rfl (i 0 rfl)) cN)
 exact e5 z<|nl ⟨z, (.inl ⟨c, _, l, (ag.step g f z z z z), m⟩)⟩
 cases (d 15 rfl).symm.trans b
 rintro D r ab (⟨c, x, l, g, m⟩ | ⟨b, x, l, g, m⟩) f i d
 obtain ⟨t, rfl⟩ := Has.ex (cC (g.get 1 rfl (i 1 rfl)) cN)
 exact fa gF z<|nl ⟨z, (.inl ⟨c, _, l, (ag.step g f z z z z), m⟩)⟩
 cases (d 15 rfl).symm.trans b
 rintro D r ab (⟨c, x, l, g, m⟩ | ⟨b, x, l, g, m⟩) f i d
 obtain ⟨t, rfl⟩ := Has.ex (cC (g.get 2 rfl (i 2 rfl)) cN)
 exact ld m 0 k4 z z z<|nl ⟨z, (.inl ⟨c, _, l, (ag.step g f z z z z), m⟩)⟩
 cases (d 15 rfl).symm.trans b
 rintro D r ab (⟨c, x, l, g, m⟩ | ⟨b, x, l, g, m⟩) f i d
 obtain ⟨t, rfl⟩ := Has.ex (cC (g.ins.get 0 rfl) cN)
 exact mv z<|nl ⟨z, (.inl ⟨c, _, l, (ag.step g f z z z z), m⟩)⟩
 cases (d 15 rfl).symm.trans b
 rintro D r ab (⟨c, x, l, g, m⟩ | ⟨b, x, l, g, m⟩) f i d
 obtain ⟨t, rfl⟩ := Has.ex (cC (g.get 4 rfl (i 4 rfl)) cN)
 exact e5 z<|nl ⟨z, (.inl ⟨c, _, l, (ag.step g f z z z z), m⟩)⟩
 cases (d 15 rfl).symm.trans b
 rintro D r ab (⟨c, x, l, g, m⟩ | ⟨b, x, l, g, m⟩) f i d
 obtain ⟨t, rfl⟩ := Has.ex (cC (g.get 5 rfl (i 5 rfl)) cN)
 exact fa gF z<|nl ⟨z, (.inl ⟨c, _, l, (ag.step g f z z z z), m⟩)⟩
 cases (d 15 rfl).symm.trans b
 rintro D r ab (⟨c, x, l, g, m⟩ | ⟨b, x, l, g, m⟩) f i d
 obtain ⟨t, rfl⟩ := Has.ex (cC (g.get 6 rfl (i 6 rfl)) cN)
 exact ld m 0 k4 z z z<|nl ⟨z, (.inl ⟨c, _, l, (ag.step g f z z z z), m⟩)⟩
 cases (d 15 rfl).symm.trans b
 rintro D r ab (⟨c, x, l, g, m⟩ | ⟨b, x, l, g, m⟩) f i d
 obtain ⟨t, rfl⟩ := Has.ex (cC (g.get 7 rfl (i 7 rfl)) cN)
 exact gC l6 z ac<|nl ⟨z, (.inl ⟨c, _, l, (ag.step g f z z z z), m⟩)⟩
 cases (d 15 rfl).symm.trans b
 rintro D r ab (⟨c, x, l, g, m⟩ | ⟨b, x, l, g, m⟩) f i d
 obtain ⟨t, rfl⟩ := Has.ex (cC (g.get 8 rfl (i 8 rfl)) cN)
 exact b6 z z<|nl ⟨z, (.inl ⟨c, _, l, (ag.step g f z z z z), m⟩)⟩
 cases (d 15 rfl).symm.trans b
 rintro D r ab (⟨c, x, l, g, m⟩ | ⟨b, x, l, g, m⟩) f i d
 obtain ⟨t, rfl⟩ := Has.ex (cC (g.ins.get 1 rfl) cN)
 exact mv z<|nl ⟨z, (.inl ⟨c, _, l, (ag.step g f z z z z), m⟩)⟩
 cases (d 15 rfl).symm.trans b
 rintro D r ab (⟨c, x, l, g, m⟩ | ⟨b, x, l, g, m⟩) f i d
 obtain ⟨t, rfl⟩ := Has.ex (cC (g.ins.get 2 rfl) cN)
 exact gg m 4 iD z z z z<|nl ⟨z, (.inl ⟨c, _, l, (ag.step g f z z z z), m⟩)⟩
 cases (d 15 rfl).symm.trans b
 rintro D r ab (⟨c, x, l, g, m⟩ | ⟨b, x, l, g, m⟩) f i d
 obtain ⟨t, rfl⟩ := Has.ex (cC (g.get 11 rfl (i 11 rfl)) cN)
 exact cv pu (dh bh m aL (Dat.mono (gT B l) aN) aT (Dat.mono (gT B l) aO)) z z fun bC bj=>nl ⟨z, (.inl ⟨c, _, l, (ag.step g f z z z z), bj⟩)⟩
 cases (d 15 rfl).symm.trans b
 rintro D r ab (⟨c, x, l, g, m⟩ | ⟨b, x, l, g, m⟩) f i d
 obtain ⟨t, rfl⟩ := Has.ex (cC (g.get 10 rfl (i 10 rfl)) (cC (g.get 12 rfl (i 12 rfl)) cN))
 exact bm z z<|nl ⟨z, (.inl ⟨c, _, l, (ag.step g f z z z z), m⟩)⟩
 cases (d 15 rfl).symm.trans b
 rintro D r ab (⟨c, x, l, g, m⟩ | ⟨b, x, l, g, m⟩) f i d
 obtain ⟨t, rfl⟩ := Has.ex (cC (g.get 3 rfl (i 3 rfl)) (cC (g.get 9 rfl (i 9 rfl)) cN))
 exact bL j5 z aV z aR aS<|nl ⟨z, (.inl ⟨c, _, l, (ag.step g f z z z z), m⟩)⟩
 cases (d 15 rfl).symm.trans b
 rintro D r ab (⟨c, x, l, g, m⟩ | ⟨b, x, l, g, m⟩) f i d
 obtain ⟨t, rfl⟩ := Has.ex (cC (g.get 13 rfl (i 13 rfl)) (cC (g.get 14 rfl (i 14 rfl)) cN))
 exact kp (kd := (Kd.int .i64)) m 3 (v := int .i64 (aj (S + af))) (news := [int .i64 (aj (S + af))]) (0 : Int) (aj (S + af)) bb z ae ac aV aR aS (add_zero' _) z z z z z (Nat.le_of_ble_eq_true z) gR (fun _ ho => oq ho z z) fun bD bl=>nl ⟨z, (.inr ⟨z, _, l, (ag.stepN g z z), bl⟩)⟩
 cases f.symm.trans b
 intro D r ab ax hR
 rcases hR with ⟨c, x, l, g, m⟩ | ⟨b, x, l, g, m⟩
 cases (ax 15 (Nat.le_of_ble_eq_true rfl)).symm.trans c
 obtain ⟨t, rfl⟩ := Has.ex (cC (g.ins.get 0 rfl) (cC (g.ins.get 2 rfl) cN))
 refine bg _ _ _<|iK H fun bE H=>?_
 refine aM [0, 0, 2, 6, 14, 0, 32, 126, 255, 511, 1023] (fun D r w => (D 7 = false ∧ ∃ (G' : Gh), x ≤ G' ∧ ag [(0, pointer (some ⟨p, 0, none⟩)), (4, pointer (some ⟨T, 0, none⟩))] [] [(0, 28, pointer (some ⟨p, 0, none⟩)), (1, 29, pointer (some ⟨p, 0, none⟩)), (2, 30, pointer (some ⟨p, 0, none⟩)), (3, 31, pointer (some ⟨p, 7, none⟩)), (4, 32, slice P a.notes.length Q), (5, 33, pointer (some ⟨T, 1, none⟩)), (6, 34, slice Z k.notes.length aa)] D r ∧ Hp G' (bx p [int .i64 a.sheet.Paper.Width, int .i64 a.sheet.Paper.Height, int .i64 a.sheet.Paper.Columns, int .i64 a.sheet.Paper.Gap, int .i64 a.sheet.Paper.Scale, int .i64 a.sheet.Paper.Lang, slice K a.placed.length M, slice P a.notes.length Q, slice I R J] 67 :: tk (slice K a.placed.length M) 8 36 :: tk (slice P a.notes.length Q) 8 36 :: bO V (Kd.int .i64) I [] (List.set a.fills (Int.toNat (aj ((a.fills.length : Int) - 1))) (aj (S + af))) [] J 3 :: bx T [slice X k.slices.length Y, slice Z k.notes.length aa, int .i64 k.end_] 64 :: L) w) ∨ (D 7 = true ∧ D 10 = false ∧ ∃ (q : Option Addr) (s : Nat) (G' : Gh), x ≤ G' ∧ (a.notes ++ k.notes).length ≤ s ∧ Dat ah G' q (a.notes ++ k.notes) ∧ Own q s ∧ ag [(0, pointer (some ⟨p, 0, none⟩)), (4, pointer (some ⟨T, 0, none⟩))] [] [(0, 28, pointer (some ⟨p, 0, none⟩)), (1, 29, pointer (some ⟨p, 0, none⟩)), (2, 30, pointer (some ⟨p, 0, none⟩)), (3, 31, pointer (some ⟨p, 7, none⟩)), (4, 32, slice P a.notes.length Q), (5, 33, pointer (some ⟨T, 1, none⟩)), (6, 34, slice Z k.notes.length aa), (7, 35, slice q (a.notes ++ k.notes).length s), (8, 36, pointer (some ⟨p, 0, none⟩)), (9, 37, pointer (some ⟨p, 7, none⟩))] D r ∧ Hp G' (bx p [int .i64 a.sheet.Paper.Width, int .i64 a.sheet.Paper.Height, int .i64 a.sheet.Paper.Columns, int .i64 a.sheet.Paper.Gap, int .i64 a.sheet.Paper.Scale, int .i64 a.sheet.Paper.Lang, slice K a.placed.length M, slice P a.notes.length Q, slice I R J] 67 :: tk (slice K a.placed.length M) 8 36 :: tk (slice q (a.notes ++ k.notes).length s) 8 36 :: bO V (Kd.int .i64) I [] (List.set a.fills (Int.toNat (aj ((a.fills.length : Int) - 1))) (aj (S + af))) [] J 3 :: bx T [slice X k.slices.length Y, slice Z k.notes.length aa, int .i64 k.end_] 64 :: L) w) ∨ (D 10 = true ∧ ∃ (q : Option Addr) (s : Nat) (G' : Gh), x ≤ G' ∧ (a.notes ++ k.notes).length ≤ s ∧ Dat ah G' q (a.notes ++ k.notes) ∧ Own q s ∧ ag [(0, pointer (some ⟨p, 0, none⟩)), (4, pointer (some ⟨T, 0, none⟩))] [] [(0, 28, pointer (some ⟨p, 0, none⟩)), (1, 29, pointer (some ⟨p, 0, none⟩)), (2, 30, pointer (some ⟨p, 0, none⟩)), (3, 31, pointer (some ⟨p, 7, none⟩)), (4, 32, slice P a.notes.length Q), (5, 33, pointer (some ⟨T, 1, none⟩)), (6, 34, slice Z k.notes.length aa), (7, 35, slice q (a.notes ++ k.notes).length s), (8, 36, pointer (some ⟨p, 0, none⟩)), (9, 37, pointer (some ⟨p, 7, none⟩))] D r ∧ Hp G' (bx p [int .i64 a.sheet.Paper.Width, int .i64 a.sheet.Paper.Height, int .i64 a.sheet.Paper.Columns, int .i64 a.sheet.Paper.Gap, int .i64 a.sheet.Paper.Scale, int .i64 a.sheet.Paper.Lang, slice K a.placed.length M, slice q (a.notes ++ k.notes).length s, slice I R J] 67 :: tk (slice K a.placed.length M) 8 36 :: tk (slice q (a.notes ++ k.notes).length s) 8 36 :: bO V (Kd.int .i64) I [] (List.set a.fills (Int.toNat (aj ((a.fills.length : Int) - 1))) (aj (S + af))) [] J 3 :: bx T [slice X k.slices.length Y, slice Z k.notes.length aa, int .i64 k.end_] 64 :: L) w)) dJ z z ?_ ?_ ?_
 exact (.inl ⟨z, _, Gh.le_refl _, ag.start ⟨z, z, tv⟩ trivial, m.drew⟩)
 refine ⟨?_, ?_, ?_, ?_, ?_, ?_, ?_, ?_, ?_, ?_, ?_, tv⟩
 rintro D r al (⟨c, A, n, j, o⟩ | ⟨b, c, q, s, A, n, C, E, F, j, o⟩ | ⟨b, q, s, A, n, C, E, F, j, o⟩) f i d
 obtain ⟨t, rfl⟩ := Has.ex (cC (j.ins.get 0 rfl) cN)
 exact mv z<|nl ⟨z, (.inl ⟨c, _, n, (ag.step j f z z z z), o⟩)⟩
 obtain ⟨t, rfl⟩ := Has.ex (cC (j.ins.get 0 rfl) cN)
 exact mv z<|nl ⟨z, (.inr (.inl ⟨b, c, q, s, _, n, C, E, F, (ag.step j f z z z z), o⟩))⟩
 cases (d 10 rfl).symm.trans b
 rintro D r al (⟨c, A, n, j, o⟩ | ⟨b, c, q, s, A, n, C, E, F, j, o⟩ | ⟨b, q, s, A, n, C, E, F, j, o⟩) f i d
 obtain ⟨t, rfl⟩ := Has.ex (cC (j.ins.get 0 rfl) cN)
 exact mv z<|nl ⟨z, (.inl ⟨c, _, n, (ag.step j f z z z z), o⟩)⟩
 cases (d 7 rfl).symm.trans b
 cases (d 10 rfl).symm.trans b
 rintro D r al (⟨c, A, n, j, o⟩ | ⟨b, c, q, s, A, n, C, E, F, j, o⟩ | ⟨b, q, s, A, n, C, E, F, j, o⟩) f i d
 obtain ⟨t, rfl⟩ := Has.ex (cC (j.get 1 rfl (i 1 rfl)) cN)
 exact e5 z<|nl ⟨z, (.inl ⟨c, _, n, (ag.step j f z z z z), o⟩)⟩
 cases (d 7 rfl).symm.trans b
 cases (d 10 rfl).symm.trans b
 rintro D r al (⟨c, A, n, j, o⟩ | ⟨b, c, q, s, A, n, C, E, F, j, o⟩ | ⟨b, q, s, A, n, C, E, F, j, o⟩) f i d
 obtain ⟨t, rfl⟩ := Has.ex (cC (j.get 2 rfl (i 2 rfl)) cN)
 exact fa jM z<|nl ⟨z, (.inl ⟨c, _, n, (ag.step j f z z z z), o⟩)⟩
 cases (d 7 rfl).symm.trans b
 cases (d 10 rfl).symm.trans b
 rintro D r al (⟨c, A, n, j, o⟩ | ⟨b, c, q, s, A, n, C, E, F, j, o⟩ | ⟨b, q, s, A, n, C, E, F, j, o⟩) f i d
 obtain ⟨t, rfl⟩ := Has.ex (cC (j.get 3 rfl (i 3 rfl)) cN)
 exact ld o 0 cB z z z<|nl ⟨z, (.inl ⟨c, _, n, (ag.step j f z z z z), o⟩)⟩
 cases (d 7 rfl).symm.trans b
 cases (d 10 rfl).symm.trans b
 rintro D r al (⟨c, A, n, j, o⟩ | ⟨b, c, q, s, A, n, C, E, F, j, o⟩ | ⟨b, q, s, A, n, C, E, F, j, o⟩) f i d
 obtain ⟨t, rfl⟩ := Has.ex (cC (j.ins.get 1 rfl) cN)
 exact fa jV z<|nl ⟨z, (.inl ⟨c, _, n, (ag.step j f z z z z), o⟩)⟩
 cases (d 7 rfl).symm.trans b
 cases (d 10 rfl).symm.trans b
 rintro D r al (⟨c, A, n, j, o⟩ | ⟨b, c, q, s, A, n, C, E, F, j, o⟩ | ⟨b, q, s, A, n, C, E, F, j, o⟩) f i d
 obtain ⟨t, rfl⟩ := Has.ex (cC (j.get 5 rfl (i 5 rfl)) cN)
 exact ld o 4 cB z z z<|nl ⟨z, (.inl ⟨c, _, n, (ag.step j f z z z z), o⟩)⟩
 cases (d 7 rfl).symm.trans b
 cases (d 10 rfl).symm.trans b
 rintro D r al (⟨c, A, n, j, o⟩ | ⟨b, c, q, s, A, n, C, E, F, j, o⟩ | ⟨b, q, s, A, n, C, E, F, j, o⟩) f i d
 obtain ⟨t, rfl⟩ := Has.ex (cC (j.get 4 rfl (i 4 rfl)) (cC (j.get 6 rfl (i 6 rfl)) cN))
 obtain ⟨bF, bn, bo⟩ := pA (u := 24) o dA (Dat.mono (gT (gT B l) n) aO)
 refine fx (xs := a.notes) (ys := k.notes) ah o 2 cA cP rfl rfl rfl rfl ar ap (Dat.mono (gT l n) aq) bn bo rfl (by (try simp only [List.length_cons, List.length_nil]); omega) (by (try simp only [List.length_cons, List.length_nil]); omega) (fun q s bG bH bp F C E bq => ?_)
 exact nl ⟨z, (.inr (.inl ⟨z, (d 10 z), q, s, _, (gT n bp), C, E, F, (ag.step (ag.more (new := [(7, 35, slice q (a.notes ++ k.notes).length s), (8, 36, pointer (some ⟨p, 0, none⟩)), (9, 37, pointer (some ⟨p, 7, none⟩))]) j (List.forall_mem_cons.2 ⟨f, (List.forall_mem_cons.2 ⟨d 8 z, (List.forall_mem_cons.2 ⟨d 9 z, (fun _ h => nomatch h)⟩)⟩)⟩)) f z z z z), bq⟩))⟩
 cases f.symm.trans b
 cases (d 10 rfl).symm.trans b
 rintro D r al (⟨c, A, n, j, o⟩ | ⟨b, c, q, s, A, n, C, E, F, j, o⟩ | ⟨b, q, s, A, n, C, E, F, j, o⟩) f i d
 cases (i 7 rfl).symm.trans c
 obtain ⟨t, rfl⟩ := Has.ex (cC (j.get 0 rfl (i 0 rfl)) cN)
 exact e5 z<|nl ⟨z, (.inr (.inl ⟨b, c, q, s, _, n, C, E, F, (ag.step j f z z z z), o⟩))⟩
 cases (d 10 rfl).symm.trans b
 rintro D r al (⟨c, A, n, j, o⟩ | ⟨b, c, q, s, A, n, C, E, F, j, o⟩ | ⟨b, q, s, A, n, C, E, F, j, o⟩) f i d
 cases (i 7 rfl).symm.trans c
 obtain ⟨t, rfl⟩ := Has.ex (cC (j.get 8 rfl (i 8 rfl)) cN)
 exact fa jM z<|nl ⟨z, (.inr (.inl ⟨b, c, q, s, _, n, C, E, F, (ag.step j f z z z z), o⟩))⟩
 cases (d 10 rfl).symm.trans b
 rintro D r al (⟨c, A, n, j, o⟩ | ⟨b, c, q, s, A, n, C, E, F, j, o⟩ | ⟨b, q, s, A, n, C, E, F, j, o⟩) f i d
 cases (i 7 rfl).symm.trans c
 obtain ⟨t, rfl⟩ := Has.ex (cC (j.get 7 rfl (i 7 rfl)) (cC (j.get 9 rfl (i 9 rfl)) cN))
 exact f5 o 0 cB z z z z z z z fun bI br=>nl ⟨z, (.inr (.inr ⟨z, q, s, _, n, C, E, F, (ag.stepN j z z), br⟩))⟩
 cases f.symm.trans b
 intro D r al ax hR
 rcases hR with ⟨c, A, n, j, o⟩ | ⟨b, c, q, s, A, n, C, E, F, j, o⟩ | ⟨b, q, s, A, n, C, E, F, j, o⟩
 cases (ax 7 (Nat.le_of_ble_eq_true rfl)).symm.trans c
 cases (ax 10 (Nat.le_of_ble_eq_true rfl)).symm.trans c
 obtain ⟨t, rfl⟩ := Has.ex (r := r) cN
 refine have bs:=Hp.rwUp o 3 z (gT au (gT l n));have bt:=Hp.pick 5 [0, 1, 2, 3] bs z;?_
 cases H
 exact ⟨.inl z, z, _, z, K, M, q, s, I, R, J, _, (gT (gT B l) n), bt, am, (Dat.mono (gT l n) an), ao, C, E, F, (ef ac), ae, z⟩
theorem kj {a1 : aX} {a : ak} {b : List ak} {p q s u A B} {y : ai} {G L w} (H : cV a1 a b = some y) (hI : Hp G L w) (b0 : a.slices.length ≤ q) (aN : Dat ah G p a.slices) (bl : a.notes.length ≤ u) (bo : Dat ah G s a.notes) (g0 : b.length ≤ B) (dd : Dat dL G A b) :
    Calls Try.prog 27 [agg [int .i64 a1.Paper.Width, int .i64 a1.Paper.Height, int .i64 a1.Paper.Columns, int .i64 a1.Paper.Gap, int .i64 a1.Paper.Scale, int .i64 a1.Paper.Lang].toArray, agg [slice p a.slices.length q, slice s a.notes.length u, int .i64 a.end_].toArray, slice A b.length B].toArray w fun e w' => ∃ (cn : Nat) (bp : Option Addr) (bq : Nat) (br : Option Addr) (bs : Nat) (bt : Option Addr) (b1 : Nat) (bu : Nat) (G' : Gh), G ≤ G' ∧ Hp G' (bx cn [int .i64 y.sheet.Paper.Width, int .i64 y.sheet.Paper.Height, int .i64 y.sheet.Paper.Columns, int .i64 y.sheet.Paper.Gap, int .i64 y.sheet.Paper.Scale, int .i64 y.sheet.Paper.Lang, slice bp y.placed.length bq, slice br y.notes.length bs, slice bt b1 bu] 67 :: tk (slice bp y.placed.length bq) 8 36 :: tk (slice br y.notes.length bs) 8 36 :: bO G' (Kd.int .i64) bt [] y.fills [] bu 3 :: L) w' ∧ y.placed.length ≤ bq ∧ Dat ah G' bp y.placed ∧ Own bp bq ∧ y.notes.length ≤ bs ∧ Dat ah G' br y.notes ∧ Own br bs ∧ y.fills.length = b1 ∧ Mw bt bt ([] : List Int).length b1 bu bu 1 ∧ e = .returned (pointer (some ⟨cn, 0, none⟩)) := by
 refine aw (N := 112) Try.func27 z z (Nat.le_of_ble_eq_true z)<|?_
 unfold cV at H
 refine sr fun g1 de=>jW hI z z fun l g2 dg=>jW dg z z fun k g3 co=>aK z<|nl<|de _ _ _<|nZ<|sr fun g4 di=>gg co 1 px z z z z<|?_
 refine eh co (vs := [(0, int .i64 0)]) (cs := [int .i64 0]) j5 pK rfl (by decide) rfl (by kernel_rfl) (fun i g5 dj => ?_)
 refine have dk:=Hp.rowLit (kd := (Kd.int .i64)) (t := ([0] : List Int)) (n := 1) dj ⟨[int .i64 0], _, z, z, z⟩ z;cf (vs := [(0, agg [int .i64 a1.Paper.Width, int .i64 a1.Paper.Height, int .i64 a1.Paper.Columns, int .i64 a1.Paper.Gap, int .i64 a1.Paper.Scale, int .i64 a1.Paper.Lang].toArray), (3, slice (some ⟨i, 0, none⟩) 1 1)]) (cs := [int .i64 a1.Paper.Width, int .i64 a1.Paper.Height, int .i64 a1.Paper.Columns, int .i64 a1.Paper.Gap, int .i64 a1.Paper.Scale, int .i64 a1.Paper.Lang, slice none 0 0, slice none 0 0, slice (some ⟨i, 0, none⟩) 1 1]) q7 rd z z<|jW dk z z fun g g6 b2=>aK z<|nl<|di _ _ _<|sr fun g7 dl=>fa dw z<|ld b2 2 cB z z z<|iK H fun⟨cp, cq⟩H=>?_
 obtain ⟨g8, g9, dn, dp, ha, dr⟩ := Dat.get aN aa (0) cp cq
 obtain ⟨rfl⟩ := aF dp
 refine bL cA z dn z cp cq<|eS hX z z<|et b2 bb z (gR.cel _ _ (dr 1 _ z))<|aK z<|nl<|dl _ _ _<|sr fun hb dt=>aK z<|nl<|dt _ _ _<|sr fun hc du=>aK z<|nl<|du _ _ _<|?_
 refine sQ fun hd dv=>nX<|dv _ _ _<|sQ fun he dy=>sr fun hf dz=>aK z<|nl<|dz _ _ _<|wb<|ms H fun P bv hC H=>?_
 refine aP (Q := fun e r ds w => e = .exit 0 ∧ ∃ (W : Option Addr) (Z : Nat) (aO : Gh), ds = [] ∧ G ≤ aO ∧ Has [(3, pointer (some ⟨l, 0, none⟩)), (4, pointer (some ⟨k, 0, none⟩)), (7, pointer (some ⟨g, 0, none⟩)), (9, slice W P.length Z), (10, int .i64 bv)] r ∧ Hp aO (bx g [int .i64 a1.Paper.Width, int .i64 a1.Paper.Height, int .i64 a1.Paper.Columns, int .i64 a1.Paper.Gap, int .i64 a1.Paper.Scale, int .i64 a1.Paper.Lang, slice none 0 0, slice none 0 0, slice (some ⟨i, 0, none⟩) 1 1] 67 :: bx k [slice p a.slices.length q, slice s a.notes.length u, int .i64 a.end_] 64 :: bx l [int .i64 a1.Paper.Width, int .i64 a1.Paper.Height, int .i64 a1.Paper.Columns, int .i64 a1.Paper.Gap, int .i64 a1.Paper.Scale, int .i64 a1.Paper.Lang] 56 :: bO G (Kd.int .i64) (some ⟨i, 0, none⟩) [] ([0] : List Int) [] 1 3 :: tk (slice W P.length Z) 8 36 :: L) w ∧ P.length ≤ Z ∧ Dat ah aO W P ∧ Own W Z ∧ True) ?_ ?_
 refine have dB:=Hp.emp b2;have dD:=Hp.pick 5 [1, 3, 4, 2, 0] dB z;bH fun I aM=>?_
 refine aW.partial_correctness a b (fun V aQ c o => ∀ (R : Option Addr) (S : Nat) (C : Gh) (r : Rg) (w : World), G ≤ C → Has [(2, slice A b.length B), (3, pointer (some ⟨l, 0, none⟩)), (4, pointer (some ⟨k, 0, none⟩)), (7, pointer (some ⟨g, 0, none⟩)), (8, int .i64 ((a.slices.getD (Int.toNat 0) aa).Table)), (9, slice R V.length S), (10, int .i64 aQ), (11, int .i64 c)] r → Hp C (bx g [int .i64 a1.Paper.Width, int .i64 a1.Paper.Height, int .i64 a1.Paper.Columns, int .i64 a1.Paper.Gap, int .i64 a1.Paper.Scale, int .i64 a1.Paper.Lang, slice none 0 0, slice none 0 0, slice (some ⟨i, 0, none⟩) 1 1] 67 :: bx k [slice p a.slices.length q, slice s a.notes.length u, int .i64 a.end_] 64 :: bx l [int .i64 a1.Paper.Width, int .i64 a1.Paper.Height, int .i64 a1.Paper.Columns, int .i64 a1.Paper.Gap, int .i64 a1.Paper.Scale, int .i64 a1.Paper.Lang] 56 :: bO G (Kd.int .i64) (some ⟨i, 0, none⟩) [] ([0] : List Int) [] 1 3 :: tk (slice R V.length S) 8 36 :: L) w → V.length ≤ S → Dat ah C R V → Own R S → o = (P, bv) → I r [] w) ?_ ([] : List ac) 0 0 _ hC none 0 _ _ _ gR ⟨rfl, rfl, rfl, rfl, rfl, rfl, rfl, rfl, tv⟩ dD (show ([] : List ac).length ≤ 0 from Nat.le_refl 0) (Dat.nil _ _ _) Own.nil rfl
 intro _ ih V aQ c o H R S C r hg aR h cr b3 b4 b5 ho
 rw [ho] at H; clear ho
 rw [h.eq]; clear h
 refine aM _ _ _<|sQ fun hh dE=>sr fun hi dF=>mv z<|mv z<|q_len pv z<|dq z z<|mv z<|bK H fun ct hC H=>?_
 refine jS 3 C [(2, slice A b.length B), (3, pointer (some ⟨l, 0, none⟩)), (4, pointer (some ⟨k, 0, none⟩)), (7, pointer (some ⟨g, 0, none⟩)), (8, int .i64 ((a.slices.getD (Int.toNat 0) aa).Table)), (9, slice R V.length S), (10, int .i64 aQ), (11, int .i64 c), (31, bool ct)] (bx g [int .i64 a1.Paper.Width, int .i64 a1.Paper.Height, int .i64 a1.Paper.Columns, int .i64 a1.Paper.Gap, int .i64 a1.Paper.Scale, int .i64 a1.Paper.Lang, slice none 0 0, slice none 0 0, slice (some ⟨i, 0, none⟩) 1 1] 67 :: bx k [slice p a.slices.length q, slice s a.notes.length u, int .i64 a.end_] 64 :: bx l [int .i64 a1.Paper.Width, int .i64 a1.Paper.Height, int .i64 a1.Paper.Columns, int .i64 a1.Paper.Gap, int .i64 a1.Paper.Scale, int .i64 a1.Paper.Lang] 56 :: tk (slice R V.length S) 8 36 :: bO G (Kd.int .i64) (some ⟨i, 0, none⟩) [] ([0] : List Int) [] 1 3 :: L) ?_ fun _ hj aS=>?_
 refine have H:=hC;dC (c ≤ (b.length : Int)) (fun ab=>?_) fun ab=>?_
 refine yK ab H fun H=>mv (hw:=gY z z z (bY ab)) z<|lx (hw:=gY z z z (bY ab)) z z<|cY (bY ab) z<|nl<|have dG:=Hp.pick 5 [0, 1, 2, 4, 3] cr z;?_
 cases H
 exact je ⟨z, z, z, z, z, z, z, z, z, tv⟩ dG
 refine nK ab H fun H=>Sk 2 z z (bN ab) z<|dm (bN ab) z<|nl<|have dH:=Hp.pick 5 [0, 1, 2, 4, 3] cr z;?_
 cases H
 exact je ⟨z, z, z, z, z, z, z, z, z, tv⟩ dH
 refine nl<|dF _ _ _<|dC (ct = true) (fun aT=>?_) fun aT=>?_
 refine yK aT H fun H=>wt (vY aT)<|ws<|dE _ _ _<|sQ fun hk dI=>bK H fun cu hC H=>?_
 refine aP (Q := fun e r ds w => match (generalizing := false) cu with | (Sum.inl (aU, cv)) => e = .exit 0 ∧ ∃ (an : Option Addr) (ao : Nat) (bw : Gh), ds = [] ∧ C ≤ bw ∧ Has [(3, pointer (some ⟨l, 0, none⟩)), (4, pointer (some ⟨k, 0, none⟩)), (7, pointer (some ⟨g, 0, none⟩)), (9, slice an aU.length ao), (10, int .i64 cv)] r ∧ Hp bw (bx g [int .i64 a1.Paper.Width, int .i64 a1.Paper.Height, int .i64 a1.Paper.Columns, int .i64 a1.Paper.Gap, int .i64 a1.Paper.Scale, int .i64 a1.Paper.Lang, slice none 0 0, slice none 0 0, slice (some ⟨i, 0, none⟩) 1 1] 67 :: bx k [slice p a.slices.length q, slice s a.notes.length u, int .i64 a.end_] 64 :: bx l [int .i64 a1.Paper.Width, int .i64 a1.Paper.Height, int .i64 a1.Paper.Columns, int .i64 a1.Paper.Gap, int .i64 a1.Paper.Scale, int .i64 a1.Paper.Lang] 56 :: bO G (Kd.int .i64) (some ⟨i, 0, none⟩) [] ([0] : List Int) [] 1 3 :: tk (slice an aU.length ao) 8 36 :: L) w ∧ aU.length ≤ ao ∧ Dat ah bw an aU ∧ Own an ao ∧ True | (Sum.inr (aV, cx)) => e = .normal ∧ ∃ (ap : Option Addr) (aq : Nat) (bz : Gh), ds = [] ∧ C ≤ bz ∧ Has [(2, slice A b.length B), (3, pointer (some ⟨l, 0, none⟩)), (4, pointer (some ⟨k, 0, none⟩)), (7, pointer (some ⟨g, 0, none⟩)), (8, int .i64 ((a.slices.getD (Int.toNat 0) aa).Table)), (9, slice ap aV.length aq), (10, int .i64 cx), (11, int .i64 c)] r ∧ Hp bz (bx g [int .i64 a1.Paper.Width, int .i64 a1.Paper.Height, int .i64 a1.Paper.Columns, int .i64 a1.Paper.Gap, int .i64 a1.Paper.Scale, int .i64 a1.Paper.Lang, slice none 0 0, slice none 0 0, slice (some ⟨i, 0, none⟩) 1 1] 67 :: bx k [slice p a.slices.length q, slice s a.notes.length u, int .i64 a.end_] 64 :: bx l [int .i64 a1.Paper.Width, int .i64 a1.Paper.Height, int .i64 a1.Paper.Columns, int .i64 a1.Paper.Gap, int .i64 a1.Paper.Scale, int .i64 a1.Paper.Lang] 56 :: bO G (Kd.int .i64) (some ⟨i, 0, none⟩) [] ([0] : List Int) [] 1 3 :: tk (slice ap aV.length aq) 8 36 :: L) w ∧ aV.length ≤ aq ∧ Dat ah bz ap aV ∧ Own ap aq ∧ True) ?_ ?_
 refine have H:=hC;wb<|sr fun hl dK=>fa dw z<|ld aS 1 cB z z z<|aK z<|nl<|dK _ _ _<|sQ fun hm cy=>sr fun hn dM=>mv z<|gq z z<|nl<|dM _ _ _<|?_
 refine dC (0 < c) (fun aY=>?_) fun aY=>?_
 refine yK aY H fun H=>wt (bY aY)<|aA<|mv z<|mv z<|b6 z z<|iK H fun⟨cz, cC⟩H=>?_
 obtain ⟨hp, hq, dN, dO, hr, dP⟩ := Dat.get (Dat.mono aR dd) am (aj (c - 1)) cz cC
 obtain ⟨bA, bB, hs, dQ, ht, hu, hx, hy, rfl⟩ := gp dO
 refine bL nJ z dN z cz cC<|eS dw z z<|et aS cB z (gR.cel _ _ (dP 0 _ z))<|aK z<|nl<|cy _ _ _<|sr fun hz dS=>mv z<|q_len dA z<|mv z<|nl<|dS _ _ _<|wb<|bK H fun b7 hC H=>?_
 refine aP (Q := fun e r ds w => match (generalizing := false) b7 with | (Sum.inl (aZ, cD)) => e = .exit 0 ∧ ∃ (ar : Option Addr) (au : Nat) (bC : Gh), ds = [] ∧ C ≤ bC ∧ Has [(3, pointer (some ⟨l, 0, none⟩)), (4, pointer (some ⟨k, 0, none⟩)), (7, pointer (some ⟨g, 0, none⟩)), (9, slice ar aZ.length au), (10, int .i64 cD)] r ∧ Hp bC (bx g [int .i64 a1.Paper.Width, int .i64 a1.Paper.Height, int .i64 a1.Paper.Columns, int .i64 a1.Paper.Gap, int .i64 a1.Paper.Scale, int .i64 a1.Paper.Lang, slice none 0 0, slice none 0 0, slice (some ⟨i, 0, none⟩) 1 1] 67 :: bx k [slice p a.slices.length q, slice s a.notes.length u, int .i64 a.end_] 64 :: bx l [int .i64 a1.Paper.Width, int .i64 a1.Paper.Height, int .i64 a1.Paper.Columns, int .i64 a1.Paper.Gap, int .i64 a1.Paper.Scale, int .i64 a1.Paper.Lang] 56 :: bO G (Kd.int .i64) (some ⟨i, 0, none⟩) [] ([0] : List Int) [] 1 3 :: tk (slice ar aZ.length au) 8 36 :: L) w ∧ aZ.length ≤ au ∧ Dat ah bC ar aZ ∧ Own ar au ∧ True | (Sum.inr (a0, cE)) => e = .exit 2 ∧ ∃ (av : Option Addr) (ax : Nat) (bD : Gh), ds = [] ∧ C ≤ bD ∧ Has [(2, slice A b.length B), (3, pointer (some ⟨l, 0, none⟩)), (4, pointer (some ⟨k, 0, none⟩)), (7, pointer (some ⟨g, 0, none⟩)), (8, int .i64 ((a.slices.getD (Int.toNat 0) aa).Table)), (9, slice av a0.length ax), (10, int .i64 cE), (11, int .i64 c)] r ∧ Hp bD (bx g [int .i64 a1.Paper.Width, int .i64 a1.Paper.Height, int .i64 a1.Paper.Columns, int .i64 a1.Paper.Gap, int .i64 a1.Paper.Scale, int .i64 a1.Paper.Lang, slice none 0 0, slice none 0 0, slice (some ⟨i, 0, none⟩) 1 1] 67 :: bx k [slice p a.slices.length q, slice s a.notes.length u, int .i64 a.end_] 64 :: bx l [int .i64 a1.Paper.Width, int .i64 a1.Paper.Height, int .i64 a1.Paper.Columns, int .i64 a1.Paper.Gap, int .i64 a1.Paper.Scale, int .i64 a1.Paper.Lang] 56 :: bO G (Kd.int .i64) (some ⟨i, 0, none⟩) [] ([0] : List Int) [] 1 3 :: tk (slice av a0.length ax) 8 36 :: L) w ∧ a0.length ≤ ax ∧ Dat ah bD av a0 ∧ Own av ax ∧ True) ?_ ?_
 refine have dT:=Hp.pick 5 [0, 1, 2, 4, 3] aS z;bH fun I aM=>?_
 refine bf.partial_correctness a b c (fun K a4 d o => ∀ (D : Option Addr) (E : Nat) (af : Gh) (r : Rg) (w : World), C ≤ af → Has [(2, slice A b.length B), (3, pointer (some ⟨l, 0, none⟩)), (4, pointer (some ⟨k, 0, none⟩)), (7, pointer (some ⟨g, 0, none⟩)), (8, int .i64 ((a.slices.getD (Int.toNat 0) aa).Table)), (9, slice D K.length E), (10, int .i64 a4), (11, int .i64 c), (44, slice bA ((b.getD (Int.toNat (aj (c - 1))) am).slices).length bB), (45, int .i64 (((b.getD (Int.toNat (aj (c - 1))) am).slices).length : Int)), (46, int .i64 d)] r → Hp af (bx g [int .i64 a1.Paper.Width, int .i64 a1.Paper.Height, int .i64 a1.Paper.Columns, int .i64 a1.Paper.Gap, int .i64 a1.Paper.Scale, int .i64 a1.Paper.Lang, slice none 0 0, slice none 0 0, slice (some ⟨i, 0, none⟩) 1 1] 67 :: bx k [slice p a.slices.length q, slice s a.notes.length u, int .i64 a.end_] 64 :: bx l [int .i64 a1.Paper.Width, int .i64 a1.Paper.Height, int .i64 a1.Paper.Columns, int .i64 a1.Paper.Gap, int .i64 a1.Paper.Scale, int .i64 a1.Paper.Lang] 56 :: bO G (Kd.int .i64) (some ⟨i, 0, none⟩) [] ([0] : List Int) [] 1 3 :: tk (slice D K.length E) 8 36 :: L) w → K.length ≤ E → Dat ah af D K → Own D E → o = b7 → I r [] w) ?_ V aQ 0 _ hC R S _ _ _ gR ⟨rfl, rfl, rfl, rfl, rfl, rfl, rfl, rfl, rfl, rfl, rfl, tv⟩ dT b3 b4 b5 rfl
 intro _ ih K a4 d o H D E af r hA bE h b8 bF bG bI ho
 rw [ho] at H; clear ho
 rw [h.eq]; clear h
 refine aM _ _ _<|sr fun hB dV=>cZ z z<|nl<|dV _ _ _<|sQ fun hD dW=>dC (d < (((b.getD (Int.toNat (aj (c - 1))) am).slices).length : Int)) (fun a5=>?_) fun a5=>?_
 refine yK a5 H fun H=>wt (bY a5)<|ws<|dW _ _ _<|sQ fun hE dX=>bK H fun cF hC H=>?_
 refine aP (Q := fun e r ds w => match (generalizing := false) cF with | (Sum.inl _) => e = .exit 0 ∧ ds = [] ∧ Has [(3, pointer (some ⟨l, 0, none⟩)), (4, pointer (some ⟨k, 0, none⟩)), (7, pointer (some ⟨g, 0, none⟩)), (9, slice D K.length E), (10, int .i64 a4)] r ∧ Hp af (bx g [int .i64 a1.Paper.Width, int .i64 a1.Paper.Height, int .i64 a1.Paper.Columns, int .i64 a1.Paper.Gap, int .i64 a1.Paper.Scale, int .i64 a1.Paper.Lang, slice none 0 0, slice none 0 0, slice (some ⟨i, 0, none⟩) 1 1] 67 :: bx k [slice p a.slices.length q, slice s a.notes.length u, int .i64 a.end_] 64 :: bx l [int .i64 a1.Paper.Width, int .i64 a1.Paper.Height, int .i64 a1.Paper.Columns, int .i64 a1.Paper.Gap, int .i64 a1.Paper.Scale, int .i64 a1.Paper.Lang] 56 :: tk (slice D K.length E) 8 36 :: bO G (Kd.int .i64) (some ⟨i, 0, none⟩) [] ([0] : List Int) [] 1 3 :: L) w ∧ True | (Sum.inr (a6, cG)) => e = .normal ∧ ∃ (ay : Option Addr) (az : Nat) (bJ : Gh), ds = [] ∧ af ≤ bJ ∧ Has [(2, slice A b.length B), (3, pointer (some ⟨l, 0, none⟩)), (4, pointer (some ⟨k, 0, none⟩)), (7, pointer (some ⟨g, 0, none⟩)), (8, int .i64 ((a.slices.getD (Int.toNat 0) aa).Table)), (9, slice ay a6.length az), (10, int .i64 cG), (11, int .i64 c), (44, slice bA ((b.getD (Int.toNat (aj (c - 1))) am).slices).length bB), (45, int .i64 (((b.getD (Int.toNat (aj (c - 1))) am).slices).length : Int)), (46, int .i64 d)] r ∧ Hp bJ (bx g [int .i64 a1.Paper.Width, int .i64 a1.Paper.Height, int .i64 a1.Paper.Columns, int .i64 a1.Paper.Gap, int .i64 a1.Paper.Scale, int .i64 a1.Paper.Lang, slice none 0 0, slice none 0 0, slice (some ⟨i, 0, none⟩) 1 1] 67 :: bx k [slice p a.slices.length q, slice s a.notes.length u, int .i64 a.end_] 64 :: bx l [int .i64 a1.Paper.Width, int .i64 a1.Paper.Height, int .i64 a1.Paper.Columns, int .i64 a1.Paper.Gap, int .i64 a1.Paper.Scale, int .i64 a1.Paper.Lang] 56 :: bO G (Kd.int .i64) (some ⟨i, 0, none⟩) [] ([0] : List Int) [] 1 3 :: tk (slice ay a6.length az) 8 36 :: L) w ∧ a6.length ≤ az ∧ Dat ah bJ ay a6 ∧ Own ay az ∧ True) ?_ ?_
 refine have H:=hC;wb<|sr fun hF dY=>iK H fun⟨cH, cI⟩H=>?_
 obtain ⟨hG, hH, dZ, d0, hJ, d1⟩ := Dat.get (Dat.mono bE dQ) aa (d) cH cI
 obtain ⟨rfl⟩ := aF d0
 refine bL cA z dZ z cH cI<|fq b8 dx z (cs := [int .i64 ((((b.getD (Int.toNat (aj (c - 1))) am).slices).getD (Int.toNat d) aa).Node), int .i64 ((((b.getD (Int.toNat (aj (c - 1))) am).slices).getD (Int.toNat d) aa).Table), int .i64 ((((b.getD (Int.toNat (aj (c - 1))) am).slices).getD (Int.toNat d) aa).X), int .i64 ((((b.getD (Int.toNat (aj (c - 1))) am).slices).getD (Int.toNat d) aa).Y), int .i64 ((((b.getD (Int.toNat (aj (c - 1))) am).slices).getD (Int.toNat d) aa).H), string ((((b.getD (Int.toNat (aj (c - 1))) am).slices).getD (Int.toNat d) aa).Text), bool ((((b.getD (Int.toNat (aj (c - 1))) am).slices).getD (Int.toNat d) aa).Head), bool ((((b.getD (Int.toNat (aj (c - 1))) am).slices).getD (Int.toNat d) aa).Note)]) z (fun j v hv => gR.cel _ _ (d1 j v hv))<|bQ b8 cP fun b9 hK d2=>f5 d2 0 dx z z z z z z z fun hL ca=>nl<|dY _ _ _<|wb<|sr fun hM d3=>fa lZ z<|ld ca 0 jK z z z<|mv z<|bK H fun cJ hC H=>?_
 refine jS 3 af [(2, slice A b.length B), (3, pointer (some ⟨l, 0, none⟩)), (4, pointer (some ⟨k, 0, none⟩)), (7, pointer (some ⟨g, 0, none⟩)), (8, int .i64 ((a.slices.getD (Int.toNat 0) aa).Table)), (9, slice D K.length E), (10, int .i64 a4), (11, int .i64 c), (14, pointer (some ⟨b9, 0, none⟩)), (44, slice bA ((b.getD (Int.toNat (aj (c - 1))) am).slices).length bB), (45, int .i64 (((b.getD (Int.toNat (aj (c - 1))) am).slices).length : Int)), (46, int .i64 d), (56, bool cJ)] (bx b9 [int .i64 ((((b.getD (Int.toNat (aj (c - 1))) am).slices).getD (Int.toNat d) aa).Node), int .i64 ((((b.getD (Int.toNat (aj (c - 1))) am).slices).getD (Int.toNat d) aa).Table), int .i64 ((((b.getD (Int.toNat (aj (c - 1))) am).slices).getD (Int.toNat d) aa).X), int .i64 ((((b.getD (Int.toNat (aj (c - 1))) am).slices).getD (Int.toNat d) aa).Y), int .i64 ((((b.getD (Int.toNat (aj (c - 1))) am).slices).getD (Int.toNat d) aa).H), string ((((b.getD (Int.toNat (aj (c - 1))) am).slices).getD (Int.toNat d) aa).Text), bool ((((b.getD (Int.toNat (aj (c - 1))) am).slices).getD (Int.toNat d) aa).Head), bool ((((b.getD (Int.toNat (aj (c - 1))) am).slices).getD (Int.toNat d) aa).Note)] 36 :: bx g [int .i64 a1.Paper.Width, int .i64 a1.Paper.Height, int .i64 a1.Paper.Columns, int .i64 a1.Paper.Gap, int .i64 a1.Paper.Scale, int .i64 a1.Paper.Lang, slice none 0 0, slice none 0 0, slice (some ⟨i, 0, none⟩) 1 1] 67 :: bx k [slice p a.slices.length q, slice s a.notes.length u, int .i64 a.end_] 64 :: bx l [int .i64 a1.Paper.Width, int .i64 a1.Paper.Height, int .i64 a1.Paper.Columns, int .i64 a1.Paper.Gap, int .i64 a1.Paper.Scale, int .i64 a1.Paper.Lang] 56 :: tk (slice D K.length E) 8 36 :: bO G (Kd.int .i64) (some ⟨i, 0, none⟩) [] ([0] : List Int) [] 1 3 :: L) ?_ fun _ hN aB=>?_
 refine have H:=hC;dC (((((b.getD (Int.toNat (aj (c - 1))) am).slices).getD (Int.toNat d) aa).Head) = true) (fun ad=>?_) fun ad=>?_
 refine yK ad H fun H=>mv (hw:=gY z z z (vY ad)) z<|ei (hw:=gY z z z (vY ad)) z z<|cY (vY ad) z<|nl<|have d4:=Hp.pick 6 [0, 1, 2, 3, 5, 4] ca z;?_
 cases H
 exact je ⟨z, z, z, z, z, z, z, z, z, z, z, z, z, tv⟩ d4
 refine nK ad H fun H=>Sk 2 z z (vN ad) z<|dm (vN ad) z<|nl<|have d5:=Hp.pick 6 [0, 1, 2, 3, 5, 4] ca z;?_
 cases H
 exact je ⟨z, z, z, z, z, z, z, z, z, z, z, z, z, tv⟩ d5
 refine aK z<|nl<|d3 _ _ _<|dC (cJ = true) (fun a7=>?_) fun a7=>?_
 refine yK a7 H fun H=>wt (vY a7)<|wx<|have d6:=Hp.pick 6 [1, 2, 3, 4, 5] aB z;?_
 cases H
 exact ⟨z, z, ⟨z, z, z, z, z, tv⟩, d6, tv⟩
 refine nK a7 H fun H=>wf (vN a7)<|sr fun hO d7=>fa lZ z<|ld aB 0 jK z z z<|mv z<|bK H fun cK hC H=>?_
 refine js 5 aB [(2, slice A b.length B), (3, pointer (some ⟨l, 0, none⟩)), (4, pointer (some ⟨k, 0, none⟩)), (7, pointer (some ⟨g, 0, none⟩)), (8, int .i64 ((a.slices.getD (Int.toNat 0) aa).Table)), (9, slice D K.length E), (10, int .i64 a4), (11, int .i64 c), (14, pointer (some ⟨b9, 0, none⟩)), (44, slice bA ((b.getD (Int.toNat (aj (c - 1))) am).slices).length bB), (45, int .i64 (((b.getD (Int.toNat (aj (c - 1))) am).slices).length : Int)), (46, int .i64 d), (65, bool cK)] ?_ fun _ hP cb=>?_
 refine have H:=hC;dC (((((b.getD (Int.toNat (aj (c - 1))) am).slices).getD (Int.toNat d) aa).Head) = true) (fun T=>?_) fun T=>?_
 refine yK T H fun H=>fa (hw:=gY z z z (vY T)) hX z<|ld (hw:=gY z z z (vY T)) aB 0 bb z z z<|mv (hw:=gY z z z (vY T)) z<|ei (hw:=gY z z z (vY T)) z z<|cY (vY T) z<|nl<|?_
 cases H
 exact je ⟨z, z, z, z, z, z, z, z, z, z, z, z, z, tv⟩ aB
 refine nK T H fun H=>Sk 4 z z (vN T) z<|dm (vN T) z<|nl<|?_
 cases H
 exact je ⟨z, z, z, z, z, z, z, z, z, z, z, z, z, tv⟩ aB
 refine aK z<|nl<|d7 _ _ _<|dC (cK = true) (fun a8=>?_) fun a8=>?_
 refine yK a8 H fun H=>wt (vY a8)<|sr fun hQ d8=>mv z<|gg cb 0 dx z z z z<|?_
 refine eh cb (vs := [(0, agg [int .i64 ((((b.getD (Int.toNat (aj (c - 1))) am).slices).getD (Int.toNat d) aa).Node), int .i64 ((((b.getD (Int.toNat (aj (c - 1))) am).slices).getD (Int.toNat d) aa).Table), int .i64 ((((b.getD (Int.toNat (aj (c - 1))) am).slices).getD (Int.toNat d) aa).X), int .i64 ((((b.getD (Int.toNat (aj (c - 1))) am).slices).getD (Int.toNat d) aa).Y), int .i64 ((((b.getD (Int.toNat (aj (c - 1))) am).slices).getD (Int.toNat d) aa).H), string ((((b.getD (Int.toNat (aj (c - 1))) am).slices).getD (Int.toNat d) aa).Text), bool ((((b.getD (Int.toNat (aj (c - 1))) am).slices).getD (Int.toNat d) aa).Head), bool ((((b.getD (Int.toNat (aj (c - 1))) am).slices).getD (Int.toNat d) aa).Note)].toArray)]) (cs := [int .i64 ((((b.getD (Int.toNat (aj (c - 1))) am).slices).getD (Int.toNat d) aa).Node), int .i64 ((((b.getD (Int.toNat (aj (c - 1))) am).slices).getD (Int.toNat d) aa).Table), int .i64 ((((b.getD (Int.toNat (aj (c - 1))) am).slices).getD (Int.toNat d) aa).X), int .i64 ((((b.getD (Int.toNat (aj (c - 1))) am).slices).getD (Int.toNat d) aa).Y), int .i64 ((((b.getD (Int.toNat (aj (c - 1))) am).slices).getD (Int.toNat d) aa).H), string ((((b.getD (Int.toNat (aj (c - 1))) am).slices).getD (Int.toNat d) aa).Text), bool ((((b.getD (Int.toNat (aj (c - 1))) am).slices).getD (Int.toNat d) aa).Head), bool ((((b.getD (Int.toNat (aj (c - 1))) am).slices).getD (Int.toNat d) aa).Note)]) cA cP rfl (by decide) rfl (by kernel_rfl) (fun hR hS cL => ?_)
 refine iK H fun hT H=>?_
 refine fx (xs := K) (ys := [(((b.getD (Int.toNat (aj (c - 1))) am).slices).getD (Int.toNat d) aa)]) ah cL 5 cA cP rfl rfl rfl rfl bI bF bG (dU cL 0 dA rfl rfl) ⟨[int .i64 ((((b.getD (Int.toNat (aj (c - 1))) am).slices).getD (Int.toNat d) aa).Node), int .i64 ((((b.getD (Int.toNat (aj (c - 1))) am).slices).getD (Int.toNat d) aa).Table), int .i64 ((((b.getD (Int.toNat (aj (c - 1))) am).slices).getD (Int.toNat d) aa).X), int .i64 ((((b.getD (Int.toNat (aj (c - 1))) am).slices).getD (Int.toNat d) aa).Y), int .i64 ((((b.getD (Int.toNat (aj (c - 1))) am).slices).getD (Int.toNat d) aa).H), string ((((b.getD (Int.toNat (aj (c - 1))) am).slices).getD (Int.toNat d) aa).Text), bool ((((b.getD (Int.toNat (aj (c - 1))) am).slices).getD (Int.toNat d) aa).Head), bool ((((b.getD (Int.toNat (aj (c - 1))) am).slices).getD (Int.toNat d) aa).Note)], _, rfl, (aH (x := (((b.getD (Int.toNat (aj (c - 1))) am).slices).getD (Int.toNat d) aa))), rfl⟩ rfl (by simp only [List.length_cons, List.length_nil]; omega) (by simp only [List.length_cons, List.length_nil]; omega) (fun d9 ea hU hV eb ec ed cM ef => ?_)
 refine aK z<|nl<|d8 _ _ _<|?_
 refine ie dJ (by kernel_rfl) ?_
 refine have bM:=ef.drew;wq (mv z bc) z<|wq (fa bn z bc) z<|wq (ld bM 1 bb z z z bc) z<|wq (fa cm z bc) z<|wq (ld bM 1 bb z z z bc) z<|wq (bm z z bc) z<|wq (mv z bc) z<|iK H fun⟨cN, cO⟩H=>?_
 obtain ⟨hW, hY, eg, ej, hZ, ek⟩ := Dat.get cM aa (0) cN cO
 obtain ⟨rfl⟩ := aF ej
 refine wq (bL cA z eg z cN cO bc) z<|wq (eS bn z z bc) z<|wq (et bM bb z (gR.cel _ _ (ek 3 _ z)) bc) z<|wq (b6 z z bc) z<|wq (dR z z bc) z<|wq (aK z bc) z<|iM<|have el:=Hp.pick 7 [2, 3, 4, 6, 5] bM z;?_
 cases H
 exact ⟨z, d9, ea, _, z, eb, ⟨z, z, z, z, z, z, z, z, z, z, z, tv⟩, el, ed, cM, ec, tv⟩
 refine nK a8 H fun H=>wf (vN a8)<|ws<|have em:=Hp.pick 6 [1, 2, 3, 5, 4] cb z;?_
 cases H
 exact ⟨z, D, E, _, z, gR, ⟨z, z, z, z, z, z, z, z, z, z, z, tv⟩, em, bF, bG, bI, tv⟩
 rcases cF with _ | ⟨a6, cG⟩
 rintro e r ds h0 ⟨rfl, rfl, h, en, _⟩
 rw [h.eq]; clear h
 refine have eo:=Hp.pick 5 [0, 1, 2, 4, 3] en z;?_
 cases H
 exact ⟨z, D, E, _, z, bE, ⟨z, z, z, z, z, tv⟩, eo, bF, bG, bI, tv⟩
 rintro e r ds h1 ⟨rfl, ay, az, bJ, rfl, ep, h, er, es, eu, ev, _⟩
 rw [h.eq]; clear h
 exact dX _ _ _<|aA<|bm z z<|mv z<|nl<|ih _ _ _ _ H ay az _ _ _ (gT bE ep) ⟨z, z, z, z, z, z, z, z, z, z, z, tv⟩ er es eu ev z
 refine nK a5 H fun H=>wf (bN a5)<|wx<|?_
 cases H
 exact ⟨z, D, E, _, z, bE, ⟨z, z, z, z, z, z, z, z, tv⟩, b8, bF, bG, bI, tv⟩
 rcases b7 with ⟨aZ, cD⟩ | ⟨a0, cE⟩
 rintro e r ds h2 ⟨rfl, ar, au, bC, rfl, ew, h, ex, ey, ez, eA, _⟩
 rw [h.eq]; clear h
 cases H
 exact ⟨z, ar, au, _, z, ew, ⟨z, z, z, z, z, tv⟩, ex, ey, ez, eA, tv⟩
 rintro e r ds h3 ⟨rfl, av, ax, bD, rfl, eB, h, eC, eD, eE, eF, _⟩
 rw [h.eq]; clear h
 cases H
 exact ⟨z, av, ax, _, z, eB, ⟨z, z, z, z, z, z, z, z, tv⟩, eC, eD, eE, eF, tv⟩
 refine nK aY H fun H=>wf (bN aY)<|ws<|cy _ _ _<|sr fun h4 eH=>mv z<|q_len dA z<|mv z<|nl<|eH _ _ _<|wb<|bK H fun cc hC H=>?_
 refine aP (Q := fun e r ds w => match (generalizing := false) cc with | (Sum.inl (a9, cQ)) => e = .exit 0 ∧ ∃ (aC : Option Addr) (aD : Nat) (bP : Gh), ds = [] ∧ C ≤ bP ∧ Has [(3, pointer (some ⟨l, 0, none⟩)), (4, pointer (some ⟨k, 0, none⟩)), (7, pointer (some ⟨g, 0, none⟩)), (9, slice aC a9.length aD), (10, int .i64 cQ)] r ∧ Hp bP (bx g [int .i64 a1.Paper.Width, int .i64 a1.Paper.Height, int .i64 a1.Paper.Columns, int .i64 a1.Paper.Gap, int .i64 a1.Paper.Scale, int .i64 a1.Paper.Lang, slice none 0 0, slice none 0 0, slice (some ⟨i, 0, none⟩) 1 1] 67 :: bx k [slice p a.slices.length q, slice s a.notes.length u, int .i64 a.end_] 64 :: bx l [int .i64 a1.Paper.Width, int .i64 a1.Paper.Height, int .i64 a1.Paper.Columns, int .i64 a1.Paper.Gap, int .i64 a1.Paper.Scale, int .i64 a1.Paper.Lang] 56 :: bO G (Kd.int .i64) (some ⟨i, 0, none⟩) [] ([0] : List Int) [] 1 3 :: tk (slice aC a9.length aD) 8 36 :: L) w ∧ a9.length ≤ aD ∧ Dat ah bP aC a9 ∧ Own aC aD ∧ True | (Sum.inr (ba, cR)) => e = .exit 2 ∧ ∃ (aE : Option Addr) (aG : Nat) (bR : Gh), ds = [] ∧ C ≤ bR ∧ Has [(2, slice A b.length B), (3, pointer (some ⟨l, 0, none⟩)), (4, pointer (some ⟨k, 0, none⟩)), (7, pointer (some ⟨g, 0, none⟩)), (8, int .i64 ((a.slices.getD (Int.toNat 0) aa).Table)), (9, slice aE ba.length aG), (10, int .i64 cR), (11, int .i64 c)] r ∧ Hp bR (bx g [int .i64 a1.Paper.Width, int .i64 a1.Paper.Height, int .i64 a1.Paper.Columns, int .i64 a1.Paper.Gap, int .i64 a1.Paper.Scale, int .i64 a1.Paper.Lang, slice none 0 0, slice none 0 0, slice (some ⟨i, 0, none⟩) 1 1] 67 :: bx k [slice p a.slices.length q, slice s a.notes.length u, int .i64 a.end_] 64 :: bx l [int .i64 a1.Paper.Width, int .i64 a1.Paper.Height, int .i64 a1.Paper.Columns, int .i64 a1.Paper.Gap, int .i64 a1.Paper.Scale, int .i64 a1.Paper.Lang] 56 :: bO G (Kd.int .i64) (some ⟨i, 0, none⟩) [] ([0] : List Int) [] 1 3 :: tk (slice aE ba.length aG) 8 36 :: L) w ∧ ba.length ≤ aG ∧ Dat ah bR aE ba ∧ Own aE aG ∧ True) ?_ ?_
 refine have eI:=Hp.pick 5 [0, 1, 2, 4, 3] aS z;bH fun I aM=>?_
 refine bg.partial_correctness a c (fun M bd f o => ∀ (F : Option Addr) (J : Nat) (ag : Gh) (r : Rg) (w : World), C ≤ ag → Has [(2, slice A b.length B), (3, pointer (some ⟨l, 0, none⟩)), (4, pointer (some ⟨k, 0, none⟩)), (7, pointer (some ⟨g, 0, none⟩)), (8, int .i64 ((a.slices.getD (Int.toNat 0) aa).Table)), (9, slice F M.length J), (10, int .i64 bd), (11, int .i64 c), (44, slice p a.slices.length q), (45, int .i64 (a.slices.length : Int)), (46, int .i64 f)] r → Hp ag (bx g [int .i64 a1.Paper.Width, int .i64 a1.Paper.Height, int .i64 a1.Paper.Columns, int .i64 a1.Paper.Gap, int .i64 a1.Paper.Scale, int .i64 a1.Paper.Lang, slice none 0 0, slice none 0 0, slice (some ⟨i, 0, none⟩) 1 1] 67 :: bx k [slice p a.slices.length q, slice s a.notes.length u, int .i64 a.end_] 64 :: bx l [int .i64 a1.Paper.Width, int .i64 a1.Paper.Height, int .i64 a1.Paper.Columns, int .i64 a1.Paper.Gap, int .i64 a1.Paper.Scale, int .i64 a1.Paper.Lang] 56 :: bO G (Kd.int .i64) (some ⟨i, 0, none⟩) [] ([0] : List Int) [] 1 3 :: tk (slice F M.length J) 8 36 :: L) w → M.length ≤ J → Dat ah ag F M → Own F J → o = cc → I r [] w) ?_ V aQ 0 _ hC R S _ _ _ gR ⟨rfl, rfl, rfl, rfl, rfl, rfl, rfl, rfl, rfl, rfl, rfl, tv⟩ eI b3 b4 b5 rfl
 intro _ ih M bd f o H F J ag r h5 bS h cd bT bU bV ho
 rw [ho] at H; clear ho
 rw [h.eq]; clear h
 refine aM _ _ _<|sr fun h6 eJ=>cZ z z<|nl<|eJ _ _ _<|sQ fun h7 eK=>dC (f < (a.slices.length : Int)) (fun be=>?_) fun be=>?_
 refine yK be H fun H=>wt (bY be)<|ws<|eK _ _ _<|sQ fun h8 eL=>bK H fun cS hC H=>?_
 refine aP (Q := fun e r ds w => match (generalizing := false) cS with | (Sum.inl _) => e = .exit 0 ∧ ds = [] ∧ Has [(3, pointer (some ⟨l, 0, none⟩)), (4, pointer (some ⟨k, 0, none⟩)), (7, pointer (some ⟨g, 0, none⟩)), (9, slice F M.length J), (10, int .i64 bd)] r ∧ Hp ag (bx g [int .i64 a1.Paper.Width, int .i64 a1.Paper.Height, int .i64 a1.Paper.Columns, int .i64 a1.Paper.Gap, int .i64 a1.Paper.Scale, int .i64 a1.Paper.Lang, slice none 0 0, slice none 0 0, slice (some ⟨i, 0, none⟩) 1 1] 67 :: bx k [slice p a.slices.length q, slice s a.notes.length u, int .i64 a.end_] 64 :: bx l [int .i64 a1.Paper.Width, int .i64 a1.Paper.Height, int .i64 a1.Paper.Columns, int .i64 a1.Paper.Gap, int .i64 a1.Paper.Scale, int .i64 a1.Paper.Lang] 56 :: tk (slice F M.length J) 8 36 :: bO G (Kd.int .i64) (some ⟨i, 0, none⟩) [] ([0] : List Int) [] 1 3 :: L) w ∧ True | (Sum.inr (bh, cT)) => e = .normal ∧ ∃ (aI : Option Addr) (aJ : Nat) (bW : Gh), ds = [] ∧ ag ≤ bW ∧ Has [(2, slice A b.length B), (3, pointer (some ⟨l, 0, none⟩)), (4, pointer (some ⟨k, 0, none⟩)), (7, pointer (some ⟨g, 0, none⟩)), (8, int .i64 ((a.slices.getD (Int.toNat 0) aa).Table)), (9, slice aI bh.length aJ), (10, int .i64 cT), (11, int .i64 c), (44, slice p a.slices.length q), (45, int .i64 (a.slices.length : Int)), (46, int .i64 f)] r ∧ Hp bW (bx g [int .i64 a1.Paper.Width, int .i64 a1.Paper.Height, int .i64 a1.Paper.Columns, int .i64 a1.Paper.Gap, int .i64 a1.Paper.Scale, int .i64 a1.Paper.Lang, slice none 0 0, slice none 0 0, slice (some ⟨i, 0, none⟩) 1 1] 67 :: bx k [slice p a.slices.length q, slice s a.notes.length u, int .i64 a.end_] 64 :: bx l [int .i64 a1.Paper.Width, int .i64 a1.Paper.Height, int .i64 a1.Paper.Columns, int .i64 a1.Paper.Gap, int .i64 a1.Paper.Scale, int .i64 a1.Paper.Lang] 56 :: bO G (Kd.int .i64) (some ⟨i, 0, none⟩) [] ([0] : List Int) [] 1 3 :: tk (slice aI bh.length aJ) 8 36 :: L) w ∧ bh.length ≤ aJ ∧ Dat ah bW aI bh ∧ Own aI aJ ∧ True) ?_ ?_
 refine have H:=hC;wb<|sr fun h9 eM=>iK H fun⟨cU, cW⟩H=>?_
 obtain ⟨ia, ib, eN, eO, ic, eP⟩ := Dat.get (Dat.mono (gT aR bS) aN) aa (f) cU cW
 obtain ⟨rfl⟩ := aF eO
 refine bL cA z eN z cU cW<|fq cd dx z (cs := [int .i64 ((a.slices.getD (Int.toNat f) aa).Node), int .i64 ((a.slices.getD (Int.toNat f) aa).Table), int .i64 ((a.slices.getD (Int.toNat f) aa).X), int .i64 ((a.slices.getD (Int.toNat f) aa).Y), int .i64 ((a.slices.getD (Int.toNat f) aa).H), string ((a.slices.getD (Int.toNat f) aa).Text), bool ((a.slices.getD (Int.toNat f) aa).Head), bool ((a.slices.getD (Int.toNat f) aa).Note)]) z (fun j v hv => gR.cel _ _ (eP j v hv))<|bQ cd cP fun ce id eQ=>f5 eQ 0 dx z z z z z z z fun ig cg=>nl<|eM _ _ _<|wb<|sr fun ii eR=>fa lZ z<|ld cg 0 jK z z z<|mv z<|bK H fun cX hC H=>?_
 refine jS 3 ag [(2, slice A b.length B), (3, pointer (some ⟨l, 0, none⟩)), (4, pointer (some ⟨k, 0, none⟩)), (7, pointer (some ⟨g, 0, none⟩)), (8, int .i64 ((a.slices.getD (Int.toNat 0) aa).Table)), (9, slice F M.length J), (10, int .i64 bd), (11, int .i64 c), (14, pointer (some ⟨ce, 0, none⟩)), (44, slice p a.slices.length q), (45, int .i64 (a.slices.length : Int)), (46, int .i64 f), (56, bool cX)] (bx ce [int .i64 ((a.slices.getD (Int.toNat f) aa).Node), int .i64 ((a.slices.getD (Int.toNat f) aa).Table), int .i64 ((a.slices.getD (Int.toNat f) aa).X), int .i64 ((a.slices.getD (Int.toNat f) aa).Y), int .i64 ((a.slices.getD (Int.toNat f) aa).H), string ((a.slices.getD (Int.toNat f) aa).Text), bool ((a.slices.getD (Int.toNat f) aa).Head), bool ((a.slices.getD (Int.toNat f) aa).Note)] 36 :: bx g [int .i64 a1.Paper.Width, int .i64 a1.Paper.Height, int .i64 a1.Paper.Columns, int .i64 a1.Paper.Gap, int .i64 a1.Paper.Scale, int .i64 a1.Paper.Lang, slice none 0 0, slice none 0 0, slice (some ⟨i, 0, none⟩) 1 1] 67 :: bx k [slice p a.slices.length q, slice s a.notes.length u, int .i64 a.end_] 64 :: bx l [int .i64 a1.Paper.Width, int .i64 a1.Paper.Height, int .i64 a1.Paper.Columns, int .i64 a1.Paper.Gap, int .i64 a1.Paper.Scale, int .i64 a1.Paper.Lang] 56 :: tk (slice F M.length J) 8 36 :: bO G (Kd.int .i64) (some ⟨i, 0, none⟩) [] ([0] : List Int) [] 1 3 :: L) ?_ fun _ ij aL=>?_
 refine have H:=hC;dC (((a.slices.getD (Int.toNat f) aa).Head) = true) (fun ae=>?_) fun ae=>?_
 refine yK ae H fun H=>mv (hw:=gY z z z (vY ae)) z<|ei (hw:=gY z z z (vY ae)) z z<|cY (vY ae) z<|nl<|have eT:=Hp.pick 6 [0, 1, 2, 3, 5, 4] cg z;?_
 cases H
 exact je ⟨z, z, z, z, z, z, z, z, z, z, z, z, z, tv⟩ eT
 refine nK ae H fun H=>Sk 2 z z (vN ae) z<|dm (vN ae) z<|nl<|have eU:=Hp.pick 6 [0, 1, 2, 3, 5, 4] cg z;?_
 cases H
 exact je ⟨z, z, z, z, z, z, z, z, z, z, z, z, z, tv⟩ eU
 refine aK z<|nl<|eR _ _ _<|dC (cX = true) (fun bi=>?_) fun bi=>?_
 refine yK bi H fun H=>wt (vY bi)<|wx<|have eV:=Hp.pick 6 [1, 2, 3, 4, 5] aL z;?_
 cases H
 exact ⟨z, z, ⟨z, z, z, z, z, tv⟩, eV, tv⟩
 refine nK bi H fun H=>wf (vN bi)<|sr fun ik eW=>fa lZ z<|ld aL 0 jK z z z<|mv z<|bK H fun c0 hC H=>?_
 refine js 5 aL [(2, slice A b.length B), (3, pointer (some ⟨l, 0, none⟩)), (4, pointer (some ⟨k, 0, none⟩)), (7, pointer (some ⟨g, 0, none⟩)), (8, int .i64 ((a.slices.getD (Int.toNat 0) aa).Table)), (9, slice F M.length J), (10, int .i64 bd), (11, int .i64 c), (14, pointer (some ⟨ce, 0, none⟩)), (44, slice p a.slices.length q), (45, int .i64 (a.slices.length : Int)), (46, int .i64 f), (65, bool c0)] ?_ fun _ il ch=>?_
 refine have H:=hC;dC (((a.slices.getD (Int.toNat f) aa).Head) = true) (fun U=>?_) fun U=>?_
 refine yK U H fun H=>fa (hw:=gY z z z (vY U)) hX z<|ld (hw:=gY z z z (vY U)) aL 0 bb z z z<|mv (hw:=gY z z z (vY U)) z<|ei (hw:=gY z z z (vY U)) z z<|cY (vY U) z<|nl<|?_
 cases H
 exact je ⟨z, z, z, z, z, z, z, z, z, z, z, z, z, tv⟩ aL
 refine nK U H fun H=>Sk 4 z z (vN U) z<|dm (vN U) z<|nl<|?_
 cases H
 exact je ⟨z, z, z, z, z, z, z, z, z, z, z, z, z, tv⟩ aL
 refine aK z<|nl<|eW _ _ _<|dC (c0 = true) (fun bj=>?_) fun bj=>?_
 refine yK bj H fun H=>wt (vY bj)<|sr fun im eX=>mv z<|gg ch 0 dx z z z z<|?_
 refine eh ch (vs := [(0, agg [int .i64 ((a.slices.getD (Int.toNat f) aa).Node), int .i64 ((a.slices.getD (Int.toNat f) aa).Table), int .i64 ((a.slices.getD (Int.toNat f) aa).X), int .i64 ((a.slices.getD (Int.toNat f) aa).Y), int .i64 ((a.slices.getD (Int.toNat f) aa).H), string ((a.slices.getD (Int.toNat f) aa).Text), bool ((a.slices.getD (Int.toNat f) aa).Head), bool ((a.slices.getD (Int.toNat f) aa).Note)].toArray)]) (cs := [int .i64 ((a.slices.getD (Int.toNat f) aa).Node), int .i64 ((a.slices.getD (Int.toNat f) aa).Table), int .i64 ((a.slices.getD (Int.toNat f) aa).X), int .i64 ((a.slices.getD (Int.toNat f) aa).Y), int .i64 ((a.slices.getD (Int.toNat f) aa).H), string ((a.slices.getD (Int.toNat f) aa).Text), bool ((a.slices.getD (Int.toNat f) aa).Head), bool ((a.slices.getD (Int.toNat f) aa).Note)]) cA cP rfl (by decide) rfl (by kernel_rfl) (fun io ip c1 => ?_)
 refine iK H fun iq H=>?_
 refine fx (xs := M) (ys := [(a.slices.getD (Int.toNat f) aa)]) ah c1 5 cA cP rfl rfl rfl rfl bV bT bU (dU c1 0 dA rfl rfl) ⟨[int .i64 ((a.slices.getD (Int.toNat f) aa).Node), int .i64 ((a.slices.getD (Int.toNat f) aa).Table), int .i64 ((a.slices.getD (Int.toNat f) aa).X), int .i64 ((a.slices.getD (Int.toNat f) aa).Y), int .i64 ((a.slices.getD (Int.toNat f) aa).H), string ((a.slices.getD (Int.toNat f) aa).Text), bool ((a.slices.getD (Int.toNat f) aa).Head), bool ((a.slices.getD (Int.toNat f) aa).Note)], _, rfl, (aH (x := (a.slices.getD (Int.toNat f) aa))), rfl⟩ rfl (by simp only [List.length_cons, List.length_nil]; omega) (by simp only [List.length_cons, List.length_nil]; omega) (fun eY eZ ir it e0 e1 e2 c2 e3 => ?_)
 refine aK z<|nl<|eX _ _ _<|?_
 refine ie dJ (by kernel_rfl) ?_
 refine have bX:=e3.drew;wq (mv z bc) z<|wq (fa bn z bc) z<|wq (ld bX 1 bb z z z bc) z<|wq (fa cm z bc) z<|wq (ld bX 1 bb z z z bc) z<|wq (bm z z bc) z<|wq (mv z bc) z<|iK H fun⟨c3, c5⟩H=>?_
 obtain ⟨iu, iv, e4, e5, iw, e6⟩ := Dat.get c2 aa (0) c3 c5
 obtain ⟨rfl⟩ := aF e5
 refine wq (bL cA z e4 z c3 c5 bc) z<|wq (eS bn z z bc) z<|wq (et bX bb z (gR.cel _ _ (e6 3 _ z)) bc) z<|wq (b6 z z bc) z<|wq (dR z z bc) z<|wq (aK z bc) z<|iM<|have e7:=Hp.pick 7 [2, 3, 4, 6, 5] bX z;?_
 cases H
 exact ⟨z, eY, eZ, _, z, e0, ⟨z, z, z, z, z, z, z, z, z, z, z, tv⟩, e7, e2, c2, e1, tv⟩
 refine nK bj H fun H=>wf (vN bj)<|ws<|have e8:=Hp.pick 6 [1, 2, 3, 5, 4] ch z;?_
 cases H
 exact ⟨z, F, J, _, z, gR, ⟨z, z, z, z, z, z, z, z, z, z, z, tv⟩, e8, bT, bU, bV, tv⟩
 rcases cS with _ | ⟨bh, cT⟩
 rintro e r ds ix ⟨rfl, rfl, h, e9, _⟩
 rw [h.eq]; clear h
 refine have fb:=Hp.pick 5 [0, 1, 2, 4, 3] e9 z;?_
 cases H
 exact ⟨z, F, J, _, z, bS, ⟨z, z, z, z, z, tv⟩, fb, bT, bU, bV, tv⟩
 rintro e r ds iy ⟨rfl, aI, aJ, bW, rfl, fc, h, fd, fe, ff, fg, _⟩
 rw [h.eq]; clear h
 exact eL _ _ _<|aA<|bm z z<|mv z<|nl<|ih _ _ _ _ H aI aJ _ _ _ (gT bS fc) ⟨z, z, z, z, z, z, z, z, z, z, z, tv⟩ fd fe ff fg z
 refine nK be H fun H=>wf (bN be)<|wx<|?_
 cases H
 exact ⟨z, F, J, _, z, bS, ⟨z, z, z, z, z, z, z, z, tv⟩, cd, bT, bU, bV, tv⟩
 rcases cc with ⟨a9, cQ⟩ | ⟨ba, cR⟩
 rintro e r ds iz ⟨rfl, aC, aD, bP, rfl, fh, h, fi, fj, fk, fl, _⟩
 rw [h.eq]; clear h
 cases H
 exact ⟨z, aC, aD, _, z, fh, ⟨z, z, z, z, z, tv⟩, fi, fj, fk, fl, tv⟩
 rintro e r ds iA ⟨rfl, aE, aG, bR, rfl, fm, h, fn, fo, fp, fr, _⟩
 rw [h.eq]; clear h
 cases H
 exact ⟨z, aE, aG, _, z, fm, ⟨z, z, z, z, z, z, z, z, tv⟩, fn, fo, fp, fr, tv⟩
 rcases cu with ⟨aU, cv⟩ | ⟨aV, cx⟩
 rintro e r ds iB ⟨rfl, an, ao, bw, rfl, fs, h, fu, fv, fw, fy, _⟩
 rw [h.eq]; clear h
 cases H
 exact ⟨z, an, ao, _, z, (gT aR fs), ⟨z, z, z, z, z, tv⟩, fu, fv, fw, fy, tv⟩
 rintro e r ds iC ⟨rfl, ap, aq, bz, rfl, fz, h, fA, fB, fC, fD, _⟩
 rw [h.eq]; clear h
 exact dI _ _ _<|aA<|mv z<|bm z z<|aK z<|nl<|ih _ _ _ _ H ap aq _ _ _ (gT aR fz) ⟨z, z, z, z, z, z, z, z, tv⟩ fA fB fC fD z
 refine nK aT H fun H=>wf (vN aT)<|wx<|have fE:=Hp.pick 5 [0, 1, 2, 4, 3] aS z;?_
 cases H
 exact ⟨z, R, S, _, z, aR, ⟨z, z, z, z, z, tv⟩, fE, b3, b4, b5, tv⟩
 rintro e r ds iE ⟨rfl, W, Z, aO, rfl, O, h, fF, fH, c6, iF, _⟩
 rw [h.eq]; clear h
 refine dy _ _ _<|sQ fun iG c7=>sQ fun iH fI=>bK H fun c9 hC H=>?_
 refine jC .normal aO [(4, pointer (some ⟨k, 0, none⟩)), (7, pointer (some ⟨g, 0, none⟩)), (9, slice W P.length Z), (10, int .i64 bv), (99, bool c9)] (bx g [int .i64 a1.Paper.Width, int .i64 a1.Paper.Height, int .i64 a1.Paper.Columns, int .i64 a1.Paper.Gap, int .i64 a1.Paper.Scale, int .i64 a1.Paper.Lang, slice none 0 0, slice none 0 0, slice (some ⟨i, 0, none⟩) 1 1] 67 :: bx k [slice p a.slices.length q, slice s a.notes.length u, int .i64 a.end_] 64 :: bx l [int .i64 a1.Paper.Width, int .i64 a1.Paper.Height, int .i64 a1.Paper.Columns, int .i64 a1.Paper.Gap, int .i64 a1.Paper.Scale, int .i64 a1.Paper.Lang] 56 :: tk (slice W P.length Z) 8 36 :: bO G (Kd.int .i64) (some ⟨i, 0, none⟩) [] ([0] : List Int) [] 1 3 :: L) ?_ fun _ iI bZ=>?_
 refine have H:=hC;?_
 refine jq fF dJ (by kernel_rfl) ?_
 refine cw (fun Gq w hGq Iq=>mv z bc) z z<|cw (fun Gq w hGq Iq=>q_len dA z bc) z z<|cw (fun Gq w hGq Iq=>gq z z bc) z z<|cw (fun Gq w hGq Iq=>mv z bc) z z<|dC (0 < (P.length : Int)) (fun m=>?_) fun m=>?_
 refine yK m H fun H=>cw (fun Gq w hGq Iq=>mv (hw:=gY z z z (bY m)) z bc) z z<|cw (fun Gq w hGq Iq=>gg (hw:=gY z z z (bY m)) Iq 1 iD z z z z bc) z z<|bK H fun fJ fK H=>wk (vs := [agg [slice p a.slices.length q, slice s a.notes.length u, int .i64 a.end_].toArray]) (v := int .i64 fJ) pu z z (fun Gq w hGq Iq => ?_) ?_ (hw := gY z z z (kF m))
 refine Calls.mono (dh fK Iq b0 (Dat.mono (gT O hGq) aN) bl (Dat.mono (gT O hGq) bo))<|?_
 rintro _ w2 ⟨I2, rfl⟩
 exact ⟨z, _, hGq, I2⟩
 refine cw (fun Gq w hGq Iq=>bm (hw:=gY z z z (bY m)) z z bc) z z<|cw (fun Gq w hGq Iq=>fa (hw:=gY z z z (bY m)) ee z bc) z z<|cw (fun Gq w hGq Iq=>fa (hw:=gY z z z (bY m)) gZ z bc) z z<|cw (fun Gq w hGq Iq=>ld (hw:=gY z z z (bY m)) Iq 2 bb z z z bc) z z<|cw (fun Gq w hGq Iq=>fa (hw:=gY z z z (bY m)) jV z bc) z z<|cw (fun Gq w hGq Iq=>ld (hw:=gY z z z (bY m)) Iq 1 cB z z z bc) z z<|bK H fun fM fN H=>wk (vs := [slice s a.notes.length u]) (v := int .i64 fM) oK z z (fun Gq w hGq Iq => ?_) ?_ (hw := gY z z z (kF m))
 refine Calls.mono (eG fN Iq bl (Dat.mono (gT O hGq) bo))<|?_
 rintro _ w2 ⟨I2, rfl⟩
 exact ⟨z, _, hGq, I2⟩
 refine cw (fun Gq w hGq Iq=>b6 (hw:=gY z z z (bY m)) z z bc) z z<|cw (fun Gq w hGq Iq=>dq (hw:=gY z z z (bY m)) z z bc) z z<|cw (fun Gq w hGq Iq=>cY (bY m) z bc) z z<|wz fun fO fP cj ck=>have fQ:=Hp.pick 5 [0, 1, 2, 4, 3] ck z;?_
 cases H
 exact je ⟨z, z, z, z, z, tv⟩ (Hp.low cj fQ)
 refine nK m H fun H=>wp (al z z z (bN m) z)<|wp (al z z z (bN m) z)<|wp (al z z z (bN m) z)<|wp (al z z z (bN m) z)<|wp (al z z z (bN m) z)<|wp (al z z z (bN m) z)<|wp (al z z z (bN m) z)<|wp (al z z z (bN m) z)<|wp (al z z z (bN m) z)<|wp (al z z z (bN m) z)<|wp (al z z z (bN m) z)<|wp (al z z z (bN m) z)<|cw (fun Gq w hGq Iq=>dm (bN m) z bc) z z<|?_
 refine wz fun fO fP cj ck=>have fR:=Hp.pick 5 [0, 1, 2, 4, 3] ck z;?_
 cases H
 exact je ⟨z, z, z, z, z, tv⟩ (Hp.low cj fR)
 refine fI _ _ _<|dC (c9 = true) (fun bk=>?_) fun bk=>?_
 refine yK bk H fun H=>wt (vY bk)<|aA<|mv z<|mv z<|mv z<|iK H fun⟨da, db⟩H=>?_
 obtain ⟨iJ, iL, fS, fT, iN, fU⟩ := Dat.get c6 aa (0) da db
 obtain ⟨rfl⟩ := aF fT
 refine bL cA z fS z da db<|eS bn z z<|et bZ bb z (gR.cel _ _ (fU 3 _ z))<|have fV:=Hp.emp bZ;have fW:=Hp.emp fV;have fX:=Hp.rwUp fW 6 z O;have fY:=Hp.pick 7 [2, 1, 0, 6, 3, 4, 5] fX z;bK H fun iO fZ H=>ft (vs := [pointer (some ⟨g, 0, none⟩), slice W P.length Z, int .i64 ((P.getD (Int.toNat 0) aa).Y), int .i64 0]) qV z z (fG (a3 := (⟨a1, ([] : List ac), ([] : List ac), ([0] : List Int)⟩ : ai)) fZ fY (show ([] : List ac).length ≤ 0 from Nat.le_refl 0) (Dat.nil _ _ _) Own.nil (show ([] : List ac).length ≤ 0 from Nat.le_refl 0) (Dat.nil _ _ _) Own.nil z (Mw.new (α := Int) i 1 1) fH c6)<|?_
 rintro _ iP ⟨iQ, iR, iS, iT, iU, iV, iW, iX, cl, dc, f0, f1, f2, f3, f4, f6, f7, f8, rfl⟩
 refine ⟨_, rfl, ?_⟩
 refine nl<|c7 _ _ _<|sr fun iY f9=>mv z<|gg dc 4 iD z z z z<|mv z<|bK H fun iZ ga H=>ft (vs := [pointer (some ⟨g, 0, none⟩), agg [slice p a.slices.length q, slice s a.notes.length u, int .i64 a.end_].toArray, int .i64 bv]) pB z z (df ga dc f0 f1 f2 f3 f4 f6 f7 f8 b0 (Dat.mono (gT O cl) aN) bl (Dat.mono (gT O cl) bo))<|?_
 rintro _ i0 ⟨gb, gc, gd, ge, gf, gh, gi, i1, gj, gk, gl, gm, gn, go, gr, gs, gt, gu, rfl⟩
 refine ⟨_, rfl, ?_⟩
 refine nl<|f9 _ _ _<|sr fun i2 gv=>mv z<|aK z<|nl<|gv _ _ _<|wr<|have gw:=Hp.pick 7 [0, 1, 2, 3] gk z;?_
 cases H
 exact ⟨.inr z, z, _, ⟨_, _, z, z, z⟩, g, gb, gc, gd, ge, gf, gh, gi, _, (gT (gT O cl) gj), gw, gl, gm, gn, go, gr, gs, gt, gu, z⟩
 refine nK bk H fun H=>wf (vN bk)<|aA<|aK z<|nl<|c7 _ _ _<|sr fun i3 gx=>mv z<|gg bZ 1 iD z z z z<|mv z<|have gy:=Hp.emp bZ;have gz:=Hp.emp gy;have gA:=Hp.rwUp gz 6 z O;have gB:=Hp.pick 7 [2, 1, 0, 6, 3, 4, 5] gA z;?_
 refine bK H fun i4 gC H=>ft (vs := [pointer (some ⟨g, 0, none⟩), agg [slice p a.slices.length q, slice s a.notes.length u, int .i64 a.end_].toArray, int .i64 0]) pB z z (df (a3 := (⟨a1, ([] : List ac), ([] : List ac), ([0] : List Int)⟩ : ai)) gC gB (show ([] : List ac).length ≤ 0 from Nat.le_refl 0) (Dat.nil _ _ _) Own.nil (show ([] : List ac).length ≤ 0 from Nat.le_refl 0) (Dat.nil _ _ _) Own.nil z (Mw.new (α := Int) i 1 1) b0 (Dat.mono O aN) bl (Dat.mono O bo))<|?_
 rintro _ i5 ⟨gD, gE, gF, gG, gH, gI, gJ, i6, gK, gL, gM, gN, gO, gP, gQ, gS, gU, gV, rfl⟩
 refine ⟨_, rfl, ?_⟩
 refine nl<|gx _ _ _<|sr fun i7 gW=>mv z<|aK z<|nl<|gW _ _ _<|wr<|have gX:=Hp.pick 7 [0, 1, 2, 3] gL z;?_
 cases H
 exact ⟨.inr z, z, _, ⟨_, _, z, z, z⟩, g, gD, gE, gF, gG, gH, gI, gJ, _, (gT O gK), gX, gM, gN, gO, gP, gQ, gS, gU, gV, z⟩
end Go.Proofs.Ytlcfemplcaejgaa.LG
