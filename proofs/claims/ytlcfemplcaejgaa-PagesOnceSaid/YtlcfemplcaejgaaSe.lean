/-
  The walks: each function computes its plain function: printed by a program out of the translation.
-/
import Derived.Test.YtlcfemplcaejgaaSd
set_option linter.unusedVariables false
set_option linter.unusedSimpArgs false
set_option maxRecDepth 100000
namespace Go.Proofs.Ytlcfemplcaejgaa.LG
open Go Go.LG Go.RowKit Go.Value
set_option maxHeartbeats 20000000
theorem pages_open_take_k1_spec {a3 : pages_open} {a26 : pages_band} {a35 g2 A4 c5 A8 c9 A20 n21 c22 A27 c28 A31 c32 r1036} {q1037 : pages_open} {G L w} (H : pages_open_take_k1 a3 a26 a35 = some (r1036, q1037)) (hI : Hp G (bx g2 [int .i64 a3.sheet.Paper.Width, int .i64 a3.sheet.Paper.Height, int .i64 a3.sheet.Paper.Columns, int .i64 a3.sheet.Paper.Gap, int .i64 a3.sheet.Paper.Scale, int .i64 a3.sheet.Paper.Lang, slice A4 a3.placed.length c5, slice A8 a3.notes.length c9, slice A20 n21 c22] 67 :: tk (slice A4 a3.placed.length c5) 8 36 :: tk (slice A8 a3.notes.length c9) 8 36 :: rwI G (Kd.int .i64) A20 [] a3.fills [] c22 3 :: L) w) (hl6 : a3.placed.length ≤ c5) (hD7 : Dat k_api_Slice G A4 a3.placed) (ho16 : Own A4 c5) (hl10 : a3.notes.length ≤ c9) (hD11 : Dat k_api_Slice G A8 a3.notes) (ho18 : Own A8 c9) (hn23 : a3.fills.length = n21) (hM24 : Mw A20 A20 ([] : List Int).length n21 c22 c22 1) (hl29 : a26.slices.length ≤ c28) (hD30 : Dat k_api_Slice G A27 a26.slices) (hl33 : a26.notes.length ≤ c32) (hD34 : Dat k_api_Slice G A31 a26.notes) :
    Calls Try.prog 25 [pointer (some ⟨g2, 0, none⟩), agg [slice A27 a26.slices.length c28, slice A31 a26.notes.length c32, int .i64 a26.end_].toArray, int .i64 a35].toArray w fun e w' => ∃ (A1038 : Option Addr) (c1039 : Nat) (A1042 : Option Addr) (c1043 : Nat) (A1054 : Option Addr) (n1055 : Nat) (c1056 : Nat) (G' : Gh), G ≤ G' ∧ Hp G' (bx g2 [int .i64 q1037.sheet.Paper.Width, int .i64 q1037.sheet.Paper.Height, int .i64 q1037.sheet.Paper.Columns, int .i64 q1037.sheet.Paper.Gap, int .i64 q1037.sheet.Paper.Scale, int .i64 q1037.sheet.Paper.Lang, slice A1038 q1037.placed.length c1039, slice A1042 q1037.notes.length c1043, slice A1054 n1055 c1056] 67 :: tk (slice A1038 q1037.placed.length c1039) 8 36 :: tk (slice A1042 q1037.notes.length c1043) 8 36 :: rwI G' (Kd.int .i64) A1054 [] q1037.fills [] c1056 3 :: L) w' ∧ q1037.placed.length ≤ c1039 ∧ Dat k_api_Slice G' A1038 q1037.placed ∧ Own A1038 c1039 ∧ q1037.notes.length ≤ c1043 ∧ Dat k_api_Slice G' A1042 q1037.notes ∧ Own A1042 c1043 ∧ q1037.fills.length = n1055 ∧ Mw A1054 A1054 ([] : List Int).length n1055 c1056 c1056 1 ∧ e = .returned (bool r1036) := by
 refine calls_intro (N := 86) Try.func25 z z (Nat.le_of_ble_eq_true z)<|?_
 unfold pages_open_take_k1 at H
 refine sr fun K36 hK37=>bxk hI z z fun g39 wd40 hI41=>asn z<|nl<|hK37 _ _ _<|sQ fun K42 hK43=>bK H fun y53 hy238 H=>bK H fun y253 hy438 H=>?_
 refine wpc_drawL [0, 1, 3, 7, 15, 31, 0, 64, 192, 448, 960, 2047, 0, 4096, 14272, 32767, 65535] (fun D r w => (∃ (G' : Gh), G ≤ G' ∧ Regs [(0, pointer (some ⟨g2, 0, none⟩)), (2, int .i64 a35), (4, pointer (some ⟨g39, 0, none⟩))] [] [(0, 9, pointer (some ⟨g2, 0, none⟩)), (1, 10, pointer (some ⟨g2, 0, none⟩)), (2, 11, pointer (some ⟨g2, 0, none⟩)), (3, 12, pointer (some ⟨g2, 0, none⟩)), (4, 13, pointer (some ⟨g2, 1, none⟩)), (5, 14, int .i64 a3.sheet.Paper.Height), (6, 15, pointer (some ⟨g2, 0, none⟩)), (7, 16, pointer (some ⟨g2, 0, none⟩)), (8, 17, pointer (some ⟨g2, 7, none⟩)), (9, 18, slice A8 a3.notes.length c9), (10, 19, int .i64 y53), (11, 20, int .i64 (w64 (a3.sheet.Paper.Height - y53))), (12, 21, pointer (some ⟨g39, 1, none⟩)), (13, 22, slice A31 a26.notes.length c32), (14, 23, int .i64 y253), (15, 24, int .i64 (w64 ((w64 (a3.sheet.Paper.Height - y53)) - y253))), (16, 7, int .i64 (w64 ((w64 (a3.sheet.Paper.Height - y53)) - y253)))] D r ∧ Hp G' (bx g39 [slice A27 a26.slices.length c28, slice A31 a26.notes.length c32, int .i64 a26.end_] 64 :: bx g2 [int .i64 a3.sheet.Paper.Width, int .i64 a3.sheet.Paper.Height, int .i64 a3.sheet.Paper.Columns, int .i64 a3.sheet.Paper.Gap, int .i64 a3.sheet.Paper.Scale, int .i64 a3.sheet.Paper.Lang, slice A4 a3.placed.length c5, slice A8 a3.notes.length c9, slice A20 n21 c22] 67 :: tk (slice A4 a3.placed.length c5) 8 36 :: tk (slice A8 a3.notes.length c9) 8 36 :: rwI G (Kd.int .i64) A20 [] a3.fills [] c22 3 :: L) w)) mixo z z ?_ ?_ ?_
 exact ⟨_, Gh.le_refl _, Regs.start ⟨z, z, z, tv⟩ trivial, hI41.drew⟩
 refine ⟨?_, ?_, ?_, ?_, ?_, ?_, ?_, ?_, ?_, ?_, ?_, ?_, ?_, ?_, ?_, ?_, ?_, tv⟩
 rintro D r wd453 ⟨G449, hG450, hReg452, hI451⟩ hDi hpre hpost
 obtain ⟨r0, rfl⟩ := Has.ex (cC (hReg452.ins.get 0 rfl) cN)
 exact mv z<|nl ⟨z, ⟨_, hG450, (Regs.step hReg452 hDi z z z z), hI451⟩⟩
 rintro D r wd453 ⟨G449, hG450, hReg452, hI451⟩ hDi hpre hpost
 obtain ⟨r0, rfl⟩ := Has.ex (cC (hReg452.get 0 rfl (hpre 0 rfl)) cN)
 exact q_nc z<|nl ⟨z, ⟨_, hG450, (Regs.step hReg452 hDi z z z z), hI451⟩⟩
 rintro D r wd453 ⟨G449, hG450, hReg452, hI451⟩ hDi hpre hpost
 obtain ⟨r0, rfl⟩ := Has.ex (cC (hReg452.get 1 rfl (hpre 1 rfl)) cN)
 exact fa fl67_0 z<|nl ⟨z, ⟨_, hG450, (Regs.step hReg452 hDi z z z z), hI451⟩⟩
 rintro D r wd453 ⟨G449, hG450, hReg452, hI451⟩ hDi hpre hpost
 obtain ⟨r0, rfl⟩ := Has.ex (cC (hReg452.get 2 rfl (hpre 2 rfl)) cN)
 exact fa fl56_0 z<|nl ⟨z, ⟨_, hG450, (Regs.step hReg452 hDi z z z z), hI451⟩⟩
 rintro D r wd453 ⟨G449, hG450, hReg452, hI451⟩ hDi hpre hpost
 obtain ⟨r0, rfl⟩ := Has.ex (cC (hReg452.get 3 rfl (hpre 3 rfl)) cN)
 exact fa fl23_1 z<|nl ⟨z, ⟨_, hG450, (Regs.step hReg452 hDi z z z z), hI451⟩⟩
 rintro D r wd453 ⟨G449, hG450, hReg452, hI451⟩ hDi hpre hpost
 obtain ⟨r0, rfl⟩ := Has.ex (cC (hReg452.get 4 rfl (hpre 4 rfl)) cN)
 exact ld hI451 1 ag3 z z z<|nl ⟨z, ⟨_, hG450, (Regs.step hReg452 hDi z z z z), hI451⟩⟩
 rintro D r wd453 ⟨G449, hG450, hReg452, hI451⟩ hDi hpre hpost
 obtain ⟨r0, rfl⟩ := Has.ex (cC (hReg452.ins.get 0 rfl) cN)
 exact mv z<|nl ⟨z, ⟨_, hG450, (Regs.step hReg452 hDi z z z z), hI451⟩⟩
 rintro D r wd453 ⟨G449, hG450, hReg452, hI451⟩ hDi hpre hpost
 obtain ⟨r0, rfl⟩ := Has.ex (cC (hReg452.get 6 rfl (hpre 6 rfl)) cN)
 exact q_nc z<|nl ⟨z, ⟨_, hG450, (Regs.step hReg452 hDi z z z z), hI451⟩⟩
 rintro D r wd453 ⟨G449, hG450, hReg452, hI451⟩ hDi hpre hpost
 obtain ⟨r0, rfl⟩ := Has.ex (cC (hReg452.get 7 rfl (hpre 7 rfl)) cN)
 exact fa fl67_2 z<|nl ⟨z, ⟨_, hG450, (Regs.step hReg452 hDi z z z z), hI451⟩⟩
 rintro D r wd453 ⟨G449, hG450, hReg452, hI451⟩ hDi hpre hpost
 obtain ⟨r0, rfl⟩ := Has.ex (cC (hReg452.get 8 rfl (hpre 8 rfl)) cN)
 exact ld hI451 1 ag24 z z z<|nl ⟨z, ⟨_, hG450, (Regs.step hReg452 hDi z z z z), hI451⟩⟩
 rintro D r wd453 ⟨G449, hG450, hReg452, hI451⟩ hDi hpre hpost
 obtain ⟨r0, rfl⟩ := Has.ex (cC (hReg452.get 9 rfl (hpre 9 rfl)) cN)
 exact cv bo41 (pages_sum_spec hy238 hI451 hl10 (Dat.mono hG450 hD11)) z z fun wd51 hI52=>nl ⟨z, ⟨_, hG450, (Regs.step hReg452 hDi z z z z), hI52⟩⟩
 rintro D r wd453 ⟨G449, hG450, hReg452, hI451⟩ hDi hpre hpost
 obtain ⟨r0, rfl⟩ := Has.ex (cC (hReg452.get 5 rfl (hpre 5 rfl)) (cC (hReg452.get 10 rfl (hpre 10 rfl)) cN))
 exact q_sub z z<|nl ⟨z, ⟨_, hG450, (Regs.step hReg452 hDi z z z z), hI451⟩⟩
 rintro D r wd453 ⟨G449, hG450, hReg452, hI451⟩ hDi hpre hpost
 obtain ⟨r0, rfl⟩ := Has.ex (cC (hReg452.ins.get 2 rfl) cN)
 exact fa fl64_1 z<|nl ⟨z, ⟨_, hG450, (Regs.step hReg452 hDi z z z z), hI451⟩⟩
 rintro D r wd453 ⟨G449, hG450, hReg452, hI451⟩ hDi hpre hpost
 obtain ⟨r0, rfl⟩ := Has.ex (cC (hReg452.get 12 rfl (hpre 12 rfl)) cN)
 exact ld hI451 0 ag24 z z z<|nl ⟨z, ⟨_, hG450, (Regs.step hReg452 hDi z z z z), hI451⟩⟩
 rintro D r wd453 ⟨G449, hG450, hReg452, hI451⟩ hDi hpre hpost
 obtain ⟨r0, rfl⟩ := Has.ex (cC (hReg452.get 13 rfl (hpre 13 rfl)) cN)
 exact cv bo41 (pages_sum_spec hy438 hI451 hl33 (Dat.mono hG450 hD34)) z z fun wd251 hI252=>nl ⟨z, ⟨_, hG450, (Regs.step hReg452 hDi z z z z), hI252⟩⟩
 rintro D r wd453 ⟨G449, hG450, hReg452, hI451⟩ hDi hpre hpost
 obtain ⟨r0, rfl⟩ := Has.ex (cC (hReg452.get 11 rfl (hpre 11 rfl)) (cC (hReg452.get 14 rfl (hpre 14 rfl)) cN))
 exact q_sub z z<|nl ⟨z, ⟨_, hG450, (Regs.step hReg452 hDi z z z z), hI451⟩⟩
 rintro D r wd453 ⟨G449, hG450, hReg452, hI451⟩ hDi hpre hpost
 obtain ⟨r0, rfl⟩ := Has.ex (cC (hReg452.get 15 rfl (hpre 15 rfl)) cN)
 exact asn z<|nl ⟨z, ⟨_, hG450, (Regs.step hReg452 hDi z z z z), hI451⟩⟩
 intro D r wd453 hall hR
 obtain ⟨G449, hG450, hReg452, hI451⟩ := hR
 obtain ⟨r0, rfl⟩ := Has.ex (cC (hReg452.ins.get 0 rfl) (cC (hReg452.ins.get 1 rfl) (cC (hReg452.ins.get 2 rfl) (cC (hReg452.get 16 rfl (hall 16 (Nat.le_of_ble_eq_true rfl))) cN))))
 refine hK43 _ _ _<|sQ fun K454 hK455=>iK H fun⟨h461, h461'⟩H=>have hb462:=lt_n hn23 h461';?_
 obtain ⟨ad463, hA464⟩ := Mw.ad hM24 h461 hb462
 refine wpc_drawL [0, 1, 3, 7, 0, 16, 48, 112, 240, 496, 1023, 2047, 0, 8191, 16383] (fun D r w => (∃ (G' : Gh), G449 ≤ G' ∧ Regs [(0, pointer (some ⟨g2, 0, none⟩)), (2, int .i64 a35), (4, pointer (some ⟨g39, 0, none⟩)), (7, int .i64 (w64 ((w64 (a3.sheet.Paper.Height - y53)) - y253)))] [] [(0, 25, pointer (some ⟨g2, 0, none⟩)), (1, 26, pointer (some ⟨g2, 0, none⟩)), (2, 27, pointer (some ⟨g2, 8, none⟩)), (3, 28, slice A20 n21 c22), (4, 29, pointer (some ⟨g2, 0, none⟩)), (5, 30, pointer (some ⟨g2, 0, none⟩)), (6, 31, pointer (some ⟨g2, 8, none⟩)), (7, 32, slice A20 n21 c22), (8, 33, int .i64 (a3.fills.length : Int)), (9, 34, int .i64 (w64 ((a3.fills.length : Int) - 1))), (10, 35, pointer (some (ad463.add (Int.toNat (w64 ((a3.fills.length : Int) - 1)) * 1)))), (11, 36, int .i64 (a3.fills.getD (Int.toNat (w64 ((a3.fills.length : Int) - 1))) (0 : Int))), (12, 37, int .i64 a35), (13, 38, int .i64 (w64 ((a3.fills.getD (Int.toNat (w64 ((a3.fills.length : Int) - 1))) (0 : Int)) + a35))), (14, 8, int .i64 (w64 ((a3.fills.getD (Int.toNat (w64 ((a3.fills.length : Int) - 1))) (0 : Int)) + a35)))] D r ∧ Hp G' (bx g39 [slice A27 a26.slices.length c28, slice A31 a26.notes.length c32, int .i64 a26.end_] 64 :: bx g2 [int .i64 a3.sheet.Paper.Width, int .i64 a3.sheet.Paper.Height, int .i64 a3.sheet.Paper.Columns, int .i64 a3.sheet.Paper.Gap, int .i64 a3.sheet.Paper.Scale, int .i64 a3.sheet.Paper.Lang, slice A4 a3.placed.length c5, slice A8 a3.notes.length c9, slice A20 n21 c22] 67 :: tk (slice A4 a3.placed.length c5) 8 36 :: tk (slice A8 a3.notes.length c9) 8 36 :: rwI G (Kd.int .i64) A20 [] a3.fills [] c22 3 :: L) w)) mixo z z ?_ ?_ ?_
 exact ⟨_, Gh.le_refl _, Regs.start ⟨z, z, z, z, tv⟩ trivial, hI451.drew⟩
 refine ⟨?_, ?_, ?_, ?_, ?_, ?_, ?_, ?_, ?_, ?_, ?_, ?_, ?_, ?_, ?_, tv⟩
 rintro D r wd471 ⟨G467, hG468, hReg470, hI469⟩ hDi hpre hpost
 obtain ⟨r0, rfl⟩ := Has.ex (cC (hReg470.ins.get 0 rfl) cN)
 exact mv z<|nl ⟨z, ⟨_, hG468, (Regs.step hReg470 hDi z z z z), hI469⟩⟩
 rintro D r wd471 ⟨G467, hG468, hReg470, hI469⟩ hDi hpre hpost
 obtain ⟨r0, rfl⟩ := Has.ex (cC (hReg470.get 0 rfl (hpre 0 rfl)) cN)
 exact q_nc z<|nl ⟨z, ⟨_, hG468, (Regs.step hReg470 hDi z z z z), hI469⟩⟩
 rintro D r wd471 ⟨G467, hG468, hReg470, hI469⟩ hDi hpre hpost
 obtain ⟨r0, rfl⟩ := Has.ex (cC (hReg470.get 1 rfl (hpre 1 rfl)) cN)
 exact fa fl67_3 z<|nl ⟨z, ⟨_, hG468, (Regs.step hReg470 hDi z z z z), hI469⟩⟩
 rintro D r wd471 ⟨G467, hG468, hReg470, hI469⟩ hDi hpre hpost
 obtain ⟨r0, rfl⟩ := Has.ex (cC (hReg470.get 2 rfl (hpre 2 rfl)) cN)
 exact ld hI469 1 ag65 z z z<|nl ⟨z, ⟨_, hG468, (Regs.step hReg470 hDi z z z z), hI469⟩⟩
 rintro D r wd471 ⟨G467, hG468, hReg470, hI469⟩ hDi hpre hpost
 obtain ⟨r0, rfl⟩ := Has.ex (cC (hReg470.ins.get 0 rfl) cN)
 exact mv z<|nl ⟨z, ⟨_, hG468, (Regs.step hReg470 hDi z z z z), hI469⟩⟩
 rintro D r wd471 ⟨G467, hG468, hReg470, hI469⟩ hDi hpre hpost
 obtain ⟨r0, rfl⟩ := Has.ex (cC (hReg470.get 4 rfl (hpre 4 rfl)) cN)
 exact q_nc z<|nl ⟨z, ⟨_, hG468, (Regs.step hReg470 hDi z z z z), hI469⟩⟩
 rintro D r wd471 ⟨G467, hG468, hReg470, hI469⟩ hDi hpre hpost
 obtain ⟨r0, rfl⟩ := Has.ex (cC (hReg470.get 5 rfl (hpre 5 rfl)) cN)
 exact fa fl67_3 z<|nl ⟨z, ⟨_, hG468, (Regs.step hReg470 hDi z z z z), hI469⟩⟩
 rintro D r wd471 ⟨G467, hG468, hReg470, hI469⟩ hDi hpre hpost
 obtain ⟨r0, rfl⟩ := Has.ex (cC (hReg470.get 6 rfl (hpre 6 rfl)) cN)
 exact ld hI469 1 ag65 z z z<|nl ⟨z, ⟨_, hG468, (Regs.step hReg470 hDi z z z z), hI469⟩⟩
 rintro D r wd471 ⟨G467, hG468, hReg470, hI469⟩ hDi hpre hpost
 obtain ⟨r0, rfl⟩ := Has.ex (cC (hReg470.get 7 rfl (hpre 7 rfl)) cN)
 exact q_lenm so65 z hn23<|nl ⟨z, ⟨_, hG468, (Regs.step hReg470 hDi z z z z), hI469⟩⟩
 rintro D r wd471 ⟨G467, hG468, hReg470, hI469⟩ hDi hpre hpost
 obtain ⟨r0, rfl⟩ := Has.ex (cC (hReg470.get 8 rfl (hpre 8 rfl)) cN)
 exact q_sub z z<|nl ⟨z, ⟨_, hG468, (Regs.step hReg470 hDi z z z z), hI469⟩⟩
 rintro D r wd471 ⟨G467, hG468, hReg470, hI469⟩ hDi hpre hpost
 obtain ⟨r0, rfl⟩ := Has.ex (cC (hReg470.get 3 rfl (hpre 3 rfl)) (cC (hReg470.get 9 rfl (hpre 9 rfl)) cN))
 exact q_ia el65 z hA464 z h461 hb462<|nl ⟨z, ⟨_, hG468, (Regs.step hReg470 hDi z z z z), hI469⟩⟩
 rintro D r wd471 ⟨G467, hG468, hReg470, hI469⟩ hDi hpre hpost
 obtain ⟨r0, rfl⟩ := Has.ex (cC (hReg470.get 10 rfl (hpre 10 rfl)) cN)
 obtain ⟨_, rfl, _, hc466⟩ := Hp.rwGet hI469 4 rfl hM24 hn23 hA464 (0 : Int) h461 hb462
 exact q_load1 (v := int .i64 (a3.fills.getD (Int.toNat (w64 ((a3.fills.length : Int) - 1))) (0 : Int))) ag3 z (cell0 (hc466 0 _ z))<|nl ⟨z, ⟨_, hG468, (Regs.step hReg470 hDi z z z z), hI469⟩⟩
 rintro D r wd471 ⟨G467, hG468, hReg470, hI469⟩ hDi hpre hpost
 obtain ⟨r0, rfl⟩ := Has.ex (cC (hReg470.ins.get 1 rfl) cN)
 exact mv z<|nl ⟨z, ⟨_, hG468, (Regs.step hReg470 hDi z z z z), hI469⟩⟩
 rintro D r wd471 ⟨G467, hG468, hReg470, hI469⟩ hDi hpre hpost
 obtain ⟨r0, rfl⟩ := Has.ex (cC (hReg470.get 11 rfl (hpre 11 rfl)) (cC (hReg470.get 12 rfl (hpre 12 rfl)) cN))
 exact q_add z z<|nl ⟨z, ⟨_, hG468, (Regs.step hReg470 hDi z z z z), hI469⟩⟩
 rintro D r wd471 ⟨G467, hG468, hReg470, hI469⟩ hDi hpre hpost
 obtain ⟨r0, rfl⟩ := Has.ex (cC (hReg470.get 13 rfl (hpre 13 rfl)) cN)
 exact asn z<|nl ⟨z, ⟨_, hG468, (Regs.step hReg470 hDi z z z z), hI469⟩⟩
 intro D r wd471 hall hR
 obtain ⟨G467, hG468, hReg470, hI469⟩ := hR
 obtain ⟨r0, rfl⟩ := Has.ex (cC (hReg470.ins.get 0 rfl) (cC (hReg470.ins.get 2 rfl) (cC (hReg470.ins.get 3 rfl) (cC (hReg470.get 14 rfl (hall 14 (Nat.le_of_ble_eq_true rfl))) cN))))
 refine hK455 _ _ _<|sQ fun K472 hK473=>bK H fun o513 hC H=>?_
 refine wpc_mono (Q := fun e r ds w => match (generalizing := false) o513 with | (Sum.inl (v474, v475, v476, v477, v478, v479, v480, v487, v494)) => e = .normal ∧ ∃ (A481 : Option Addr) (c482 : Nat) (A488 : Option Addr) (c489 : Nat) (A495 : Option Addr) (n496 : Nat) (c497 : Nat) (Gr501 : Gh) (G505 : Gh), ds = [] ∧ G467 ≤ G505 ∧ Has [] r ∧ Hp G505 (bx g39 [slice A27 a26.slices.length c28, slice A31 a26.notes.length c32, int .i64 a26.end_] 64 :: bx g2 [int .i64 v474, int .i64 v475, int .i64 v476, int .i64 v477, int .i64 v478, int .i64 v479, slice A481 v480.length c482, slice A488 v487.length c489, slice A495 n496 c497] 67 :: rwI Gr501 (Kd.int .i64) A495 [] v494 [] c497 3 :: tk (slice A481 v480.length c482) 8 36 :: tk (slice A488 v487.length c489) 8 36 :: L) w ∧ v480.length ≤ c482 ∧ Dat k_api_Slice G505 A481 v480 ∧ Own A481 c482 ∧ v487.length ≤ c489 ∧ Dat k_api_Slice G505 A488 v487 ∧ Own A488 c489 ∧ v494.length = n496 ∧ Mw A495 A495 ([] : List Int).length n496 c497 c497 1 ∧ Gr501 ≤ G505 ∧ True | (Sum.inr _) => e = .ret ∧ ∃ (Gr503 : Gh) (G509 : Gh), ds = [] ∧ G467 ≤ G509 ∧ Has [(6, bool false)] r ∧ Hp G509 (bx g39 [slice A27 a26.slices.length c28, slice A31 a26.notes.length c32, int .i64 a26.end_] 64 :: bx g2 [int .i64 a3.sheet.Paper.Width, int .i64 a3.sheet.Paper.Height, int .i64 a3.sheet.Paper.Columns, int .i64 a3.sheet.Paper.Gap, int .i64 a3.sheet.Paper.Scale, int .i64 a3.sheet.Paper.Lang, slice A4 a3.placed.length c5, slice A8 a3.notes.length c9, slice A20 n21 c22] 67 :: tk (slice A4 a3.placed.length c5) 8 36 :: tk (slice A8 a3.notes.length c9) 8 36 :: rwI Gr503 (Kd.int .i64) A20 [] a3.fills [] c22 3 :: L) w ∧ Gr503 ≤ G509 ∧ True) ?_ ?_
 refine have H:=hC;wb<|sr fun K514 hK515=>mv z<|have hI516:=Hp.rwUp hI469 4 z (gT hG450 hG468);have hI520:=Hp.pick 5 [1, 2, 3, 4, 0] hI516 z;bK H fun y526 hy521 H=>q_cv (vs := [pointer (some ⟨g2, 0, none⟩)]) bo42 z z (pages_open_high_k1_spec hy521 hI520 hl6 (Dat.mono (gT hG450 hG468) hD7) ho16 hl10 (Dat.mono (gT hG450 hG468) hD11) ho18 hn23 hM24)<|?_
 rintro _ wd524 ⟨G522, hG523, hI525, rfl⟩
 refine ⟨_, rfl, ?_⟩
 refine mv z<|q_gtr z z<|asn z<|nl<|hK515 _ _ _<|dC ((w64 ((w64 (a3.sheet.Paper.Height - y53)) - y253)) < y526) (fun h527=>?_) fun h527=>?_
 refine yK h527 H fun H=>wt (bY h527)<|sr fun K528 hK529=>asn z<|nl<|hK529 _ _ _<|wr<|have hI534:=Hp.pick 5 [4, 0, 1, 2, 3] hI525 z;?_
 cases H
 exact ⟨z, G522, _, z, hG523, ⟨z, tv⟩, hI534, gR, tv⟩
 refine nK h527 H fun H=>wf (bN h527)<|sr fun K535 hK536=>mv z<|lda hI525 4 ag64 z z z z<|bK H fun y542 hy537 H=>cv bo44 (pages_band_height_spec hy537 hI525 hl29 (Dat.mono (gT (gT hG450 hG468) hG523) hD30) hl33 (Dat.mono (gT (gT hG450 hG468) hG523) hD34)) z z fun wd540 hI541=>q_add z z<|mv z<|q_leq z z<|asn z<|nl<|hK536 _ _ _<|dC ((w64 ((w64 ((a3.fills.getD (Int.toNat (w64 ((a3.fills.length : Int) - 1))) (0 : Int)) + a35)) + y542)) ≤ (w64 ((w64 (a3.sheet.Paper.Height - y53)) - y253))) (fun h543=>?_) fun h543=>?_
 refine yK h543 H fun H=>wt (bY h543)<|wpc_region<|mv z<|lda hI541 4 ag64 z z z z<|mv z<|bK H fun y549 hy544 H=>q_cv (vs := [pointer (some ⟨g2, 0, none⟩), agg [slice A27 a26.slices.length c28, slice A31 a26.notes.length c32, int .i64 a26.end_].toArray, int .i64 (w64 ((a3.fills.getD (Int.toNat (w64 ((a3.fills.length : Int) - 1))) (0 : Int)) + a35))]) bo45 z z (pages_open_add_k3_spec hy544 hI541 hl6 (Dat.mono (gT (gT hG450 hG468) hG523) hD7) ho16 hl10 (Dat.mono (gT (gT hG450 hG468) hG523) hD11) ho18 hn23 hM24 hl29 (Dat.mono (gT (gT hG450 hG468) hG523) hD30) hl33 (Dat.mono (gT (gT hG450 hG468) hG523) hD34))<|?_
 rintro _ wd547 ⟨A550, c551, A554, c555, A566, n567, c568, G545, hG546, hI548, hl552, hD553, ho562, hl556, hD557, ho564, hn569, hM570, rfl⟩
 refine ⟨_, rfl, ?_⟩
 refine nl<|have hI576:=Hp.pick 5 [4, 0, 3, 1, 2] hI548 z;?_
 cases H
 exact ⟨z, A550, c551, A554, c555, A566, n567, c568, G545, _, z, (gT hG523 hG546), trivial, hI576, hl552, hD553, ho562, hl556, hD557, ho564, hn569, hM570, gR, tv⟩
 refine nK h543 H fun H=>wf (bN h543)<|sQ fun K577 hK578=>bK H fun v584 hC H=>?_
 refine jC .normal G522 [(0, pointer (some ⟨g2, 0, none⟩)), (4, pointer (some ⟨g39, 0, none⟩)), (55, bool v584)] (bx g2 [int .i64 a3.sheet.Paper.Width, int .i64 a3.sheet.Paper.Height, int .i64 a3.sheet.Paper.Columns, int .i64 a3.sheet.Paper.Gap, int .i64 a3.sheet.Paper.Scale, int .i64 a3.sheet.Paper.Lang, slice A4 a3.placed.length c5, slice A8 a3.notes.length c9, slice A20 n21 c22] 67 :: bx g39 [slice A27 a26.slices.length c28, slice A31 a26.notes.length c32, int .i64 a26.end_] 64 :: tk (slice A4 a3.placed.length c5) 8 36 :: tk (slice A8 a3.notes.length c9) 8 36 :: rwI G522 (Kd.int .i64) A20 [] a3.fills [] c22 3 :: L) ?_ fun _ wd587 hI588=>?_
 refine have H:=hC;dC ((a3.fills.length : Int) < a3.sheet.Paper.Columns) (fun h590=>?_) fun h590=>?_
 refine yK h590 H fun H=>bK H fun y595 hy780 H=>?_
 refine wpc_drawL [0, 1, 3, 7, 15, 0, 32, 96, 224, 480, 992, 2047, 4095, 8191, 16383, 8191, 65535, 131071, 262143] (fun D r w => (∃ (G' : Gh), G522 ≤ G' ∧ Regs [(0, pointer (some ⟨g2, 0, none⟩)), (4, pointer (some ⟨g39, 0, none⟩)), (7, int .i64 (w64 ((w64 (a3.sheet.Paper.Height - y53)) - y253)))] [] [(0, 56, pointer (some ⟨g2, 0, none⟩)), (1, 57, pointer (some ⟨g2, 0, none⟩)), (2, 58, pointer (some ⟨g2, 8, none⟩)), (3, 59, slice A20 n21 c22), (4, 60, int .i64 (a3.fills.length : Int)), (5, 61, pointer (some ⟨g2, 0, none⟩)), (6, 62, pointer (some ⟨g2, 0, none⟩)), (7, 63, pointer (some ⟨g2, 0, none⟩)), (8, 64, pointer (some ⟨g2, 0, none⟩)), (9, 65, pointer (some ⟨g2, 2, none⟩)), (10, 66, int .i64 a3.sheet.Paper.Columns), (11, 67, bool (decide ((a3.fills.length : Int) < a3.sheet.Paper.Columns))), (12, 68, bool (decide ((a3.fills.length : Int) < a3.sheet.Paper.Columns))), (13, 69, agg [slice A27 a26.slices.length c28, slice A31 a26.notes.length c32, int .i64 a26.end_].toArray), (14, 70, int .i64 y595), (15, 71, int .i64 (w64 ((w64 (a3.sheet.Paper.Height - y53)) - y253))), (16, 72, bool (decide (y595 ≤ (w64 ((w64 (a3.sheet.Paper.Height - y53)) - y253))))), (17, 73, bool (decide (y595 ≤ (w64 ((w64 (a3.sheet.Paper.Height - y53)) - y253))))), (18, 55, bool (decide (y595 ≤ (w64 ((w64 (a3.sheet.Paper.Height - y53)) - y253)))))] D r ∧ Hp G' (bx g2 [int .i64 a3.sheet.Paper.Width, int .i64 a3.sheet.Paper.Height, int .i64 a3.sheet.Paper.Columns, int .i64 a3.sheet.Paper.Gap, int .i64 a3.sheet.Paper.Scale, int .i64 a3.sheet.Paper.Lang, slice A4 a3.placed.length c5, slice A8 a3.notes.length c9, slice A20 n21 c22] 67 :: tk (slice A4 a3.placed.length c5) 8 36 :: tk (slice A8 a3.notes.length c9) 8 36 :: rwI G522 (Kd.int .i64) A20 [] a3.fills [] c22 3 :: bx g39 [slice A27 a26.slices.length c28, slice A31 a26.notes.length c32, int .i64 a26.end_] 64 :: L) w)) mixo z z ?_ ?_ ?_
 exact ⟨_, Gh.le_refl _, Regs.start ⟨z, z, z, tv⟩ trivial, hI541.drew⟩
 refine ⟨?_, ?_, ?_, ?_, ?_, ?_, ?_, ?_, ?_, ?_, ?_, ?_, ?_, ?_, ?_, ?_, ?_, ?_, ?_, tv⟩
 rintro D r wd795 ⟨G791, hG792, hReg794, hI793⟩ hDi hpre hpost
 obtain ⟨r0, rfl⟩ := Has.ex (cC (hReg794.ins.get 0 rfl) cN)
 exact mv z<|nl ⟨z, ⟨_, hG792, (Regs.step hReg794 hDi z z z z), hI793⟩⟩
 rintro D r wd795 ⟨G791, hG792, hReg794, hI793⟩ hDi hpre hpost
 obtain ⟨r0, rfl⟩ := Has.ex (cC (hReg794.get 0 rfl (hpre 0 rfl)) cN)
 exact q_nc z<|nl ⟨z, ⟨_, hG792, (Regs.step hReg794 hDi z z z z), hI793⟩⟩
 rintro D r wd795 ⟨G791, hG792, hReg794, hI793⟩ hDi hpre hpost
 obtain ⟨r0, rfl⟩ := Has.ex (cC (hReg794.get 1 rfl (hpre 1 rfl)) cN)
 exact fa fl67_3 z<|nl ⟨z, ⟨_, hG792, (Regs.step hReg794 hDi z z z z), hI793⟩⟩
 rintro D r wd795 ⟨G791, hG792, hReg794, hI793⟩ hDi hpre hpost
 obtain ⟨r0, rfl⟩ := Has.ex (cC (hReg794.get 2 rfl (hpre 2 rfl)) cN)
 exact ld hI793 0 ag65 z z z<|nl ⟨z, ⟨_, hG792, (Regs.step hReg794 hDi z z z z), hI793⟩⟩
 rintro D r wd795 ⟨G791, hG792, hReg794, hI793⟩ hDi hpre hpost
 obtain ⟨r0, rfl⟩ := Has.ex (cC (hReg794.get 3 rfl (hpre 3 rfl)) cN)
 exact q_lenm so65 z hn23<|nl ⟨z, ⟨_, hG792, (Regs.step hReg794 hDi z z z z), hI793⟩⟩
 rintro D r wd795 ⟨G791, hG792, hReg794, hI793⟩ hDi hpre hpost
 obtain ⟨r0, rfl⟩ := Has.ex (cC (hReg794.ins.get 0 rfl) cN)
 exact mv z<|nl ⟨z, ⟨_, hG792, (Regs.step hReg794 hDi z z z z), hI793⟩⟩
 rintro D r wd795 ⟨G791, hG792, hReg794, hI793⟩ hDi hpre hpost
 obtain ⟨r0, rfl⟩ := Has.ex (cC (hReg794.get 5 rfl (hpre 5 rfl)) cN)
 exact q_nc z<|nl ⟨z, ⟨_, hG792, (Regs.step hReg794 hDi z z z z), hI793⟩⟩
 rintro D r wd795 ⟨G791, hG792, hReg794, hI793⟩ hDi hpre hpost
 obtain ⟨r0, rfl⟩ := Has.ex (cC (hReg794.get 6 rfl (hpre 6 rfl)) cN)
 exact fa fl67_0 z<|nl ⟨z, ⟨_, hG792, (Regs.step hReg794 hDi z z z z), hI793⟩⟩
 rintro D r wd795 ⟨G791, hG792, hReg794, hI793⟩ hDi hpre hpost
 obtain ⟨r0, rfl⟩ := Has.ex (cC (hReg794.get 7 rfl (hpre 7 rfl)) cN)
 exact fa fl56_0 z<|nl ⟨z, ⟨_, hG792, (Regs.step hReg794 hDi z z z z), hI793⟩⟩
 rintro D r wd795 ⟨G791, hG792, hReg794, hI793⟩ hDi hpre hpost
 obtain ⟨r0, rfl⟩ := Has.ex (cC (hReg794.get 8 rfl (hpre 8 rfl)) cN)
 exact fa fl23_2 z<|nl ⟨z, ⟨_, hG792, (Regs.step hReg794 hDi z z z z), hI793⟩⟩
 rintro D r wd795 ⟨G791, hG792, hReg794, hI793⟩ hDi hpre hpost
 obtain ⟨r0, rfl⟩ := Has.ex (cC (hReg794.get 9 rfl (hpre 9 rfl)) cN)
 exact ld hI793 0 ag3 z z z<|nl ⟨z, ⟨_, hG792, (Regs.step hReg794 hDi z z z z), hI793⟩⟩
 rintro D r wd795 ⟨G791, hG792, hReg794, hI793⟩ hDi hpre hpost
 obtain ⟨r0, rfl⟩ := Has.ex (cC (hReg794.get 4 rfl (hpre 4 rfl)) (cC (hReg794.get 10 rfl (hpre 10 rfl)) cN))
 exact q_lss z z<|nl ⟨z, ⟨_, hG792, (Regs.step hReg794 hDi z z z z), hI793⟩⟩
 rintro D r wd795 ⟨G791, hG792, hReg794, hI793⟩ hDi hpre hpost
 obtain ⟨r0, rfl⟩ := Has.ex (cC (hReg794.get 11 rfl (hpre 11 rfl)) cN)
 exact mv z<|nl ⟨z, ⟨_, hG792, (Regs.step hReg794 hDi z z z z), hI793⟩⟩
 rintro D r wd795 ⟨G791, hG792, hReg794, hI793⟩ hDi hpre hpost
 obtain ⟨r0, rfl⟩ := Has.ex (cC (hReg794.ins.get 1 rfl) (cC (hReg794.get 12 rfl (hpre 12 rfl)) cN))
 exact lda (hw:=gY z z z (bY h590)) hI793 4 ag64 z z z z<|nl ⟨z, ⟨_, hG792, (Regs.step hReg794 hDi z z z z), hI793⟩⟩
 rintro D r wd795 ⟨G791, hG792, hReg794, hI793⟩ hDi hpre hpost
 obtain ⟨r0, rfl⟩ := Has.ex (cC (hReg794.get 12 rfl (hpre 12 rfl)) (cC (hReg794.get 13 rfl (hpre 13 rfl)) cN))
 exact cv (hw:=gY z z z (bY h590)) bo44 (pages_band_height_spec hy780 hI793 hl29 (Dat.mono (gT (gT (gT hG450 hG468) hG523) hG792) hD30) hl33 (Dat.mono (gT (gT (gT hG450 hG468) hG523) hG792) hD34)) z z fun wd593 hI594=>nl ⟨z, ⟨_, hG792, (Regs.step hReg794 hDi z z z z), hI594⟩⟩
 rintro D r wd795 ⟨G791, hG792, hReg794, hI793⟩ hDi hpre hpost
 obtain ⟨r0, rfl⟩ := Has.ex (cC (hReg794.ins.get 2 rfl) (cC (hReg794.get 12 rfl (hpre 12 rfl)) cN))
 exact mv (hw:=gY z z z (bY h590)) z<|nl ⟨z, ⟨_, hG792, (Regs.step hReg794 hDi z z z z), hI793⟩⟩
 rintro D r wd795 ⟨G791, hG792, hReg794, hI793⟩ hDi hpre hpost
 obtain ⟨r0, rfl⟩ := Has.ex (cC (hReg794.get 12 rfl (hpre 12 rfl)) (cC (hReg794.get 14 rfl (hpre 14 rfl)) (cC (hReg794.get 15 rfl (hpre 15 rfl)) cN)))
 exact q_leq (hw:=gY z z z (bY h590)) z z<|nl ⟨z, ⟨_, hG792, (Regs.step hReg794 hDi z z z z), hI793⟩⟩
 rintro D r wd795 ⟨G791, hG792, hReg794, hI793⟩ hDi hpre hpost
 obtain ⟨r0, rfl⟩ := Has.ex (cC (hReg794.get 12 rfl (hpre 12 rfl)) (cC (hReg794.get 16 rfl (hpre 16 rfl)) cN))
 exact pkt (bY h590) z<|nl ⟨z, ⟨_, hG792, (Regs.step hReg794 hDi z z z z), hI793⟩⟩
 rintro D r wd795 ⟨G791, hG792, hReg794, hI793⟩ hDi hpre hpost
 obtain ⟨r0, rfl⟩ := Has.ex (cC (hReg794.get 17 rfl (hpre 17 rfl)) cN)
 exact asn z<|nl ⟨z, ⟨_, hG792, (Regs.step hReg794 hDi z z z z), hI793⟩⟩
 intro D r wd795 hall hR
 obtain ⟨G791, hG792, hReg794, hI793⟩ := hR
 obtain ⟨r0, rfl⟩ := Has.ex (cC (hReg794.ins.get 0 rfl) (cC (hReg794.ins.get 1 rfl) (cC (hReg794.get 18 rfl (hall 18 (Nat.le_of_ble_eq_true rfl))) cN)))
 refine have hI800:=Hp.pick 5 [0, 4, 1, 2, 3] hI793 z;?_
 cases H
 exact je ⟨z, z, z, tv⟩ (Hp.low hG792 hI800)
 refine nK h590 H fun H=>?_
 refine wpc_drawL [0, 1, 3, 7, 15, 0, 32, 96, 224, 480, 992, 2047, 4095, 8191, 16383, 8191, 65535, 131071, 262143] (fun D r w => (∃ (G' : Gh), G522 ≤ G' ∧ Regs [(0, pointer (some ⟨g2, 0, none⟩)), (4, pointer (some ⟨g39, 0, none⟩))] [] [(0, 56, pointer (some ⟨g2, 0, none⟩)), (1, 57, pointer (some ⟨g2, 0, none⟩)), (2, 58, pointer (some ⟨g2, 8, none⟩)), (3, 59, slice A20 n21 c22), (4, 60, int .i64 (a3.fills.length : Int)), (5, 61, pointer (some ⟨g2, 0, none⟩)), (6, 62, pointer (some ⟨g2, 0, none⟩)), (7, 63, pointer (some ⟨g2, 0, none⟩)), (8, 64, pointer (some ⟨g2, 0, none⟩)), (9, 65, pointer (some ⟨g2, 2, none⟩)), (10, 66, int .i64 a3.sheet.Paper.Columns), (11, 67, bool (decide ((a3.fills.length : Int) < a3.sheet.Paper.Columns))), (12, 68, bool (decide ((a3.fills.length : Int) < a3.sheet.Paper.Columns))), (13, 69, undef), (14, 70, undef), (15, 71, undef), (16, 72, undef), (17, 73, bool false), (18, 55, bool false)] D r ∧ Hp G' (bx g2 [int .i64 a3.sheet.Paper.Width, int .i64 a3.sheet.Paper.Height, int .i64 a3.sheet.Paper.Columns, int .i64 a3.sheet.Paper.Gap, int .i64 a3.sheet.Paper.Scale, int .i64 a3.sheet.Paper.Lang, slice A4 a3.placed.length c5, slice A8 a3.notes.length c9, slice A20 n21 c22] 67 :: tk (slice A4 a3.placed.length c5) 8 36 :: tk (slice A8 a3.notes.length c9) 8 36 :: rwI G522 (Kd.int .i64) A20 [] a3.fills [] c22 3 :: bx g39 [slice A27 a26.slices.length c28, slice A31 a26.notes.length c32, int .i64 a26.end_] 64 :: L) w)) mixo z z ?_ ?_ ?_
 exact ⟨_, Gh.le_refl _, Regs.start ⟨z, z, tv⟩ trivial, hI541.drew⟩
 refine ⟨?_, ?_, ?_, ?_, ?_, ?_, ?_, ?_, ?_, ?_, ?_, ?_, ?_, ?_, ?_, ?_, ?_, ?_, ?_, tv⟩
 rintro D r wd805 ⟨G801, hG802, hReg804, hI803⟩ hDi hpre hpost
 obtain ⟨r0, rfl⟩ := Has.ex (cC (hReg804.ins.get 0 rfl) cN)
 exact mv z<|nl ⟨z, ⟨_, hG802, (Regs.step hReg804 hDi z z z z), hI803⟩⟩
 rintro D r wd805 ⟨G801, hG802, hReg804, hI803⟩ hDi hpre hpost
 obtain ⟨r0, rfl⟩ := Has.ex (cC (hReg804.get 0 rfl (hpre 0 rfl)) cN)
 exact q_nc z<|nl ⟨z, ⟨_, hG802, (Regs.step hReg804 hDi z z z z), hI803⟩⟩
 rintro D r wd805 ⟨G801, hG802, hReg804, hI803⟩ hDi hpre hpost
 obtain ⟨r0, rfl⟩ := Has.ex (cC (hReg804.get 1 rfl (hpre 1 rfl)) cN)
 exact fa fl67_3 z<|nl ⟨z, ⟨_, hG802, (Regs.step hReg804 hDi z z z z), hI803⟩⟩
 rintro D r wd805 ⟨G801, hG802, hReg804, hI803⟩ hDi hpre hpost
 obtain ⟨r0, rfl⟩ := Has.ex (cC (hReg804.get 2 rfl (hpre 2 rfl)) cN)
 exact ld hI803 0 ag65 z z z<|nl ⟨z, ⟨_, hG802, (Regs.step hReg804 hDi z z z z), hI803⟩⟩
 rintro D r wd805 ⟨G801, hG802, hReg804, hI803⟩ hDi hpre hpost
 obtain ⟨r0, rfl⟩ := Has.ex (cC (hReg804.get 3 rfl (hpre 3 rfl)) cN)
 exact q_lenm so65 z hn23<|nl ⟨z, ⟨_, hG802, (Regs.step hReg804 hDi z z z z), hI803⟩⟩
 rintro D r wd805 ⟨G801, hG802, hReg804, hI803⟩ hDi hpre hpost
 obtain ⟨r0, rfl⟩ := Has.ex (cC (hReg804.ins.get 0 rfl) cN)
 exact mv z<|nl ⟨z, ⟨_, hG802, (Regs.step hReg804 hDi z z z z), hI803⟩⟩
 rintro D r wd805 ⟨G801, hG802, hReg804, hI803⟩ hDi hpre hpost
 obtain ⟨r0, rfl⟩ := Has.ex (cC (hReg804.get 5 rfl (hpre 5 rfl)) cN)
 exact q_nc z<|nl ⟨z, ⟨_, hG802, (Regs.step hReg804 hDi z z z z), hI803⟩⟩
 rintro D r wd805 ⟨G801, hG802, hReg804, hI803⟩ hDi hpre hpost
 obtain ⟨r0, rfl⟩ := Has.ex (cC (hReg804.get 6 rfl (hpre 6 rfl)) cN)
 exact fa fl67_0 z<|nl ⟨z, ⟨_, hG802, (Regs.step hReg804 hDi z z z z), hI803⟩⟩
 rintro D r wd805 ⟨G801, hG802, hReg804, hI803⟩ hDi hpre hpost
 obtain ⟨r0, rfl⟩ := Has.ex (cC (hReg804.get 7 rfl (hpre 7 rfl)) cN)
 exact fa fl56_0 z<|nl ⟨z, ⟨_, hG802, (Regs.step hReg804 hDi z z z z), hI803⟩⟩
 rintro D r wd805 ⟨G801, hG802, hReg804, hI803⟩ hDi hpre hpost
 obtain ⟨r0, rfl⟩ := Has.ex (cC (hReg804.get 8 rfl (hpre 8 rfl)) cN)
 exact fa fl23_2 z<|nl ⟨z, ⟨_, hG802, (Regs.step hReg804 hDi z z z z), hI803⟩⟩
 rintro D r wd805 ⟨G801, hG802, hReg804, hI803⟩ hDi hpre hpost
 obtain ⟨r0, rfl⟩ := Has.ex (cC (hReg804.get 9 rfl (hpre 9 rfl)) cN)
 exact ld hI803 0 ag3 z z z<|nl ⟨z, ⟨_, hG802, (Regs.step hReg804 hDi z z z z), hI803⟩⟩
 rintro D r wd805 ⟨G801, hG802, hReg804, hI803⟩ hDi hpre hpost
 obtain ⟨r0, rfl⟩ := Has.ex (cC (hReg804.get 4 rfl (hpre 4 rfl)) (cC (hReg804.get 10 rfl (hpre 10 rfl)) cN))
 exact q_lss z z<|nl ⟨z, ⟨_, hG802, (Regs.step hReg804 hDi z z z z), hI803⟩⟩
 rintro D r wd805 ⟨G801, hG802, hReg804, hI803⟩ hDi hpre hpost
 obtain ⟨r0, rfl⟩ := Has.ex (cC (hReg804.get 11 rfl (hpre 11 rfl)) cN)
 exact mv z<|nl ⟨z, ⟨_, hG802, (Regs.step hReg804 hDi z z z z), hI803⟩⟩
 rintro D r wd805 ⟨G801, hG802, hReg804, hI803⟩ hDi hpre hpost
 obtain ⟨r0, rfl⟩ := Has.ex (cC (hReg804.get 12 rfl (hpre 12 rfl)) cN)
 exact wN (gN z z z (bN h590) z)<|nl ⟨z, ⟨_, hG802, (Regs.step hReg804 hDi z z z z), hI803⟩⟩
 rintro D r wd805 ⟨G801, hG802, hReg804, hI803⟩ hDi hpre hpost
 obtain ⟨r0, rfl⟩ := Has.ex (cC (hReg804.get 12 rfl (hpre 12 rfl)) cN)
 exact wN (gN z z z (bN h590) z)<|nl ⟨z, ⟨_, hG802, (Regs.step hReg804 hDi z z z z), hI803⟩⟩
 rintro D r wd805 ⟨G801, hG802, hReg804, hI803⟩ hDi hpre hpost
 obtain ⟨r0, rfl⟩ := Has.ex (cC (hReg804.get 12 rfl (hpre 12 rfl)) cN)
 exact wN (gN z z z (bN h590) z)<|nl ⟨z, ⟨_, hG802, (Regs.step hReg804 hDi z z z z), hI803⟩⟩
 rintro D r wd805 ⟨G801, hG802, hReg804, hI803⟩ hDi hpre hpost
 obtain ⟨r0, rfl⟩ := Has.ex (cC (hReg804.get 12 rfl (hpre 12 rfl)) cN)
 exact wN (gN z z z (bN h590) z)<|nl ⟨z, ⟨_, hG802, (Regs.step hReg804 hDi z z z z), hI803⟩⟩
 rintro D r wd805 ⟨G801, hG802, hReg804, hI803⟩ hDi hpre hpost
 obtain ⟨r0, rfl⟩ := Has.ex (cC (hReg804.get 12 rfl (hpre 12 rfl)) (cC (hReg804.get 16 rfl (hpre 16 rfl)) cN))
 exact pkf (bN h590) z<|nl ⟨z, ⟨_, hG802, (Regs.step hReg804 hDi z z z z), hI803⟩⟩
 rintro D r wd805 ⟨G801, hG802, hReg804, hI803⟩ hDi hpre hpost
 obtain ⟨r0, rfl⟩ := Has.ex (cC (hReg804.get 17 rfl (hpre 17 rfl)) cN)
 exact asn z<|nl ⟨z, ⟨_, hG802, (Regs.step hReg804 hDi z z z z), hI803⟩⟩
 intro D r wd805 hall hR
 obtain ⟨G801, hG802, hReg804, hI803⟩ := hR
 obtain ⟨r0, rfl⟩ := Has.ex (cC (hReg804.ins.get 0 rfl) (cC (hReg804.ins.get 1 rfl) (cC (hReg804.get 18 rfl (hall 18 (Nat.le_of_ble_eq_true rfl))) cN)))
 refine have hI810:=Hp.pick 5 [0, 4, 1, 2, 3] hI803 z;?_
 cases H
 exact je ⟨z, z, z, tv⟩ (Hp.low hG802 hI810)
 refine hK578 _ _ _<|dC (v584 = true) (fun h811=>?_) fun h811=>?_
 refine yK h811 H fun H=>wt (vY h811)<|sr fun K812 hK813=>mv z<|mv z<|q_nc z<|fa fl67_3 z<|ld hI588 0 ag65 z z z<|?_
 refine q_bs hI588 (vs := [(0, int .i64 0)]) (cs := [int .i64 0]) el65 ze3 rfl (by decide) rfl (by kernel_rfl) (fun g815 wd816 hI817 => ?_)
 refine iK H fun h825 H=>?_
 refine q_appm (kd := (Kd.int .i64)) (ys := [0]) hI817 5 el65 ze3 rfl rfl rfl rfl hM24 hn23 (src_bx hI817 0 so65 rfl rfl) ⟨[int .i64 0], _, rfl, rfl, rfl⟩ rfl gR (by simp only [List.length_cons, List.length_nil]; omega) (by simp only [List.length_cons, List.length_nil]; omega) (fun A818 n819 c820 wd821 hn822 hM823 hI824 => ?_)
 refine q_nc z<|fa fl67_3 z<|stk hI824 1 ag65 z z z z z z z fun wd826 hI827=>nl<|hK813 _ _ _<|wpc_region<|mv z<|lda hI827 2 ag64 z z z z<|have hI833:=Hp.pick 6 [1, 3, 4, 5, 0, 2] hI827 z;bK H fun y839 hy834 H=>q_cv (vs := [pointer (some ⟨g2, 0, none⟩), agg [slice A27 a26.slices.length c28, slice A31 a26.notes.length c32, int .i64 a26.end_].toArray, int .i64 0]) bo45 z z (pages_open_add_k3_spec (a3 := (⟨a3.sheet, a3.placed, a3.notes, a3.fills ++ [0]⟩ : pages_open)) hy834 hI833 hl6 (Dat.mono (gT (gT hG450 hG468) hG523) hD7) ho16 hl10 (Dat.mono (gT (gT hG450 hG468) hG523) hD11) ho18 hn822 hM823 hl29 (Dat.mono (gT (gT hG450 hG468) hG523) hD30) hl33 (Dat.mono (gT (gT hG450 hG468) hG523) hD34))<|?_
 rintro _ wd837 ⟨A840, c841, A844, c845, A856, n857, c858, G835, hG836, hI838, hl842, hD843, ho852, hl846, hD847, ho854, hn859, hM860, rfl⟩
 refine ⟨_, rfl, ?_⟩
 refine nl<|have hI867:=Hp.pick 6 [5, 0, 3, 1, 2] hI838 z;?_
 cases H
 exact ⟨z, A840, c841, A844, c845, A856, n857, c858, G835, _, z, (gT hG523 hG836), trivial, hI867, hl842, hD843, ho852, hl846, hD847, ho854, hn859, hM860, gR, tv⟩
 refine nK h811 H fun H=>wf (vN h811)<|sr fun K868 hK869=>asn z<|nl<|hK869 _ _ _<|wr<|have hI874:=Hp.pick 5 [1, 0, 2, 3, 4] hI588 z;?_
 cases H
 exact ⟨z, G522, _, z, hG523, ⟨z, tv⟩, hI874, gR, tv⟩
 rcases o513 with ⟨v474, v475, v476, v477, v478, v479, v480, v487, v494⟩ | _
 rintro e r ds wd507 ⟨rfl, A481, c482, A488, c489, A495, n496, c497, Gr501, G505, rfl, hG506, hHas, hI508, hl483, hD484, ho485, hl490, hD491, ho492, hn499, hM498, hGr502, _⟩
 rw [hHas.eq]; clear hHas
 refine hK473 _ _ _<|sr fun K875 hK876=>asn z<|nl<|hK876 _ _ _<|wr<|have hI877:=Hp.rwUp hI508 2 z hGr502;have hI882:=Hp.pick 5 [1, 3, 4, 2] hI877 z;?_
 cases H
 exact ⟨.inr z, z, _, ⟨_, _, z, z, z⟩, A481, c482, A488, c489, A495, n496, c497, _, (gT (gT hG450 hG468) hG506), hI882, hl483, hD484, ho485, hl490, hD491, ho492, hn499, hM498, z⟩
 rintro e r ds wd511 ⟨rfl, Gr503, G509, rfl, hG510, hHas, hI512, hGr504, _⟩
 rw [hHas.eq]; clear hHas
 refine have hI883:=Hp.rwUp hI512 4 z hGr504;have hI888:=Hp.pick 5 [1, 2, 3, 4] hI883 z;?_
 cases H
 exact ⟨.inr z, z, _, ⟨_, _, z, z, z⟩, A4, c5, A8, c9, A20, n21, c22, _, (gT (gT hG450 hG468) hG510), hI888, hl6, (Dat.mono (gT (gT hG450 hG468) hG510) hD7), ho16, hl10, (Dat.mono (gT (gT hG450 hG468) hG510) hD11), ho18, hn23, hM24, z⟩
theorem pages_open_close_k1_spec {a3 : pages_open} {a26 g2 A4 c5 A8 c9 A20 n21 c22 r1027 G L w} (H : pages_open_close_k1 a3 a26 = some r1027) (hI : Hp G (bx g2 [int .i64 a3.sheet.Paper.Width, int .i64 a3.sheet.Paper.Height, int .i64 a3.sheet.Paper.Columns, int .i64 a3.sheet.Paper.Gap, int .i64 a3.sheet.Paper.Scale, int .i64 a3.sheet.Paper.Lang, slice A4 a3.placed.length c5, slice A8 a3.notes.length c9, slice A20 n21 c22] 67 :: tk (slice A4 a3.placed.length c5) 8 36 :: tk (slice A8 a3.notes.length c9) 8 36 :: rwI G (Kd.int .i64) A20 [] a3.fills [] c22 3 :: L) w) (hl6 : a3.placed.length ≤ c5) (hD7 : Dat k_api_Slice G A4 a3.placed) (ho16 : Own A4 c5) (hl10 : a3.notes.length ≤ c9) (hD11 : Dat k_api_Slice G A8 a3.notes) (ho18 : Own A8 c9) (hn23 : a3.fills.length = n21) (hM24 : Mw A20 A20 ([] : List Int).length n21 c22 c22 1) :
    Calls Try.prog 23 [pointer (some ⟨g2, 0, none⟩), int .i64 a26].toArray w fun e w' => ∃ (A1028 : Option Addr) (c1029 : Nat) (G' : Gh), G ≤ G' ∧ Hp G' (bx g2 [int .i64 a3.sheet.Paper.Width, int .i64 a3.sheet.Paper.Height, int .i64 a3.sheet.Paper.Columns, int .i64 a3.sheet.Paper.Gap, int .i64 a3.sheet.Paper.Scale, int .i64 a3.sheet.Paper.Lang, slice A4 a3.placed.length c5, slice A8 a3.notes.length c9, slice A20 n21 c22] 67 :: tk (slice A8 a3.notes.length c9) 8 36 :: rwI G' (Kd.int .i64) A20 [] a3.fills [] c22 3 :: L) w' ∧ r1027.Slices.length ≤ c1029 ∧ Dat k_api_Slice G' A1028 r1027.Slices ∧ e = .returned (agg [int .i64 r1027.Number, slice A1028 r1027.Slices.length c1029].toArray) := by
 refine calls_intro (N := 53) Try.func23 z z (Nat.le_of_ble_eq_true z)<|?_
 unfold pages_open_close_k1 at H
 refine sr fun K27 hK28=>q_alloc hI ze34 fun g30 wd31 hI32=>nl<|hK28 _ _ _<|sQ fun K33 hK34=>bK H fun y44 hy229 H=>bK H fun y244 hy429 H=>?_
 refine wpc_drawL [0, 1, 3, 7, 15, 31, 0, 64, 192, 448, 960, 2047, 0, 6080, 16383, 32767] (fun D r w => (D 13 = false ∧ ∃ (G' : Gh), G ≤ G' ∧ Regs [(0, pointer (some ⟨g2, 0, none⟩)), (1, int .i64 a26), (4, pointer (some ⟨g30, 0, none⟩))] [] [(0, 9, pointer (some ⟨g2, 0, none⟩)), (1, 10, pointer (some ⟨g2, 0, none⟩)), (2, 11, pointer (some ⟨g2, 0, none⟩)), (3, 12, pointer (some ⟨g2, 0, none⟩)), (4, 13, pointer (some ⟨g2, 1, none⟩)), (5, 14, int .i64 a3.sheet.Paper.Height), (6, 15, pointer (some ⟨g2, 0, none⟩)), (7, 16, pointer (some ⟨g2, 0, none⟩)), (8, 17, pointer (some ⟨g2, 7, none⟩)), (9, 18, slice A8 a3.notes.length c9), (10, 19, int .i64 y44), (11, 20, int .i64 (w64 (a3.sheet.Paper.Height - y44))), (12, 21, pointer (some ⟨g2, 0, none⟩))] D r ∧ Hp G' (bx g30 [int .i64 0, slice none 0 0] 34 :: bx g2 [int .i64 a3.sheet.Paper.Width, int .i64 a3.sheet.Paper.Height, int .i64 a3.sheet.Paper.Columns, int .i64 a3.sheet.Paper.Gap, int .i64 a3.sheet.Paper.Scale, int .i64 a3.sheet.Paper.Lang, slice A4 a3.placed.length c5, slice A8 a3.notes.length c9, slice A20 n21 c22] 67 :: tk (slice A4 a3.placed.length c5) 8 36 :: tk (slice A8 a3.notes.length c9) 8 36 :: rwI G (Kd.int .i64) A20 [] a3.fills [] c22 3 :: L) w) ∨ (D 13 = true ∧ ∃ (G240 : Gh) (G' : Gh), G ≤ G' ∧ G240 ≤ G' ∧ Regs [(0, pointer (some ⟨g2, 0, none⟩)), (1, int .i64 a26), (4, pointer (some ⟨g30, 0, none⟩))] [] [(0, 9, pointer (some ⟨g2, 0, none⟩)), (1, 10, pointer (some ⟨g2, 0, none⟩)), (2, 11, pointer (some ⟨g2, 0, none⟩)), (3, 12, pointer (some ⟨g2, 0, none⟩)), (4, 13, pointer (some ⟨g2, 1, none⟩)), (5, 14, int .i64 a3.sheet.Paper.Height), (6, 15, pointer (some ⟨g2, 0, none⟩)), (7, 16, pointer (some ⟨g2, 0, none⟩)), (8, 17, pointer (some ⟨g2, 7, none⟩)), (9, 18, slice A8 a3.notes.length c9), (10, 19, int .i64 y44), (11, 20, int .i64 (w64 (a3.sheet.Paper.Height - y44))), (12, 21, pointer (some ⟨g2, 0, none⟩)), (13, 22, int .i64 y244), (14, 23, int .i64 (max (w64 (a3.sheet.Paper.Height - y44)) y244)), (15, 5, int .i64 (max (w64 (a3.sheet.Paper.Height - y44)) y244))] D r ∧ Hp G' (bx g30 [int .i64 0, slice none 0 0] 34 :: bx g2 [int .i64 a3.sheet.Paper.Width, int .i64 a3.sheet.Paper.Height, int .i64 a3.sheet.Paper.Columns, int .i64 a3.sheet.Paper.Gap, int .i64 a3.sheet.Paper.Scale, int .i64 a3.sheet.Paper.Lang, slice A4 a3.placed.length c5, slice A8 a3.notes.length c9, slice A20 n21 c22] 67 :: tk (slice A4 a3.placed.length c5) 8 36 :: tk (slice A8 a3.notes.length c9) 8 36 :: rwI G240 (Kd.int .i64) A20 [] a3.fills [] c22 3 :: L) w)) mixo z z ?_ ?_ ?_
 exact (.inl ⟨z, _, Gh.le_refl _, Regs.start ⟨z, z, z, tv⟩ trivial, hI32.drew⟩)
 refine ⟨?_, ?_, ?_, ?_, ?_, ?_, ?_, ?_, ?_, ?_, ?_, ?_, ?_, ?_, ?_, ?_, tv⟩
 rintro D r wd455 (⟨hd2, G451, hG452, hReg454, hI453⟩ | ⟨hd1, G240, G451, hG452, hGr445, hReg454, hI453⟩) hDi hpre hpost
 obtain ⟨r0, rfl⟩ := Has.ex (cC (hReg454.ins.get 0 rfl) cN)
 exact mv z<|nl ⟨z, (.inl ⟨hd2, _, hG452, (Regs.step hReg454 hDi z z z z), hI453⟩)⟩
 obtain ⟨r0, rfl⟩ := Has.ex (cC (hReg454.ins.get 0 rfl) cN)
 exact mv z<|nl ⟨z, (.inr ⟨hd1, G240, _, hG452, hGr445, (Regs.step hReg454 hDi z z z z), hI453⟩)⟩
 rintro D r wd455 (⟨hd2, G451, hG452, hReg454, hI453⟩ | ⟨hd1, G240, G451, hG452, hGr445, hReg454, hI453⟩) hDi hpre hpost
 obtain ⟨r0, rfl⟩ := Has.ex (cC (hReg454.get 0 rfl (hpre 0 rfl)) cN)
 exact q_nc z<|nl ⟨z, (.inl ⟨hd2, _, hG452, (Regs.step hReg454 hDi z z z z), hI453⟩)⟩
 obtain ⟨r0, rfl⟩ := Has.ex (cC (hReg454.get 0 rfl (hpre 0 rfl)) cN)
 exact q_nc z<|nl ⟨z, (.inr ⟨hd1, G240, _, hG452, hGr445, (Regs.step hReg454 hDi z z z z), hI453⟩)⟩
 rintro D r wd455 (⟨hd2, G451, hG452, hReg454, hI453⟩ | ⟨hd1, G240, G451, hG452, hGr445, hReg454, hI453⟩) hDi hpre hpost
 obtain ⟨r0, rfl⟩ := Has.ex (cC (hReg454.get 1 rfl (hpre 1 rfl)) cN)
 exact fa fl67_0 z<|nl ⟨z, (.inl ⟨hd2, _, hG452, (Regs.step hReg454 hDi z z z z), hI453⟩)⟩
 obtain ⟨r0, rfl⟩ := Has.ex (cC (hReg454.get 1 rfl (hpre 1 rfl)) cN)
 exact fa fl67_0 z<|nl ⟨z, (.inr ⟨hd1, G240, _, hG452, hGr445, (Regs.step hReg454 hDi z z z z), hI453⟩)⟩
 rintro D r wd455 (⟨hd2, G451, hG452, hReg454, hI453⟩ | ⟨hd1, G240, G451, hG452, hGr445, hReg454, hI453⟩) hDi hpre hpost
 obtain ⟨r0, rfl⟩ := Has.ex (cC (hReg454.get 2 rfl (hpre 2 rfl)) cN)
 exact fa fl56_0 z<|nl ⟨z, (.inl ⟨hd2, _, hG452, (Regs.step hReg454 hDi z z z z), hI453⟩)⟩
 obtain ⟨r0, rfl⟩ := Has.ex (cC (hReg454.get 2 rfl (hpre 2 rfl)) cN)
 exact fa fl56_0 z<|nl ⟨z, (.inr ⟨hd1, G240, _, hG452, hGr445, (Regs.step hReg454 hDi z z z z), hI453⟩)⟩
 rintro D r wd455 (⟨hd2, G451, hG452, hReg454, hI453⟩ | ⟨hd1, G240, G451, hG452, hGr445, hReg454, hI453⟩) hDi hpre hpost
 obtain ⟨r0, rfl⟩ := Has.ex (cC (hReg454.get 3 rfl (hpre 3 rfl)) cN)
 exact fa fl23_1 z<|nl ⟨z, (.inl ⟨hd2, _, hG452, (Regs.step hReg454 hDi z z z z), hI453⟩)⟩
 obtain ⟨r0, rfl⟩ := Has.ex (cC (hReg454.get 3 rfl (hpre 3 rfl)) cN)
 exact fa fl23_1 z<|nl ⟨z, (.inr ⟨hd1, G240, _, hG452, hGr445, (Regs.step hReg454 hDi z z z z), hI453⟩)⟩
 rintro D r wd455 (⟨hd2, G451, hG452, hReg454, hI453⟩ | ⟨hd1, G240, G451, hG452, hGr445, hReg454, hI453⟩) hDi hpre hpost
 obtain ⟨r0, rfl⟩ := Has.ex (cC (hReg454.get 4 rfl (hpre 4 rfl)) cN)
 exact ld hI453 1 ag3 z z z<|nl ⟨z, (.inl ⟨hd2, _, hG452, (Regs.step hReg454 hDi z z z z), hI453⟩)⟩
 obtain ⟨r0, rfl⟩ := Has.ex (cC (hReg454.get 4 rfl (hpre 4 rfl)) cN)
 exact ld hI453 1 ag3 z z z<|nl ⟨z, (.inr ⟨hd1, G240, _, hG452, hGr445, (Regs.step hReg454 hDi z z z z), hI453⟩)⟩
 rintro D r wd455 (⟨hd2, G451, hG452, hReg454, hI453⟩ | ⟨hd1, G240, G451, hG452, hGr445, hReg454, hI453⟩) hDi hpre hpost
 obtain ⟨r0, rfl⟩ := Has.ex (cC (hReg454.ins.get 0 rfl) cN)
 exact mv z<|nl ⟨z, (.inl ⟨hd2, _, hG452, (Regs.step hReg454 hDi z z z z), hI453⟩)⟩
 cases (hpost 13 rfl).symm.trans hd1
 rintro D r wd455 (⟨hd2, G451, hG452, hReg454, hI453⟩ | ⟨hd1, G240, G451, hG452, hGr445, hReg454, hI453⟩) hDi hpre hpost
 obtain ⟨r0, rfl⟩ := Has.ex (cC (hReg454.get 6 rfl (hpre 6 rfl)) cN)
 exact q_nc z<|nl ⟨z, (.inl ⟨hd2, _, hG452, (Regs.step hReg454 hDi z z z z), hI453⟩)⟩
 cases (hpost 13 rfl).symm.trans hd1
 rintro D r wd455 (⟨hd2, G451, hG452, hReg454, hI453⟩ | ⟨hd1, G240, G451, hG452, hGr445, hReg454, hI453⟩) hDi hpre hpost
 obtain ⟨r0, rfl⟩ := Has.ex (cC (hReg454.get 7 rfl (hpre 7 rfl)) cN)
 exact fa fl67_2 z<|nl ⟨z, (.inl ⟨hd2, _, hG452, (Regs.step hReg454 hDi z z z z), hI453⟩)⟩
 cases (hpost 13 rfl).symm.trans hd1
 rintro D r wd455 (⟨hd2, G451, hG452, hReg454, hI453⟩ | ⟨hd1, G240, G451, hG452, hGr445, hReg454, hI453⟩) hDi hpre hpost
 obtain ⟨r0, rfl⟩ := Has.ex (cC (hReg454.get 8 rfl (hpre 8 rfl)) cN)
 exact ld hI453 1 ag24 z z z<|nl ⟨z, (.inl ⟨hd2, _, hG452, (Regs.step hReg454 hDi z z z z), hI453⟩)⟩
 cases (hpost 13 rfl).symm.trans hd1
 rintro D r wd455 (⟨hd2, G451, hG452, hReg454, hI453⟩ | ⟨hd1, G240, G451, hG452, hGr445, hReg454, hI453⟩) hDi hpre hpost
 obtain ⟨r0, rfl⟩ := Has.ex (cC (hReg454.get 9 rfl (hpre 9 rfl)) cN)
 exact cv bo41 (pages_sum_spec hy229 hI453 hl10 (Dat.mono hG452 hD11)) z z fun wd42 hI43=>nl ⟨z, (.inl ⟨hd2, _, hG452, (Regs.step hReg454 hDi z z z z), hI43⟩)⟩
 cases (hpost 13 rfl).symm.trans hd1
 rintro D r wd455 (⟨hd2, G451, hG452, hReg454, hI453⟩ | ⟨hd1, G240, G451, hG452, hGr445, hReg454, hI453⟩) hDi hpre hpost
 obtain ⟨r0, rfl⟩ := Has.ex (cC (hReg454.get 5 rfl (hpre 5 rfl)) (cC (hReg454.get 10 rfl (hpre 10 rfl)) cN))
 exact q_sub z z<|nl ⟨z, (.inl ⟨hd2, _, hG452, (Regs.step hReg454 hDi z z z z), hI453⟩)⟩
 obtain ⟨r0, rfl⟩ := Has.ex (cC (hReg454.get 5 rfl (hpre 5 rfl)) (cC (hReg454.get 10 rfl (hpre 10 rfl)) cN))
 exact q_sub z z<|nl ⟨z, (.inr ⟨hd1, G240, _, hG452, hGr445, (Regs.step hReg454 hDi z z z z), hI453⟩)⟩
 rintro D r wd455 (⟨hd2, G451, hG452, hReg454, hI453⟩ | ⟨hd1, G240, G451, hG452, hGr445, hReg454, hI453⟩) hDi hpre hpost
 obtain ⟨r0, rfl⟩ := Has.ex (cC (hReg454.ins.get 0 rfl) cN)
 exact mv z<|nl ⟨z, (.inl ⟨hd2, _, hG452, (Regs.step hReg454 hDi z z z z), hI453⟩)⟩
 cases (hpost 13 rfl).symm.trans hd1
 rintro D r wd455 (⟨hd2, G451, hG452, hReg454, hI453⟩ | ⟨hd1, G240, G451, hG452, hGr445, hReg454, hI453⟩) hDi hpre hpost
 obtain ⟨r0, rfl⟩ := Has.ex (cC (hReg454.get 12 rfl (hpre 12 rfl)) cN)
 refine have hI440:=Hp.rwUp hI453 4 z hG452;have hI444:=Hp.pick 5 [1, 2, 3, 4, 0] hI440 z;q_cv (vs := [pointer (some ⟨g2, 0, none⟩)]) bo42 z z (pages_open_high_k1_spec hy429 hI444 hl6 (Dat.mono hG452 hD7) ho16 hl10 (Dat.mono hG452 hD11) ho18 hn23 hM24)<|?_
 rintro _ wd242 ⟨G240, hG241, hI243, rfl⟩
 refine ⟨_, rfl, ?_⟩
 exact have hI450:=Hp.pick 5 [4, 0, 1, 2, 3] hI243 z;nl ⟨z, (.inr ⟨z, G240, _, (gT hG452 hG241), gR, (Regs.step (Regs.more (new := [(13, 22, int .i64 y244), (14, 23, int .i64 (max (w64 (a3.sheet.Paper.Height - y44)) y244)), (15, 5, int .i64 (max (w64 (a3.sheet.Paper.Height - y44)) y244))]) hReg454 (List.forall_mem_cons.2 ⟨hDi, (List.forall_mem_cons.2 ⟨hpost 14 z, (List.forall_mem_cons.2 ⟨hpost 15 z, (fun _ h => nomatch h)⟩)⟩)⟩)) hDi z z z z), hI450⟩)⟩
 cases hDi.symm.trans hd1
 rintro D r wd455 (⟨hd2, G451, hG452, hReg454, hI453⟩ | ⟨hd1, G240, G451, hG452, hGr445, hReg454, hI453⟩) hDi hpre hpost
 cases (hpre 13 rfl).symm.trans hd2
 obtain ⟨r0, rfl⟩ := Has.ex (cC (hReg454.get 11 rfl (hpre 11 rfl)) (cC (hReg454.get 13 rfl (hpre 13 rfl)) cN))
 exact q_max z z<|nl ⟨z, (.inr ⟨hd1, G240, _, hG452, hGr445, (Regs.step hReg454 hDi z z z z), hI453⟩)⟩
 rintro D r wd455 (⟨hd2, G451, hG452, hReg454, hI453⟩ | ⟨hd1, G240, G451, hG452, hGr445, hReg454, hI453⟩) hDi hpre hpost
 cases (hpre 13 rfl).symm.trans hd2
 obtain ⟨r0, rfl⟩ := Has.ex (cC (hReg454.get 14 rfl (hpre 14 rfl)) cN)
 exact asn z<|nl ⟨z, (.inr ⟨hd1, G240, _, hG452, hGr445, (Regs.step hReg454 hDi z z z z), hI453⟩)⟩
 intro D r wd455 hall hR
 rcases hR with ⟨hd2, G451, hG452, hReg454, hI453⟩ | ⟨hd1, G240, G451, hG452, hGr445, hReg454, hI453⟩
 cases (hall 13 (Nat.le_of_ble_eq_true rfl)).symm.trans hd2
 obtain ⟨r0, rfl⟩ := Has.ex (cC (hReg454.ins.get 0 rfl) (cC (hReg454.ins.get 1 rfl) (cC (hReg454.ins.get 2 rfl) (cC (hReg454.get 15 rfl (hall 15 (Nat.le_of_ble_eq_true rfl))) cN))))
 refine hK34 _ _ _<|sr fun K456 hK457=>mv z<|mv z<|q_nc z<|fa fl67_1 z<|ld hI453 1 ag24 z z z<|q_build (vs := [(0, int .i64 a26), (1, slice A4 a3.placed.length c5)]) (cs := [int .i64 a26, slice A4 a3.placed.length c5]) ze34 pl34 z z<|q_alloc hI453 ze34 fun g459 wd460 hI461=>stk hI461 0 ag34 z z z z z z z fun wd462 hI463=>nl<|hK457 _ _ _<|sQ fun K464 hK465=>sr fun K466 hK467=>?_
 refine mv z<|q_nc z<|fa fl67_2 z<|ld hI463 2 ag24 z z z<|q_len so24 z<|mv z<|nl<|hK467 _ _ _<|wb<|bK H fun v495 hC H=>?_
 refine wpc_mono (Q := fun e r ds w => e = .exit 0 ∧ ∃ (A496 : Option Addr) (c497 : Nat) (G502 : Gh), ds = [] ∧ G451 ≤ G502 ∧ Has [(4, pointer (some ⟨g30, 0, none⟩)), (6, pointer (some ⟨g459, 0, none⟩))] r ∧ Hp G502 (bx g459 [int .i64 a26, slice A496 v495.length c497] 34 :: bx g30 [int .i64 0, slice none 0 0] 34 :: bx g2 [int .i64 a3.sheet.Paper.Width, int .i64 a3.sheet.Paper.Height, int .i64 a3.sheet.Paper.Columns, int .i64 a3.sheet.Paper.Gap, int .i64 a3.sheet.Paper.Scale, int .i64 a3.sheet.Paper.Lang, slice A4 a3.placed.length c5, slice A8 a3.notes.length c9, slice A20 n21 c22] 67 :: tk (slice A8 a3.notes.length c9) 8 36 :: rwI G240 (Kd.int .i64) A20 [] a3.fills [] c22 3 :: tk (slice A496 v495.length c497) 8 36 :: L) w ∧ v495.length ≤ c497 ∧ Dat k_api_Slice G502 A496 v495 ∧ Own A496 c497 ∧ True) ?_ ?_
 refine have hI567:=Hp.pick 6 [0, 1, 2, 4, 5, 3] hI463 z;wpc_loop fun I hLp=>?_
 refine pages_open_close_k1_l494.partial_correctness a3 (fun v472 v473 v474 o => ∀ (A475 : Option Addr) (c476 : Nat) (G507 : Gh) (r : Rg) (w : World), G451 ≤ G507 → Has [(4, pointer (some ⟨g30, 0, none⟩)), (5, int .i64 v472), (6, pointer (some ⟨g459, 0, none⟩)), (33, slice A8 a3.notes.length c9), (34, int .i64 (a3.notes.length : Int)), (35, int .i64 v473)] r → Hp G507 (bx g459 [int .i64 a26, slice A475 v474.length c476] 34 :: bx g30 [int .i64 0, slice none 0 0] 34 :: bx g2 [int .i64 a3.sheet.Paper.Width, int .i64 a3.sheet.Paper.Height, int .i64 a3.sheet.Paper.Columns, int .i64 a3.sheet.Paper.Gap, int .i64 a3.sheet.Paper.Scale, int .i64 a3.sheet.Paper.Lang, slice A4 a3.placed.length c5, slice A8 a3.notes.length c9, slice A20 n21 c22] 67 :: tk (slice A8 a3.notes.length c9) 8 36 :: rwI G240 (Kd.int .i64) A20 [] a3.fills [] c22 3 :: tk (slice A475 v474.length c476) 8 36 :: L) w → v474.length ≤ c476 → Dat k_api_Slice G507 A475 v474 → Own A475 c476 → o = v495 → I r [] w) ?_ (max (w64 (a3.sheet.Paper.Height - y44)) y244) 0 a3.placed _ hC A4 c5 _ _ _ gR ⟨rfl, rfl, rfl, rfl, rfl, rfl, tv⟩ hI567 hl6 (Dat.mono hG452 hD7) ho16 rfl
 intro _ ih v472 v473 v474 o H A475 c476 G507 r wd509 hG508 hHas hI510 hl477 hD478 ho479 ho
 rw [ho] at H; clear ho
 rw [hHas.eq]; clear hHas
 refine hLp _ _ _<|sr fun K511 hK512=>q_lss z z<|nl<|hK512 _ _ _<|sQ fun K513 hK514=>dC (v473 < (a3.notes.length : Int)) (fun h515=>?_) fun h515=>?_
 refine yK h515 H fun H=>wt (bY h515)<|ws<|hK514 _ _ _<|sQ fun K516 hK517=>wb<|sr fun K518 hK519=>iK H fun⟨h520, h520'⟩H=>?_
 obtain ⟨ad521, cs522, hA523, hK524, hn525, hc526⟩ := Dat.get (Dat.mono (gT hG452 hG508) hD11) z_api_Slice (v473) h520 h520'
 obtain ⟨rfl⟩ := open_api_Slice hK524
 refine q_ia el24 z hA523 z h520 h520'<|q_lfA hI510 ag36 z (cs := [int .i64 ((a3.notes.getD (Int.toNat v473) z_api_Slice).Node), int .i64 ((a3.notes.getD (Int.toNat v473) z_api_Slice).Table), int .i64 ((a3.notes.getD (Int.toNat v473) z_api_Slice).X), int .i64 ((a3.notes.getD (Int.toNat v473) z_api_Slice).Y), int .i64 ((a3.notes.getD (Int.toNat v473) z_api_Slice).H), string ((a3.notes.getD (Int.toNat v473) z_api_Slice).Text), bool ((a3.notes.getD (Int.toNat v473) z_api_Slice).Head), bool ((a3.notes.getD (Int.toNat v473) z_api_Slice).Note)]) z (fun j v hv => gR.cel _ _ (hc526 j v hv))<|q_alloc hI510 ze36 fun g528 wd529 hI530=>stk hI530 0 ag36 z z z z z z z fun wd531 hI532=>nl<|hK519 _ _ _<|sr fun K533 hK534=>mv z<|fa fl36_3 z<|stk hI532 0 ag3 z z z z z z z fun wd535 hI536=>nl<|hK534 _ _ _<|sr fun K537 hK538=>mv z<|?_
 refine fa fl36_4 z<|ld hI536 0 ag3 z z z<|q_add z z<|asn z<|nl<|hK538 _ _ _<|wpc_region<|fa fl34_1 z<|ld hI536 1 ag24 z z z<|lda hI536 0 ag36 z z z z<|?_
 refine q_bs hI536 (vs := [(0, agg [int .i64 ((a3.notes.getD (Int.toNat v473) z_api_Slice).Node), int .i64 ((a3.notes.getD (Int.toNat v473) z_api_Slice).Table), int .i64 ((a3.notes.getD (Int.toNat v473) z_api_Slice).X), int .i64 v472, int .i64 ((a3.notes.getD (Int.toNat v473) z_api_Slice).H), string ((a3.notes.getD (Int.toNat v473) z_api_Slice).Text), bool ((a3.notes.getD (Int.toNat v473) z_api_Slice).Head), bool ((a3.notes.getD (Int.toNat v473) z_api_Slice).Note)].toArray)]) (cs := [int .i64 ((a3.notes.getD (Int.toNat v473) z_api_Slice).Node), int .i64 ((a3.notes.getD (Int.toNat v473) z_api_Slice).Table), int .i64 ((a3.notes.getD (Int.toNat v473) z_api_Slice).X), int .i64 v472, int .i64 ((a3.notes.getD (Int.toNat v473) z_api_Slice).H), string ((a3.notes.getD (Int.toNat v473) z_api_Slice).Text), bool ((a3.notes.getD (Int.toNat v473) z_api_Slice).Head), bool ((a3.notes.getD (Int.toNat v473) z_api_Slice).Note)]) el24 ze36 rfl (by decide) rfl (by kernel_rfl) (fun g540 wd541 hI542 => ?_)
 refine iK H fun h552 H=>?_
 refine q_app (xs := v474) (ys := [(⟨(a3.notes.getD (Int.toNat v473) z_api_Slice).Node, (a3.notes.getD (Int.toNat v473) z_api_Slice).Table, (a3.notes.getD (Int.toNat v473) z_api_Slice).X, v472, (a3.notes.getD (Int.toNat v473) z_api_Slice).H, (a3.notes.getD (Int.toNat v473) z_api_Slice).Text, (a3.notes.getD (Int.toNat v473) z_api_Slice).Head, (a3.notes.getD (Int.toNat v473) z_api_Slice).Note⟩ : api_Slice)]) k_api_Slice hI542 7 el24 ze36 rfl rfl rfl rfl ho479 hl477 hD478 (src_bx hI542 0 so24 rfl rfl) ⟨[int .i64 ((a3.notes.getD (Int.toNat v473) z_api_Slice).Node), int .i64 ((a3.notes.getD (Int.toNat v473) z_api_Slice).Table), int .i64 ((a3.notes.getD (Int.toNat v473) z_api_Slice).X), int .i64 v472, int .i64 ((a3.notes.getD (Int.toNat v473) z_api_Slice).H), string ((a3.notes.getD (Int.toNat v473) z_api_Slice).Text), bool ((a3.notes.getD (Int.toNat v473) z_api_Slice).Head), bool ((a3.notes.getD (Int.toNat v473) z_api_Slice).Note)], _, rfl, (mk_api_Slice (x := (⟨(a3.notes.getD (Int.toNat v473) z_api_Slice).Node, (a3.notes.getD (Int.toNat v473) z_api_Slice).Table, (a3.notes.getD (Int.toNat v473) z_api_Slice).X, v472, (a3.notes.getD (Int.toNat v473) z_api_Slice).H, (a3.notes.getD (Int.toNat v473) z_api_Slice).Text, (a3.notes.getD (Int.toNat v473) z_api_Slice).Head, (a3.notes.getD (Int.toNat v473) z_api_Slice).Note⟩ : api_Slice))), rfl⟩ rfl (by simp only [List.length_cons, List.length_nil]; omega) (by simp only [List.length_cons, List.length_nil]; omega) (fun A543 c544 G545 wd546 hG547 ho548 hl549 hD550 hI551 => ?_)
 exact fa fl34_1 z<|stk hI551 2 ag24 z z z z z z z fun wd553 hI554=>nl<|hK517 _ _ _<|wpc_region<|q_add z z<|mv z<|nl<|have hI561:=Hp.pick 8 [2, 3, 4, 5, 6, 7] hI554 z;ih _ _ _ _ H A543 c544 _ _ _ (gT hG508 hG547) ⟨z, z, z, z, z, z, tv⟩ hI561 hl549 hD550 ho548 z
 refine nK h515 H fun H=>wf (bN h515)<|wx<|?_
 cases H
 exact ⟨z, A475, c476, _, z, hG508, ⟨z, z, tv⟩, hI510, hl477, hD478, ho479, tv⟩
 rintro e r ds wd504 ⟨rfl, A496, c497, G502, rfl, hG503, hHas, hI505, hl498, hD499, ho500, _⟩
 rw [hHas.eq]; clear hHas
 refine hK465 _ _ _<|sr fun K568 hK569=>lda hI505 0 ag34 z z z z<|stk hI505 1 ag34 z z z z z z z fun wd570 hI571=>nl<|hK569 _ _ _<|wr<|have hr572:=res_cell (P := Try.prog) hI571 1 (cs := [int .i64 a26, slice A496 v495.length c497]) (g := g30) (o := 0) ag34 z z z;have hI573:=Hp.rwUp hI571 4 z (gT hGr445 hG503);have hI577:=Hp.pick 6 [2, 3, 4] hI573 z;?_
 cases H
 exact ⟨.inr z, z, _, ⟨_, _, _, z, z, hr572, z⟩, A496, c497, _, (gT hG452 hG503), hI577, hl498, hD499, z⟩
theorem pages_Break_1_k2_spec {a3 : Option pages_open} {a32 g2 g5 A7 c8 A11 c12 A23 n24 c25 g31 A33 c34 q1039 G L w} (H : pages_Break_1_k2 a3 a32 = some q1039) (hI : Hp G (bx g2 [oV a3 g5] 58 :: oI a3 (fun (x4 : pages_open) => bx g5 [int .i64 x4.sheet.Paper.Width, int .i64 x4.sheet.Paper.Height, int .i64 x4.sheet.Paper.Columns, int .i64 x4.sheet.Paper.Gap, int .i64 x4.sheet.Paper.Scale, int .i64 x4.sheet.Paper.Lang, slice A7 x4.placed.length c8, slice A11 x4.notes.length c12, slice A23 n24 c25] 67) :: oI a3 (fun (x4 : pages_open) => tk (slice A7 x4.placed.length c8) 8 36) :: oI a3 (fun (x4 : pages_open) => tk (slice A11 x4.notes.length c12) 8 36) :: oI a3 (fun (x4 : pages_open) => rwI G (Kd.int .i64) A23 [] x4.fills [] c25 3) :: bx g31 [slice A33 a32.length c34] 28 :: tk (slice A33 a32.length c34) 2 34 :: L) w) (hO29 : oF a3 (fun (x4 : pages_open) => x4.placed.length ≤ c8 ∧ Dat k_api_Slice G A7 x4.placed ∧ Own A7 c8 ∧ x4.notes.length ≤ c12 ∧ Dat k_api_Slice G A11 x4.notes ∧ Own A11 c12 ∧ x4.fills.length = n24 ∧ Mw A23 A23 ([] : List Int).length n24 c25 c25 1 ∧ True)) (hl35 : a32.length ≤ c34) (hD36 : Dat k_api_Page G A33 a32) (ho37 : Own A33 c34) :
    Calls Try.prog 22 [pointer (some ⟨g2, 0, none⟩), pointer (some ⟨g31, 0, none⟩)].toArray w fun e w' => ∃ (A1040 : Option Addr) (c1041 : Nat) (G' : Gh), G ≤ G' ∧ Hp G' (bx g2 [oV a3 g5] 58 :: oI a3 (fun (x4 : pages_open) => bx g5 [int .i64 x4.sheet.Paper.Width, int .i64 x4.sheet.Paper.Height, int .i64 x4.sheet.Paper.Columns, int .i64 x4.sheet.Paper.Gap, int .i64 x4.sheet.Paper.Scale, int .i64 x4.sheet.Paper.Lang, slice A7 x4.placed.length c8, slice A11 x4.notes.length c12, slice A23 n24 c25] 67) :: oI a3 (fun (x4 : pages_open) => tk (slice A11 x4.notes.length c12) 8 36) :: oI a3 (fun (x4 : pages_open) => rwI G' (Kd.int .i64) A23 [] x4.fills [] c25 3) :: bx g31 [slice A1040 q1039.length c1041] 28 :: tk (slice A1040 q1039.length c1041) 2 34 :: L) w' ∧ q1039.length ≤ c1041 ∧ Dat k_api_Page G' A1040 q1039 ∧ Own A1040 c1041 ∧ e = .returned (tuple [].toArray) := by
 refine calls_intro (N := 12) Try.func22 z z (Nat.le_of_ble_eq_true z)<|?_
 unfold pages_Break_1_k2 at H
 refine sr fun K39 hK40=>ld hI 0 ag58 z z z<|?_
 rcases a3 with _ | x4
 refine q_ptq_neq_y so58 z z<|nl<|hK40 _ _ _<|wf z<|ws<|have hI47:=Hp.pick 7 [0, 1, 3, 4, 5, 6] hI z;?_
 cases H
 exact ⟨.inl z, z, _, z, A33, c34, _, gR, hI47, hl35, hD36, ho37, z⟩
 obtain ⟨hl9, hD10, ho19, hl13, hD14, ho21, hn26, hM27, _⟩ := hO29
 refine q_ptq_neq_n so58 z z<|nl<|hK40 _ _ _<|wt z<|bK H fun y57 hy242 H=>iK H fun h275 H=>?_
 refine wpc_drawL [0, 0, 0, 4, 12, 30, 62, 127, 255] (fun D r w => (D 5 = false ∧ ∃ (G' : Gh), G ≤ G' ∧ Regs [(0, pointer (some ⟨g2, 0, none⟩)), (1, pointer (some ⟨g31, 0, none⟩))] [] [(0, 4, slice A33 a32.length c34), (1, 5, pointer (some ⟨g5, 0, none⟩)), (2, 6, slice A33 a32.length c34), (3, 7, int .i64 (a32.length : Int)), (4, 8, int .i64 (w64 ((a32.length : Int) + 1)))] D r ∧ Hp G' (bx g2 [pointer (some ⟨g5, 0, none⟩)] 58 :: bx g5 [int .i64 x4.sheet.Paper.Width, int .i64 x4.sheet.Paper.Height, int .i64 x4.sheet.Paper.Columns, int .i64 x4.sheet.Paper.Gap, int .i64 x4.sheet.Paper.Scale, int .i64 x4.sheet.Paper.Lang, slice A7 x4.placed.length c8, slice A11 x4.notes.length c12, slice A23 n24 c25] 67 :: tk (slice A7 x4.placed.length c8) 8 36 :: tk (slice A11 x4.notes.length c12) 8 36 :: rwI G (Kd.int .i64) A23 [] x4.fills [] c25 3 :: bx g31 [slice A33 a32.length c34] 28 :: tk (slice A33 a32.length c34) 2 34 :: L) w) ∨ (D 5 = true ∧ D 6 = false ∧ ∃ (A58 : Option Addr) (c59 : Nat) (G53 : Gh) (G' : Gh), G ≤ G' ∧ y57.Slices.length ≤ c59 ∧ Dat k_api_Slice G' A58 y57.Slices ∧ G53 ≤ G' ∧ Regs [(0, pointer (some ⟨g2, 0, none⟩)), (1, pointer (some ⟨g31, 0, none⟩))] [] [(0, 4, slice A33 a32.length c34), (1, 5, pointer (some ⟨g5, 0, none⟩)), (2, 6, slice A33 a32.length c34), (3, 7, int .i64 (a32.length : Int)), (4, 8, int .i64 (w64 ((a32.length : Int) + 1))), (5, 9, agg [int .i64 y57.Number, slice A58 y57.Slices.length c59].toArray)] D r ∧ Hp G' (bx g5 [int .i64 x4.sheet.Paper.Width, int .i64 x4.sheet.Paper.Height, int .i64 x4.sheet.Paper.Columns, int .i64 x4.sheet.Paper.Gap, int .i64 x4.sheet.Paper.Scale, int .i64 x4.sheet.Paper.Lang, slice A7 x4.placed.length c8, slice A11 x4.notes.length c12, slice A23 n24 c25] 67 :: tk (slice A11 x4.notes.length c12) 8 36 :: rwI G53 (Kd.int .i64) A23 [] x4.fills [] c25 3 :: bx g2 [pointer (some ⟨g5, 0, none⟩)] 58 :: bx g31 [slice A33 a32.length c34] 28 :: tk (slice A33 a32.length c34) 2 34 :: L) w) ∨ (D 6 = true ∧ D 7 = false ∧ ∃ (A58 : Option Addr) (c59 : Nat) (G53 : Gh) (g263 : Nat) (G' : Gh), G ≤ G' ∧ y57.Slices.length ≤ c59 ∧ Dat k_api_Slice G' A58 y57.Slices ∧ G53 ≤ G' ∧ Regs [(0, pointer (some ⟨g2, 0, none⟩)), (1, pointer (some ⟨g31, 0, none⟩))] [] [(0, 4, slice A33 a32.length c34), (1, 5, pointer (some ⟨g5, 0, none⟩)), (2, 6, slice A33 a32.length c34), (3, 7, int .i64 (a32.length : Int)), (4, 8, int .i64 (w64 ((a32.length : Int) + 1))), (5, 9, agg [int .i64 y57.Number, slice A58 y57.Slices.length c59].toArray), (6, 10, slice (some ⟨g263, 0, none⟩) 1 1)] D r ∧ Hp G' (bx g263 [int .i64 y57.Number, slice A58 y57.Slices.length c59] 34 :: bx g5 [int .i64 x4.sheet.Paper.Width, int .i64 x4.sheet.Paper.Height, int .i64 x4.sheet.Paper.Columns, int .i64 x4.sheet.Paper.Gap, int .i64 x4.sheet.Paper.Scale, int .i64 x4.sheet.Paper.Lang, slice A7 x4.placed.length c8, slice A11 x4.notes.length c12, slice A23 n24 c25] 67 :: tk (slice A11 x4.notes.length c12) 8 36 :: rwI G53 (Kd.int .i64) A23 [] x4.fills [] c25 3 :: bx g2 [pointer (some ⟨g5, 0, none⟩)] 58 :: bx g31 [slice A33 a32.length c34] 28 :: tk (slice A33 a32.length c34) 2 34 :: L) w) ∨ (D 7 = true ∧ D 8 = false ∧ ∃ (A58 : Option Addr) (c59 : Nat) (G53 : Gh) (g263 : Nat) (A266 : Option Addr) (c267 : Nat) (G' : Gh), G ≤ G' ∧ y57.Slices.length ≤ c59 ∧ Dat k_api_Slice G' A58 y57.Slices ∧ G53 ≤ G' ∧ (a32 ++ [y57]).length ≤ c267 ∧ Dat k_api_Page G' A266 (a32 ++ [y57]) ∧ Own A266 c267 ∧ Regs [(0, pointer (some ⟨g2, 0, none⟩)), (1, pointer (some ⟨g31, 0, none⟩))] [] [(0, 4, slice A33 a32.length c34), (1, 5, pointer (some ⟨g5, 0, none⟩)), (2, 6, slice A33 a32.length c34), (3, 7, int .i64 (a32.length : Int)), (4, 8, int .i64 (w64 ((a32.length : Int) + 1))), (5, 9, agg [int .i64 y57.Number, slice A58 y57.Slices.length c59].toArray), (6, 10, slice (some ⟨g263, 0, none⟩) 1 1), (7, 11, slice A266 (a32 ++ [y57]).length c267)] D r ∧ Hp G' (bx g263 [int .i64 y57.Number, slice A58 y57.Slices.length c59] 34 :: bx g5 [int .i64 x4.sheet.Paper.Width, int .i64 x4.sheet.Paper.Height, int .i64 x4.sheet.Paper.Columns, int .i64 x4.sheet.Paper.Gap, int .i64 x4.sheet.Paper.Scale, int .i64 x4.sheet.Paper.Lang, slice A7 x4.placed.length c8, slice A11 x4.notes.length c12, slice A23 n24 c25] 67 :: tk (slice A11 x4.notes.length c12) 8 36 :: rwI G53 (Kd.int .i64) A23 [] x4.fills [] c25 3 :: bx g2 [pointer (some ⟨g5, 0, none⟩)] 58 :: bx g31 [slice A33 a32.length c34] 28 :: tk (slice A266 (a32 ++ [y57]).length c267) 2 34 :: L) w) ∨ (D 8 = true ∧ ∃ (A58 : Option Addr) (c59 : Nat) (G53 : Gh) (g263 : Nat) (A266 : Option Addr) (c267 : Nat) (G' : Gh), G ≤ G' ∧ y57.Slices.length ≤ c59 ∧ Dat k_api_Slice G' A58 y57.Slices ∧ G53 ≤ G' ∧ (a32 ++ [y57]).length ≤ c267 ∧ Dat k_api_Page G' A266 (a32 ++ [y57]) ∧ Own A266 c267 ∧ Regs [(0, pointer (some ⟨g2, 0, none⟩)), (1, pointer (some ⟨g31, 0, none⟩))] [] [(0, 4, slice A33 a32.length c34), (1, 5, pointer (some ⟨g5, 0, none⟩)), (2, 6, slice A33 a32.length c34), (3, 7, int .i64 (a32.length : Int)), (4, 8, int .i64 (w64 ((a32.length : Int) + 1))), (5, 9, agg [int .i64 y57.Number, slice A58 y57.Slices.length c59].toArray), (6, 10, slice (some ⟨g263, 0, none⟩) 1 1), (7, 11, slice A266 (a32 ++ [y57]).length c267)] D r ∧ Hp G' (bx g263 [int .i64 y57.Number, slice A58 y57.Slices.length c59] 34 :: bx g5 [int .i64 x4.sheet.Paper.Width, int .i64 x4.sheet.Paper.Height, int .i64 x4.sheet.Paper.Columns, int .i64 x4.sheet.Paper.Gap, int .i64 x4.sheet.Paper.Scale, int .i64 x4.sheet.Paper.Lang, slice A7 x4.placed.length c8, slice A11 x4.notes.length c12, slice A23 n24 c25] 67 :: tk (slice A11 x4.notes.length c12) 8 36 :: rwI G53 (Kd.int .i64) A23 [] x4.fills [] c25 3 :: bx g2 [pointer (some ⟨g5, 0, none⟩)] 58 :: bx g31 [slice A266 (a32 ++ [y57]).length c267] 28 :: tk (slice A266 (a32 ++ [y57]).length c267) 2 34 :: L) w)) mixo z z ?_ ?_ ?_
 exact (.inl ⟨z, _, Gh.le_refl _, Regs.start ⟨z, z, tv⟩ trivial, hI.drew⟩)
 refine ⟨?_, ?_, ?_, ?_, ?_, ?_, ?_, ?_, ?_, tv⟩
 rintro D r wd282 (⟨hd2, G278, hG279, hReg281, hI280⟩ | ⟨hd1, hd2, A58, c59, G53, G278, hG279, hl60, hD61, hGr261, hReg281, hI280⟩ | ⟨hd1, hd2, A58, c59, G53, g263, G278, hG279, hl60, hD61, hGr261, hReg281, hI280⟩ | ⟨hd1, hd2, A58, c59, G53, g263, A266, c267, G278, hG279, hl60, hD61, hGr261, hl272, hD273, ho271, hReg281, hI280⟩ | ⟨hd1, A58, c59, G53, g263, A266, c267, G278, hG279, hl60, hD61, hGr261, hl272, hD273, ho271, hReg281, hI280⟩) hDi hpre hpost
 obtain ⟨r0, rfl⟩ := Has.ex (cC (hReg281.ins.get 1 rfl) cN)
 exact ld hI280 5 ag28 z z z<|nl ⟨z, (.inl ⟨hd2, _, hG279, (Regs.step hReg281 hDi z z z z), hI280⟩)⟩
 obtain ⟨r0, rfl⟩ := Has.ex (cC (hReg281.ins.get 1 rfl) cN)
 exact ld hI280 4 ag28 z z z<|nl ⟨z, (.inr (.inl ⟨hd1, hd2, A58, c59, G53, _, hG279, hl60, hD61, hGr261, (Regs.step hReg281 hDi z z z z), hI280⟩))⟩
 obtain ⟨r0, rfl⟩ := Has.ex (cC (hReg281.ins.get 1 rfl) cN)
 exact ld hI280 5 ag28 z z z<|nl ⟨z, (.inr (.inr (.inl ⟨hd1, hd2, A58, c59, G53, g263, _, hG279, hl60, hD61, hGr261, (Regs.step hReg281 hDi z z z z), hI280⟩)))⟩
 cases (hpost 7 rfl).symm.trans hd1
 cases (hpost 8 rfl).symm.trans hd1
 rintro D r wd282 (⟨hd2, G278, hG279, hReg281, hI280⟩ | ⟨hd1, hd2, A58, c59, G53, G278, hG279, hl60, hD61, hGr261, hReg281, hI280⟩ | ⟨hd1, hd2, A58, c59, G53, g263, G278, hG279, hl60, hD61, hGr261, hReg281, hI280⟩ | ⟨hd1, hd2, A58, c59, G53, g263, A266, c267, G278, hG279, hl60, hD61, hGr261, hl272, hD273, ho271, hReg281, hI280⟩ | ⟨hd1, A58, c59, G53, g263, A266, c267, G278, hG279, hl60, hD61, hGr261, hl272, hD273, ho271, hReg281, hI280⟩) hDi hpre hpost
 obtain ⟨r0, rfl⟩ := Has.ex (cC (hReg281.ins.get 0 rfl) cN)
 exact ld hI280 0 ag58 z z z<|nl ⟨z, (.inl ⟨hd2, _, hG279, (Regs.step hReg281 hDi z z z z), hI280⟩)⟩
 cases (hpost 5 rfl).symm.trans hd1
 cases (hpost 6 rfl).symm.trans hd1
 cases (hpost 7 rfl).symm.trans hd1
 cases (hpost 8 rfl).symm.trans hd1
 rintro D r wd282 (⟨hd2, G278, hG279, hReg281, hI280⟩ | ⟨hd1, hd2, A58, c59, G53, G278, hG279, hl60, hD61, hGr261, hReg281, hI280⟩ | ⟨hd1, hd2, A58, c59, G53, g263, G278, hG279, hl60, hD61, hGr261, hReg281, hI280⟩ | ⟨hd1, hd2, A58, c59, G53, g263, A266, c267, G278, hG279, hl60, hD61, hGr261, hl272, hD273, ho271, hReg281, hI280⟩ | ⟨hd1, A58, c59, G53, g263, A266, c267, G278, hG279, hl60, hD61, hGr261, hl272, hD273, ho271, hReg281, hI280⟩) hDi hpre hpost
 obtain ⟨r0, rfl⟩ := Has.ex (cC (hReg281.ins.get 1 rfl) cN)
 exact ld hI280 5 ag28 z z z<|nl ⟨z, (.inl ⟨hd2, _, hG279, (Regs.step hReg281 hDi z z z z), hI280⟩)⟩
 cases (hpost 5 rfl).symm.trans hd1
 cases (hpost 6 rfl).symm.trans hd1
 cases (hpost 7 rfl).symm.trans hd1
 cases (hpost 8 rfl).symm.trans hd1
 rintro D r wd282 (⟨hd2, G278, hG279, hReg281, hI280⟩ | ⟨hd1, hd2, A58, c59, G53, G278, hG279, hl60, hD61, hGr261, hReg281, hI280⟩ | ⟨hd1, hd2, A58, c59, G53, g263, G278, hG279, hl60, hD61, hGr261, hReg281, hI280⟩ | ⟨hd1, hd2, A58, c59, G53, g263, A266, c267, G278, hG279, hl60, hD61, hGr261, hl272, hD273, ho271, hReg281, hI280⟩ | ⟨hd1, A58, c59, G53, g263, A266, c267, G278, hG279, hl60, hD61, hGr261, hl272, hD273, ho271, hReg281, hI280⟩) hDi hpre hpost
 obtain ⟨r0, rfl⟩ := Has.ex (cC (hReg281.get 2 rfl (hpre 2 rfl)) cN)
 exact q_len so28 z<|nl ⟨z, (.inl ⟨hd2, _, hG279, (Regs.step hReg281 hDi z z z z), hI280⟩)⟩
 cases (hpost 5 rfl).symm.trans hd1
 cases (hpost 6 rfl).symm.trans hd1
 cases (hpost 7 rfl).symm.trans hd1
 cases (hpost 8 rfl).symm.trans hd1
 rintro D r wd282 (⟨hd2, G278, hG279, hReg281, hI280⟩ | ⟨hd1, hd2, A58, c59, G53, G278, hG279, hl60, hD61, hGr261, hReg281, hI280⟩ | ⟨hd1, hd2, A58, c59, G53, g263, G278, hG279, hl60, hD61, hGr261, hReg281, hI280⟩ | ⟨hd1, hd2, A58, c59, G53, g263, A266, c267, G278, hG279, hl60, hD61, hGr261, hl272, hD273, ho271, hReg281, hI280⟩ | ⟨hd1, A58, c59, G53, g263, A266, c267, G278, hG279, hl60, hD61, hGr261, hl272, hD273, ho271, hReg281, hI280⟩) hDi hpre hpost
 obtain ⟨r0, rfl⟩ := Has.ex (cC (hReg281.get 3 rfl (hpre 3 rfl)) cN)
 exact q_add z z<|nl ⟨z, (.inl ⟨hd2, _, hG279, (Regs.step hReg281 hDi z z z z), hI280⟩)⟩
 cases (hpost 5 rfl).symm.trans hd1
 cases (hpost 6 rfl).symm.trans hd1
 cases (hpost 7 rfl).symm.trans hd1
 cases (hpost 8 rfl).symm.trans hd1
 rintro D r wd282 (⟨hd2, G278, hG279, hReg281, hI280⟩ | ⟨hd1, hd2, A58, c59, G53, G278, hG279, hl60, hD61, hGr261, hReg281, hI280⟩ | ⟨hd1, hd2, A58, c59, G53, g263, G278, hG279, hl60, hD61, hGr261, hReg281, hI280⟩ | ⟨hd1, hd2, A58, c59, G53, g263, A266, c267, G278, hG279, hl60, hD61, hGr261, hl272, hD273, ho271, hReg281, hI280⟩ | ⟨hd1, A58, c59, G53, g263, A266, c267, G278, hG279, hl60, hD61, hGr261, hl272, hD273, ho271, hReg281, hI280⟩) hDi hpre hpost
 obtain ⟨r0, rfl⟩ := Has.ex (cC (hReg281.get 1 rfl (hpre 1 rfl)) (cC (hReg281.get 4 rfl (hpre 4 rfl)) cN))
 refine have hI253:=Hp.rwUp hI280 4 z hG279;have hI260:=Hp.pick 7 [1, 2, 3, 4, 0, 5, 6] hI253 z;q_cv (vs := [pointer (some ⟨g5, 0, none⟩), int .i64 (w64 ((a32.length : Int) + 1))]) bo23 z z (pages_open_close_k1_spec hy242 hI260 hl9 (Dat.mono hG279 hD10) ho19 hl13 (Dat.mono hG279 hD14) ho21 hn26 hM27)<|?_
 rintro _ wd55 ⟨A58, c59, G53, hG54, hI56, hl60, hD61, rfl⟩
 refine ⟨_, rfl, ?_⟩
 exact nl ⟨z, (.inr (.inl ⟨z, (hpost 6 z), A58, c59, G53, _, (gT hG279 hG54), hl60, hD61, gR, (Regs.step (Regs.more (new := [(5, 9, agg [int .i64 y57.Number, slice A58 y57.Slices.length c59].toArray)]) hReg281 (List.forall_mem_cons.2 ⟨hDi, (fun _ h => nomatch h)⟩)) hDi z z z z), hI56⟩))⟩
 cases hDi.symm.trans hd1
 cases (hpost 6 rfl).symm.trans hd1
 cases (hpost 7 rfl).symm.trans hd1
 cases (hpost 8 rfl).symm.trans hd1
 rintro D r wd282 (⟨hd2, G278, hG279, hReg281, hI280⟩ | ⟨hd1, hd2, A58, c59, G53, G278, hG279, hl60, hD61, hGr261, hReg281, hI280⟩ | ⟨hd1, hd2, A58, c59, G53, g263, G278, hG279, hl60, hD61, hGr261, hReg281, hI280⟩ | ⟨hd1, hd2, A58, c59, G53, g263, A266, c267, G278, hG279, hl60, hD61, hGr261, hl272, hD273, ho271, hReg281, hI280⟩ | ⟨hd1, A58, c59, G53, g263, A266, c267, G278, hG279, hl60, hD61, hGr261, hl272, hD273, ho271, hReg281, hI280⟩) hDi hpre hpost
 cases (hpre 5 rfl).symm.trans hd2
 obtain ⟨r0, rfl⟩ := Has.ex (cC (hReg281.get 5 rfl (hpre 5 rfl)) cN)
 refine q_bs hI280 (vs := [(0, agg [int .i64 y57.Number, slice A58 y57.Slices.length c59].toArray)]) (cs := [int .i64 y57.Number, slice A58 y57.Slices.length c59]) el28 ze34 rfl (by decide) rfl (by kernel_rfl) (fun g263 wd264 hI265 => ?_)
 exact nl ⟨z, (.inr (.inr (.inl ⟨z, (hpost 7 z), A58, c59, G53, g263, _, hG279, hl60, hD61, hGr261, (Regs.step (Regs.more (new := [(6, 10, slice (some ⟨g263, 0, none⟩) 1 1)]) hReg281 (List.forall_mem_cons.2 ⟨hDi, (fun _ h => nomatch h)⟩)) hDi z z z z), hI265⟩)))⟩
 cases hDi.symm.trans hd1
 cases (hpost 7 rfl).symm.trans hd1
 cases (hpost 8 rfl).symm.trans hd1
 rintro D r wd282 (⟨hd2, G278, hG279, hReg281, hI280⟩ | ⟨hd1, hd2, A58, c59, G53, G278, hG279, hl60, hD61, hGr261, hReg281, hI280⟩ | ⟨hd1, hd2, A58, c59, G53, g263, G278, hG279, hl60, hD61, hGr261, hReg281, hI280⟩ | ⟨hd1, hd2, A58, c59, G53, g263, A266, c267, G278, hG279, hl60, hD61, hGr261, hl272, hD273, ho271, hReg281, hI280⟩ | ⟨hd1, A58, c59, G53, g263, A266, c267, G278, hG279, hl60, hD61, hGr261, hl272, hD273, ho271, hReg281, hI280⟩) hDi hpre hpost
 cases (hpre 5 rfl).symm.trans hd2
 cases (hpre 6 rfl).symm.trans hd2
 obtain ⟨r0, rfl⟩ := Has.ex (cC (hReg281.get 0 rfl (hpre 0 rfl)) (cC (hReg281.get 6 rfl (hpre 6 rfl)) cN))
 refine q_app (xs := a32) (ys := [y57]) k_api_Page hI280 6 el28 ze34 rfl rfl rfl rfl ho37 hl35 (Dat.mono hG279 hD36) (src_bx hI280 0 so28 rfl rfl) ⟨[int .i64 y57.Number, slice A58 y57.Slices.length c59], _, rfl, (mk_api_Page (x := y57) hl60 hD61), rfl⟩ rfl (by simp only [List.length_cons, List.length_nil]; omega) (by simp only [List.length_cons, List.length_nil]; omega) (fun A266 c267 G268 wd269 hG270 ho271 hl272 hD273 hI274 => ?_)
 exact nl ⟨z, (.inr (.inr (.inr (.inl ⟨z, (hpost 8 z), A58, c59, G53, g263, A266, c267, _, (gT hG279 hG270), hl60, (Dat.mono hG270 hD61), (gT hGr261 hG270), hl272, hD273, ho271, (Regs.step (Regs.more (new := [(7, 11, slice A266 (a32 ++ [y57]).length c267)]) hReg281 (List.forall_mem_cons.2 ⟨hDi, (fun _ h => nomatch h)⟩)) hDi z z z z), hI274⟩))))⟩
 cases hDi.symm.trans hd1
 cases (hpost 8 rfl).symm.trans hd1
 rintro D r wd282 (⟨hd2, G278, hG279, hReg281, hI280⟩ | ⟨hd1, hd2, A58, c59, G53, G278, hG279, hl60, hD61, hGr261, hReg281, hI280⟩ | ⟨hd1, hd2, A58, c59, G53, g263, G278, hG279, hl60, hD61, hGr261, hReg281, hI280⟩ | ⟨hd1, hd2, A58, c59, G53, g263, A266, c267, G278, hG279, hl60, hD61, hGr261, hl272, hD273, ho271, hReg281, hI280⟩ | ⟨hd1, A58, c59, G53, g263, A266, c267, G278, hG279, hl60, hD61, hGr261, hl272, hD273, ho271, hReg281, hI280⟩) hDi hpre hpost
 cases (hpre 5 rfl).symm.trans hd2
 cases (hpre 6 rfl).symm.trans hd2
 cases (hpre 7 rfl).symm.trans hd2
 obtain ⟨r0, rfl⟩ := Has.ex (cC (hReg281.ins.get 1 rfl) (cC (hReg281.get 7 rfl (hpre 7 rfl)) cN))
 exact stk hI280 5 ag28 z z z z z z z fun wd276 hI277=>nl ⟨z, (.inr (.inr (.inr (.inr ⟨z, A58, c59, G53, g263, A266, c267, _, hG279, hl60, hD61, hGr261, hl272, hD273, ho271, (Regs.stepN hReg281 z z), hI277⟩))))⟩
 cases hDi.symm.trans hd1
 intro D r wd282 hall hR
 rcases hR with ⟨hd2, G278, hG279, hReg281, hI280⟩ | ⟨hd1, hd2, A58, c59, G53, G278, hG279, hl60, hD61, hGr261, hReg281, hI280⟩ | ⟨hd1, hd2, A58, c59, G53, g263, G278, hG279, hl60, hD61, hGr261, hReg281, hI280⟩ | ⟨hd1, hd2, A58, c59, G53, g263, A266, c267, G278, hG279, hl60, hD61, hGr261, hl272, hD273, ho271, hReg281, hI280⟩ | ⟨hd1, A58, c59, G53, g263, A266, c267, G278, hG279, hl60, hD61, hGr261, hl272, hD273, ho271, hReg281, hI280⟩
 cases (hall 5 (Nat.le_of_ble_eq_true rfl)).symm.trans hd2
 cases (hall 6 (Nat.le_of_ble_eq_true rfl)).symm.trans hd2
 cases (hall 7 (Nat.le_of_ble_eq_true rfl)).symm.trans hd2
 cases (hall 8 (Nat.le_of_ble_eq_true rfl)).symm.trans hd2
 obtain ⟨r0, rfl⟩ := Has.ex (r := r) cN
 refine have hI283:=Hp.rwUp hI280 3 z hGr261;have hI290:=Hp.pick 7 [4, 1, 2, 3, 5, 6] hI283 z;?_
 cases H
 exact ⟨.inl z, z, _, z, A266, c267, _, hG279, hI290, hl272, hD273, ho271, z⟩
theorem pages_open_high_k2_spec {a3 : pages_open} {g2 A4 c5 A8 c9 A18 n19 c20 r1024 G L w} (H : pages_open_high_k2 a3 = some r1024) (hI : Hp G (bx g2 [int .i64 a3.sheet.Paper.Width, int .i64 a3.sheet.Paper.Height, int .i64 a3.sheet.Paper.Columns, int .i64 a3.sheet.Paper.Gap, int .i64 a3.sheet.Paper.Scale, int .i64 a3.sheet.Paper.Lang, slice A4 a3.placed.length c5, slice A8 a3.notes.length c9, slice A18 n19 c20] 67 :: tk (slice A4 a3.placed.length c5) 8 36 :: rwI G (Kd.int .i64) A18 [] a3.fills [] c20 3 :: L) w) (hl6 : a3.placed.length ≤ c5) (hD7 : Dat k_api_Slice G A4 a3.placed) (ho16 : Own A4 c5) (hl10 : a3.notes.length ≤ c9) (hD11 : Dat k_api_Slice G A8 a3.notes) (hn21 : a3.fills.length = n19) (hM22 : Mw A18 A18 ([] : List Int).length n19 c20 c20 1) :
    Calls Try.prog 42 [pointer (some ⟨g2, 0, none⟩)].toArray w fun e w' => ∃ (G' : Gh), G ≤ G' ∧ Hp G' (bx g2 [int .i64 a3.sheet.Paper.Width, int .i64 a3.sheet.Paper.Height, int .i64 a3.sheet.Paper.Columns, int .i64 a3.sheet.Paper.Gap, int .i64 a3.sheet.Paper.Scale, int .i64 a3.sheet.Paper.Lang, slice A4 a3.placed.length c5, slice A8 a3.notes.length c9, slice A18 n19 c20] 67 :: tk (slice A4 a3.placed.length c5) 8 36 :: rwI G' (Kd.int .i64) A18 [] a3.fills [] c20 3 :: L) w' ∧ e = .returned (int .i64 r1024) := by
 refine calls_intro (N := 20) Try.func42 z z (Nat.le_of_ble_eq_true z)<|?_
 unfold pages_open_high_k2 at H
 refine sr fun K24 hK25=>asn z<|nl<|hK25 _ _ _<|sr fun K26 hK27=>asn z<|nl<|hK27 _ _ _<|sQ fun K28 hK29=>sr fun K30 hK31=>mv z<|q_nc z<|fa fl67_3 z<|ld hI 0 ag65 z z z<|?_
 refine q_lenm so65 z hn21<|mv z<|nl<|hK31 _ _ _<|wb<|bK H fun v45 hC H=>?_
 refine wpc_mono (Q := fun e r ds w => e = .exit 0 ∧ ds = [] ∧ Has [(3, int .i64 v45)] r ∧ Hp G (bx g2 [int .i64 a3.sheet.Paper.Width, int .i64 a3.sheet.Paper.Height, int .i64 a3.sheet.Paper.Columns, int .i64 a3.sheet.Paper.Gap, int .i64 a3.sheet.Paper.Scale, int .i64 a3.sheet.Paper.Lang, slice A4 a3.placed.length c5, slice A8 a3.notes.length c9, slice A18 n19 c20] 67 :: tk (slice A4 a3.placed.length c5) 8 36 :: rwI G (Kd.int .i64) A18 [] a3.fills [] c20 3 :: L) w ∧ True) ?_ ?_
 refine wpc_loop fun I hLp=>?_
 refine pages_open_high_k2_l44.partial_correctness a3 (fun v36 v37 o => ∀ (r : Rg) (w : World), Has [(3, int .i64 v36), (9, slice A18 n19 c20), (10, int .i64 (a3.fills.length : Int)), (11, int .i64 v37)] r → Hp G (bx g2 [int .i64 a3.sheet.Paper.Width, int .i64 a3.sheet.Paper.Height, int .i64 a3.sheet.Paper.Columns, int .i64 a3.sheet.Paper.Gap, int .i64 a3.sheet.Paper.Scale, int .i64 a3.sheet.Paper.Lang, slice A4 a3.placed.length c5, slice A8 a3.notes.length c9, slice A18 n19 c20] 67 :: tk (slice A4 a3.placed.length c5) 8 36 :: rwI G (Kd.int .i64) A18 [] a3.fills [] c20 3 :: L) w → o = v45 → I r [] w) ?_ 0 0 _ hC _ _ ⟨rfl, rfl, rfl, rfl, tv⟩ hI rfl
 intro _ ih v36 v37 o H r wd53 hHas hI54 ho
 rw [ho] at H; clear ho
 rw [hHas.eq]; clear hHas
 refine hLp _ _ _<|sr fun K55 hK56=>q_lss z z<|nl<|hK56 _ _ _<|sQ fun K57 hK58=>dC (v37 < (a3.fills.length : Int)) (fun h59=>?_) fun h59=>?_
 refine yK h59 H fun H=>wt (bY h59)<|ws<|hK58 _ _ _<|sQ fun K60 hK61=>wb<|sr fun K62 hK63=>iK H fun⟨h64, h64'⟩H=>have hb65:=lt_n hn21 h64';?_
 obtain ⟨ad66, hA67⟩ := Mw.ad hM22 h64 hb65
 refine q_ia el65 z hA67 z h64 hb65<|?_
 obtain ⟨_, rfl, _, hc69⟩ := Hp.rwGet hI54 2 rfl hM22 hn21 hA67 (0 : Int) h64 hb65
 refine q_load1 (v := int .i64 (a3.fills.getD (Int.toNat v37) (0 : Int))) ag3 z (cell0 (hc69 0 _ z))<|asn z<|nl<|hK63 _ _ _<|wpc_region<|mv z<|mv z<|q_max z z<|asn z<|nl<|hK61 _ _ _<|wpc_region<|q_add z z<|mv z<|?_
 exact nl<|ih _ _ _ H _ _ ⟨z, z, z, z, tv⟩ hI54 z
 refine nK h59 H fun H=>wf (bN h59)<|wx<|?_
 cases H
 exact ⟨z, z, ⟨z, tv⟩, hI54, tv⟩
 rintro e r ds wd48 ⟨rfl, rfl, hHas, hI49, _⟩
 rw [hHas.eq]; clear hHas
 refine hK29 _ _ _<|sr fun K70 hK71=>mv z<|asn z<|nl<|hK71 _ _ _<|wr<|?_
 cases H
 exact ⟨.inr z, z, _, ⟨_, _, z, z, z⟩, _, gR, hI49, z⟩
theorem pages_open_close_k2_spec {a3 : pages_open} {a24 g2 A4 c5 A8 c9 A18 n19 c20 r1025 G L w} (H : pages_open_close_k2 a3 a24 = some r1025) (hI : Hp G (bx g2 [int .i64 a3.sheet.Paper.Width, int .i64 a3.sheet.Paper.Height, int .i64 a3.sheet.Paper.Columns, int .i64 a3.sheet.Paper.Gap, int .i64 a3.sheet.Paper.Scale, int .i64 a3.sheet.Paper.Lang, slice A4 a3.placed.length c5, slice A8 a3.notes.length c9, slice A18 n19 c20] 67 :: tk (slice A4 a3.placed.length c5) 8 36 :: rwI G (Kd.int .i64) A18 [] a3.fills [] c20 3 :: L) w) (hl6 : a3.placed.length ≤ c5) (hD7 : Dat k_api_Slice G A4 a3.placed) (ho16 : Own A4 c5) (hl10 : a3.notes.length ≤ c9) (hD11 : Dat k_api_Slice G A8 a3.notes) (hn21 : a3.fills.length = n19) (hM22 : Mw A18 A18 ([] : List Int).length n19 c20 c20 1) :
    Calls Try.prog 23 [pointer (some ⟨g2, 0, none⟩), int .i64 a24].toArray w fun e w' => ∃ (A1026 : Option Addr) (c1027 : Nat) (G' : Gh), G ≤ G' ∧ Hp G' (bx g2 [int .i64 a3.sheet.Paper.Width, int .i64 a3.sheet.Paper.Height, int .i64 a3.sheet.Paper.Columns, int .i64 a3.sheet.Paper.Gap, int .i64 a3.sheet.Paper.Scale, int .i64 a3.sheet.Paper.Lang, slice A4 a3.placed.length c5, slice A8 a3.notes.length c9, slice A18 n19 c20] 67 :: rwI G' (Kd.int .i64) A18 [] a3.fills [] c20 3 :: L) w' ∧ r1025.Slices.length ≤ c1027 ∧ Dat k_api_Slice G' A1026 r1025.Slices ∧ e = .returned (agg [int .i64 r1025.Number, slice A1026 r1025.Slices.length c1027].toArray) := by
 refine calls_intro (N := 53) Try.func23 z z (Nat.le_of_ble_eq_true z)<|?_
 unfold pages_open_close_k2 at H
 refine sr fun K25 hK26=>q_alloc hI ze34 fun g28 wd29 hI30=>nl<|hK26 _ _ _<|sQ fun K31 hK32=>bK H fun y42 hy227 H=>bK H fun y242 hy427 H=>?_
 refine wpc_drawL [0, 1, 3, 7, 15, 31, 0, 64, 192, 448, 960, 2047, 0, 6080, 16383, 32767] (fun D r w => (D 13 = false ∧ ∃ (G' : Gh), G ≤ G' ∧ Regs [(0, pointer (some ⟨g2, 0, none⟩)), (1, int .i64 a24), (4, pointer (some ⟨g28, 0, none⟩))] [] [(0, 9, pointer (some ⟨g2, 0, none⟩)), (1, 10, pointer (some ⟨g2, 0, none⟩)), (2, 11, pointer (some ⟨g2, 0, none⟩)), (3, 12, pointer (some ⟨g2, 0, none⟩)), (4, 13, pointer (some ⟨g2, 1, none⟩)), (5, 14, int .i64 a3.sheet.Paper.Height), (6, 15, pointer (some ⟨g2, 0, none⟩)), (7, 16, pointer (some ⟨g2, 0, none⟩)), (8, 17, pointer (some ⟨g2, 7, none⟩)), (9, 18, slice A8 a3.notes.length c9), (10, 19, int .i64 y42), (11, 20, int .i64 (w64 (a3.sheet.Paper.Height - y42))), (12, 21, pointer (some ⟨g2, 0, none⟩))] D r ∧ Hp G' (bx g28 [int .i64 0, slice none 0 0] 34 :: bx g2 [int .i64 a3.sheet.Paper.Width, int .i64 a3.sheet.Paper.Height, int .i64 a3.sheet.Paper.Columns, int .i64 a3.sheet.Paper.Gap, int .i64 a3.sheet.Paper.Scale, int .i64 a3.sheet.Paper.Lang, slice A4 a3.placed.length c5, slice A8 a3.notes.length c9, slice A18 n19 c20] 67 :: tk (slice A4 a3.placed.length c5) 8 36 :: rwI G (Kd.int .i64) A18 [] a3.fills [] c20 3 :: L) w) ∨ (D 13 = true ∧ ∃ (G238 : Gh) (G' : Gh), G ≤ G' ∧ G238 ≤ G' ∧ Regs [(0, pointer (some ⟨g2, 0, none⟩)), (1, int .i64 a24), (4, pointer (some ⟨g28, 0, none⟩))] [] [(0, 9, pointer (some ⟨g2, 0, none⟩)), (1, 10, pointer (some ⟨g2, 0, none⟩)), (2, 11, pointer (some ⟨g2, 0, none⟩)), (3, 12, pointer (some ⟨g2, 0, none⟩)), (4, 13, pointer (some ⟨g2, 1, none⟩)), (5, 14, int .i64 a3.sheet.Paper.Height), (6, 15, pointer (some ⟨g2, 0, none⟩)), (7, 16, pointer (some ⟨g2, 0, none⟩)), (8, 17, pointer (some ⟨g2, 7, none⟩)), (9, 18, slice A8 a3.notes.length c9), (10, 19, int .i64 y42), (11, 20, int .i64 (w64 (a3.sheet.Paper.Height - y42))), (12, 21, pointer (some ⟨g2, 0, none⟩)), (13, 22, int .i64 y242), (14, 23, int .i64 (max (w64 (a3.sheet.Paper.Height - y42)) y242)), (15, 5, int .i64 (max (w64 (a3.sheet.Paper.Height - y42)) y242))] D r ∧ Hp G' (bx g28 [int .i64 0, slice none 0 0] 34 :: bx g2 [int .i64 a3.sheet.Paper.Width, int .i64 a3.sheet.Paper.Height, int .i64 a3.sheet.Paper.Columns, int .i64 a3.sheet.Paper.Gap, int .i64 a3.sheet.Paper.Scale, int .i64 a3.sheet.Paper.Lang, slice A4 a3.placed.length c5, slice A8 a3.notes.length c9, slice A18 n19 c20] 67 :: tk (slice A4 a3.placed.length c5) 8 36 :: rwI G238 (Kd.int .i64) A18 [] a3.fills [] c20 3 :: L) w)) mixo z z ?_ ?_ ?_
 exact (.inl ⟨z, _, Gh.le_refl _, Regs.start ⟨z, z, z, tv⟩ trivial, hI30.drew⟩)
 refine ⟨?_, ?_, ?_, ?_, ?_, ?_, ?_, ?_, ?_, ?_, ?_, ?_, ?_, ?_, ?_, ?_, tv⟩
 rintro D r wd451 (⟨hd2, G447, hG448, hReg450, hI449⟩ | ⟨hd1, G238, G447, hG448, hGr442, hReg450, hI449⟩) hDi hpre hpost
 obtain ⟨r0, rfl⟩ := Has.ex (cC (hReg450.ins.get 0 rfl) cN)
 exact mv z<|nl ⟨z, (.inl ⟨hd2, _, hG448, (Regs.step hReg450 hDi z z z z), hI449⟩)⟩
 obtain ⟨r0, rfl⟩ := Has.ex (cC (hReg450.ins.get 0 rfl) cN)
 exact mv z<|nl ⟨z, (.inr ⟨hd1, G238, _, hG448, hGr442, (Regs.step hReg450 hDi z z z z), hI449⟩)⟩
 rintro D r wd451 (⟨hd2, G447, hG448, hReg450, hI449⟩ | ⟨hd1, G238, G447, hG448, hGr442, hReg450, hI449⟩) hDi hpre hpost
 obtain ⟨r0, rfl⟩ := Has.ex (cC (hReg450.get 0 rfl (hpre 0 rfl)) cN)
 exact q_nc z<|nl ⟨z, (.inl ⟨hd2, _, hG448, (Regs.step hReg450 hDi z z z z), hI449⟩)⟩
 obtain ⟨r0, rfl⟩ := Has.ex (cC (hReg450.get 0 rfl (hpre 0 rfl)) cN)
 exact q_nc z<|nl ⟨z, (.inr ⟨hd1, G238, _, hG448, hGr442, (Regs.step hReg450 hDi z z z z), hI449⟩)⟩
 rintro D r wd451 (⟨hd2, G447, hG448, hReg450, hI449⟩ | ⟨hd1, G238, G447, hG448, hGr442, hReg450, hI449⟩) hDi hpre hpost
 obtain ⟨r0, rfl⟩ := Has.ex (cC (hReg450.get 1 rfl (hpre 1 rfl)) cN)
 exact fa fl67_0 z<|nl ⟨z, (.inl ⟨hd2, _, hG448, (Regs.step hReg450 hDi z z z z), hI449⟩)⟩
 obtain ⟨r0, rfl⟩ := Has.ex (cC (hReg450.get 1 rfl (hpre 1 rfl)) cN)
 exact fa fl67_0 z<|nl ⟨z, (.inr ⟨hd1, G238, _, hG448, hGr442, (Regs.step hReg450 hDi z z z z), hI449⟩)⟩
 rintro D r wd451 (⟨hd2, G447, hG448, hReg450, hI449⟩ | ⟨hd1, G238, G447, hG448, hGr442, hReg450, hI449⟩) hDi hpre hpost
 obtain ⟨r0, rfl⟩ := Has.ex (cC (hReg450.get 2 rfl (hpre 2 rfl)) cN)
 exact fa fl56_0 z<|nl ⟨z, (.inl ⟨hd2, _, hG448, (Regs.step hReg450 hDi z z z z), hI449⟩)⟩
 obtain ⟨r0, rfl⟩ := Has.ex (cC (hReg450.get 2 rfl (hpre 2 rfl)) cN)
 exact fa fl56_0 z<|nl ⟨z, (.inr ⟨hd1, G238, _, hG448, hGr442, (Regs.step hReg450 hDi z z z z), hI449⟩)⟩
 rintro D r wd451 (⟨hd2, G447, hG448, hReg450, hI449⟩ | ⟨hd1, G238, G447, hG448, hGr442, hReg450, hI449⟩) hDi hpre hpost
 obtain ⟨r0, rfl⟩ := Has.ex (cC (hReg450.get 3 rfl (hpre 3 rfl)) cN)
 exact fa fl23_1 z<|nl ⟨z, (.inl ⟨hd2, _, hG448, (Regs.step hReg450 hDi z z z z), hI449⟩)⟩
 obtain ⟨r0, rfl⟩ := Has.ex (cC (hReg450.get 3 rfl (hpre 3 rfl)) cN)
 exact fa fl23_1 z<|nl ⟨z, (.inr ⟨hd1, G238, _, hG448, hGr442, (Regs.step hReg450 hDi z z z z), hI449⟩)⟩
 rintro D r wd451 (⟨hd2, G447, hG448, hReg450, hI449⟩ | ⟨hd1, G238, G447, hG448, hGr442, hReg450, hI449⟩) hDi hpre hpost
 obtain ⟨r0, rfl⟩ := Has.ex (cC (hReg450.get 4 rfl (hpre 4 rfl)) cN)
 exact ld hI449 1 ag3 z z z<|nl ⟨z, (.inl ⟨hd2, _, hG448, (Regs.step hReg450 hDi z z z z), hI449⟩)⟩
 obtain ⟨r0, rfl⟩ := Has.ex (cC (hReg450.get 4 rfl (hpre 4 rfl)) cN)
 exact ld hI449 1 ag3 z z z<|nl ⟨z, (.inr ⟨hd1, G238, _, hG448, hGr442, (Regs.step hReg450 hDi z z z z), hI449⟩)⟩
 rintro D r wd451 (⟨hd2, G447, hG448, hReg450, hI449⟩ | ⟨hd1, G238, G447, hG448, hGr442, hReg450, hI449⟩) hDi hpre hpost
 obtain ⟨r0, rfl⟩ := Has.ex (cC (hReg450.ins.get 0 rfl) cN)
 exact mv z<|nl ⟨z, (.inl ⟨hd2, _, hG448, (Regs.step hReg450 hDi z z z z), hI449⟩)⟩
 cases (hpost 13 rfl).symm.trans hd1
 rintro D r wd451 (⟨hd2, G447, hG448, hReg450, hI449⟩ | ⟨hd1, G238, G447, hG448, hGr442, hReg450, hI449⟩) hDi hpre hpost
 obtain ⟨r0, rfl⟩ := Has.ex (cC (hReg450.get 6 rfl (hpre 6 rfl)) cN)
 exact q_nc z<|nl ⟨z, (.inl ⟨hd2, _, hG448, (Regs.step hReg450 hDi z z z z), hI449⟩)⟩
 cases (hpost 13 rfl).symm.trans hd1
 rintro D r wd451 (⟨hd2, G447, hG448, hReg450, hI449⟩ | ⟨hd1, G238, G447, hG448, hGr442, hReg450, hI449⟩) hDi hpre hpost
 obtain ⟨r0, rfl⟩ := Has.ex (cC (hReg450.get 7 rfl (hpre 7 rfl)) cN)
 exact fa fl67_2 z<|nl ⟨z, (.inl ⟨hd2, _, hG448, (Regs.step hReg450 hDi z z z z), hI449⟩)⟩
 cases (hpost 13 rfl).symm.trans hd1
 rintro D r wd451 (⟨hd2, G447, hG448, hReg450, hI449⟩ | ⟨hd1, G238, G447, hG448, hGr442, hReg450, hI449⟩) hDi hpre hpost
 obtain ⟨r0, rfl⟩ := Has.ex (cC (hReg450.get 8 rfl (hpre 8 rfl)) cN)
 exact ld hI449 1 ag24 z z z<|nl ⟨z, (.inl ⟨hd2, _, hG448, (Regs.step hReg450 hDi z z z z), hI449⟩)⟩
 cases (hpost 13 rfl).symm.trans hd1
 rintro D r wd451 (⟨hd2, G447, hG448, hReg450, hI449⟩ | ⟨hd1, G238, G447, hG448, hGr442, hReg450, hI449⟩) hDi hpre hpost
 obtain ⟨r0, rfl⟩ := Has.ex (cC (hReg450.get 9 rfl (hpre 9 rfl)) cN)
 exact cv bo41 (pages_sum_spec hy227 hI449 hl10 (Dat.mono hG448 hD11)) z z fun wd40 hI41=>nl ⟨z, (.inl ⟨hd2, _, hG448, (Regs.step hReg450 hDi z z z z), hI41⟩)⟩
 cases (hpost 13 rfl).symm.trans hd1
 rintro D r wd451 (⟨hd2, G447, hG448, hReg450, hI449⟩ | ⟨hd1, G238, G447, hG448, hGr442, hReg450, hI449⟩) hDi hpre hpost
 obtain ⟨r0, rfl⟩ := Has.ex (cC (hReg450.get 5 rfl (hpre 5 rfl)) (cC (hReg450.get 10 rfl (hpre 10 rfl)) cN))
 exact q_sub z z<|nl ⟨z, (.inl ⟨hd2, _, hG448, (Regs.step hReg450 hDi z z z z), hI449⟩)⟩
 obtain ⟨r0, rfl⟩ := Has.ex (cC (hReg450.get 5 rfl (hpre 5 rfl)) (cC (hReg450.get 10 rfl (hpre 10 rfl)) cN))
 exact q_sub z z<|nl ⟨z, (.inr ⟨hd1, G238, _, hG448, hGr442, (Regs.step hReg450 hDi z z z z), hI449⟩)⟩
 rintro D r wd451 (⟨hd2, G447, hG448, hReg450, hI449⟩ | ⟨hd1, G238, G447, hG448, hGr442, hReg450, hI449⟩) hDi hpre hpost
 obtain ⟨r0, rfl⟩ := Has.ex (cC (hReg450.ins.get 0 rfl) cN)
 exact mv z<|nl ⟨z, (.inl ⟨hd2, _, hG448, (Regs.step hReg450 hDi z z z z), hI449⟩)⟩
 cases (hpost 13 rfl).symm.trans hd1
 rintro D r wd451 (⟨hd2, G447, hG448, hReg450, hI449⟩ | ⟨hd1, G238, G447, hG448, hGr442, hReg450, hI449⟩) hDi hpre hpost
 obtain ⟨r0, rfl⟩ := Has.ex (cC (hReg450.get 12 rfl (hpre 12 rfl)) cN)
 refine have hI438:=Hp.rwUp hI449 3 z hG448;have hI441:=Hp.pick 4 [1, 2, 3, 0] hI438 z;q_cv (vs := [pointer (some ⟨g2, 0, none⟩)]) bo42 z z (pages_open_high_k2_spec hy427 hI441 hl6 (Dat.mono hG448 hD7) ho16 hl10 (Dat.mono hG448 hD11) hn21 hM22)<|?_
 rintro _ wd240 ⟨G238, hG239, hI241, rfl⟩
 refine ⟨_, rfl, ?_⟩
 exact have hI446:=Hp.pick 4 [3, 0, 1, 2] hI241 z;nl ⟨z, (.inr ⟨z, G238, _, (gT hG448 hG239), gR, (Regs.step (Regs.more (new := [(13, 22, int .i64 y242), (14, 23, int .i64 (max (w64 (a3.sheet.Paper.Height - y42)) y242)), (15, 5, int .i64 (max (w64 (a3.sheet.Paper.Height - y42)) y242))]) hReg450 (List.forall_mem_cons.2 ⟨hDi, (List.forall_mem_cons.2 ⟨hpost 14 z, (List.forall_mem_cons.2 ⟨hpost 15 z, (fun _ h => nomatch h)⟩)⟩)⟩)) hDi z z z z), hI446⟩)⟩
 cases hDi.symm.trans hd1
 rintro D r wd451 (⟨hd2, G447, hG448, hReg450, hI449⟩ | ⟨hd1, G238, G447, hG448, hGr442, hReg450, hI449⟩) hDi hpre hpost
 cases (hpre 13 rfl).symm.trans hd2
 obtain ⟨r0, rfl⟩ := Has.ex (cC (hReg450.get 11 rfl (hpre 11 rfl)) (cC (hReg450.get 13 rfl (hpre 13 rfl)) cN))
 exact q_max z z<|nl ⟨z, (.inr ⟨hd1, G238, _, hG448, hGr442, (Regs.step hReg450 hDi z z z z), hI449⟩)⟩
 rintro D r wd451 (⟨hd2, G447, hG448, hReg450, hI449⟩ | ⟨hd1, G238, G447, hG448, hGr442, hReg450, hI449⟩) hDi hpre hpost
 cases (hpre 13 rfl).symm.trans hd2
 obtain ⟨r0, rfl⟩ := Has.ex (cC (hReg450.get 14 rfl (hpre 14 rfl)) cN)
 exact asn z<|nl ⟨z, (.inr ⟨hd1, G238, _, hG448, hGr442, (Regs.step hReg450 hDi z z z z), hI449⟩)⟩
 intro D r wd451 hall hR
 rcases hR with ⟨hd2, G447, hG448, hReg450, hI449⟩ | ⟨hd1, G238, G447, hG448, hGr442, hReg450, hI449⟩
 cases (hall 13 (Nat.le_of_ble_eq_true rfl)).symm.trans hd2
 obtain ⟨r0, rfl⟩ := Has.ex (cC (hReg450.ins.get 0 rfl) (cC (hReg450.ins.get 1 rfl) (cC (hReg450.ins.get 2 rfl) (cC (hReg450.get 15 rfl (hall 15 (Nat.le_of_ble_eq_true rfl))) cN))))
 refine hK32 _ _ _<|sr fun K452 hK453=>mv z<|mv z<|q_nc z<|fa fl67_1 z<|ld hI449 1 ag24 z z z<|q_build (vs := [(0, int .i64 a24), (1, slice A4 a3.placed.length c5)]) (cs := [int .i64 a24, slice A4 a3.placed.length c5]) ze34 pl34 z z<|q_alloc hI449 ze34 fun g455 wd456 hI457=>stk hI457 0 ag34 z z z z z z z fun wd458 hI459=>nl<|hK453 _ _ _<|sQ fun K460 hK461=>sr fun K462 hK463=>?_
 refine mv z<|q_nc z<|fa fl67_2 z<|ld hI459 2 ag24 z z z<|q_len so24 z<|mv z<|nl<|hK463 _ _ _<|wb<|bK H fun v491 hC H=>?_
 refine wpc_mono (Q := fun e r ds w => e = .exit 0 ∧ ∃ (A492 : Option Addr) (c493 : Nat) (G498 : Gh), ds = [] ∧ G447 ≤ G498 ∧ Has [(4, pointer (some ⟨g28, 0, none⟩)), (6, pointer (some ⟨g455, 0, none⟩))] r ∧ Hp G498 (bx g455 [int .i64 a24, slice A492 v491.length c493] 34 :: bx g28 [int .i64 0, slice none 0 0] 34 :: bx g2 [int .i64 a3.sheet.Paper.Width, int .i64 a3.sheet.Paper.Height, int .i64 a3.sheet.Paper.Columns, int .i64 a3.sheet.Paper.Gap, int .i64 a3.sheet.Paper.Scale, int .i64 a3.sheet.Paper.Lang, slice A4 a3.placed.length c5, slice A8 a3.notes.length c9, slice A18 n19 c20] 67 :: rwI G238 (Kd.int .i64) A18 [] a3.fills [] c20 3 :: tk (slice A492 v491.length c493) 8 36 :: L) w ∧ v491.length ≤ c493 ∧ Dat k_api_Slice G498 A492 v491 ∧ Own A492 c493 ∧ True) ?_ ?_
 refine have hI561:=Hp.pick 5 [0, 1, 2, 4, 3] hI459 z;wpc_loop fun I hLp=>?_
 refine pages_open_close_k2_l490.partial_correctness a3 (fun v468 v469 v470 o => ∀ (A471 : Option Addr) (c472 : Nat) (G503 : Gh) (r : Rg) (w : World), G447 ≤ G503 → Has [(4, pointer (some ⟨g28, 0, none⟩)), (5, int .i64 v468), (6, pointer (some ⟨g455, 0, none⟩)), (33, slice A8 a3.notes.length c9), (34, int .i64 (a3.notes.length : Int)), (35, int .i64 v469)] r → Hp G503 (bx g455 [int .i64 a24, slice A471 v470.length c472] 34 :: bx g28 [int .i64 0, slice none 0 0] 34 :: bx g2 [int .i64 a3.sheet.Paper.Width, int .i64 a3.sheet.Paper.Height, int .i64 a3.sheet.Paper.Columns, int .i64 a3.sheet.Paper.Gap, int .i64 a3.sheet.Paper.Scale, int .i64 a3.sheet.Paper.Lang, slice A4 a3.placed.length c5, slice A8 a3.notes.length c9, slice A18 n19 c20] 67 :: rwI G238 (Kd.int .i64) A18 [] a3.fills [] c20 3 :: tk (slice A471 v470.length c472) 8 36 :: L) w → v470.length ≤ c472 → Dat k_api_Slice G503 A471 v470 → Own A471 c472 → o = v491 → I r [] w) ?_ (max (w64 (a3.sheet.Paper.Height - y42)) y242) 0 a3.placed _ hC A4 c5 _ _ _ gR ⟨rfl, rfl, rfl, rfl, rfl, rfl, tv⟩ hI561 hl6 (Dat.mono hG448 hD7) ho16 rfl
 intro _ ih v468 v469 v470 o H A471 c472 G503 r wd505 hG504 hHas hI506 hl473 hD474 ho475 ho
 rw [ho] at H; clear ho
 rw [hHas.eq]; clear hHas
 refine hLp _ _ _<|sr fun K507 hK508=>q_lss z z<|nl<|hK508 _ _ _<|sQ fun K509 hK510=>dC (v469 < (a3.notes.length : Int)) (fun h511=>?_) fun h511=>?_
 refine yK h511 H fun H=>wt (bY h511)<|ws<|hK510 _ _ _<|sQ fun K512 hK513=>wb<|sr fun K514 hK515=>iK H fun⟨h516, h516'⟩H=>?_
 obtain ⟨ad517, cs518, hA519, hK520, hn521, hc522⟩ := Dat.get (Dat.mono (gT hG448 hG504) hD11) z_api_Slice (v469) h516 h516'
 obtain ⟨rfl⟩ := open_api_Slice hK520
 refine q_ia el24 z hA519 z h516 h516'<|q_lfA hI506 ag36 z (cs := [int .i64 ((a3.notes.getD (Int.toNat v469) z_api_Slice).Node), int .i64 ((a3.notes.getD (Int.toNat v469) z_api_Slice).Table), int .i64 ((a3.notes.getD (Int.toNat v469) z_api_Slice).X), int .i64 ((a3.notes.getD (Int.toNat v469) z_api_Slice).Y), int .i64 ((a3.notes.getD (Int.toNat v469) z_api_Slice).H), string ((a3.notes.getD (Int.toNat v469) z_api_Slice).Text), bool ((a3.notes.getD (Int.toNat v469) z_api_Slice).Head), bool ((a3.notes.getD (Int.toNat v469) z_api_Slice).Note)]) z (fun j v hv => gR.cel _ _ (hc522 j v hv))<|q_alloc hI506 ze36 fun g524 wd525 hI526=>stk hI526 0 ag36 z z z z z z z fun wd527 hI528=>nl<|hK515 _ _ _<|sr fun K529 hK530=>mv z<|fa fl36_3 z<|stk hI528 0 ag3 z z z z z z z fun wd531 hI532=>nl<|hK530 _ _ _<|sr fun K533 hK534=>mv z<|?_
 refine fa fl36_4 z<|ld hI532 0 ag3 z z z<|q_add z z<|asn z<|nl<|hK534 _ _ _<|wpc_region<|fa fl34_1 z<|ld hI532 1 ag24 z z z<|lda hI532 0 ag36 z z z z<|?_
 refine q_bs hI532 (vs := [(0, agg [int .i64 ((a3.notes.getD (Int.toNat v469) z_api_Slice).Node), int .i64 ((a3.notes.getD (Int.toNat v469) z_api_Slice).Table), int .i64 ((a3.notes.getD (Int.toNat v469) z_api_Slice).X), int .i64 v468, int .i64 ((a3.notes.getD (Int.toNat v469) z_api_Slice).H), string ((a3.notes.getD (Int.toNat v469) z_api_Slice).Text), bool ((a3.notes.getD (Int.toNat v469) z_api_Slice).Head), bool ((a3.notes.getD (Int.toNat v469) z_api_Slice).Note)].toArray)]) (cs := [int .i64 ((a3.notes.getD (Int.toNat v469) z_api_Slice).Node), int .i64 ((a3.notes.getD (Int.toNat v469) z_api_Slice).Table), int .i64 ((a3.notes.getD (Int.toNat v469) z_api_Slice).X), int .i64 v468, int .i64 ((a3.notes.getD (Int.toNat v469) z_api_Slice).H), string ((a3.notes.getD (Int.toNat v469) z_api_Slice).Text), bool ((a3.notes.getD (Int.toNat v469) z_api_Slice).Head), bool ((a3.notes.getD (Int.toNat v469) z_api_Slice).Note)]) el24 ze36 rfl (by decide) rfl (by kernel_rfl) (fun g536 wd537 hI538 => ?_)
 refine iK H fun h548 H=>?_
 refine q_app (xs := v470) (ys := [(⟨(a3.notes.getD (Int.toNat v469) z_api_Slice).Node, (a3.notes.getD (Int.toNat v469) z_api_Slice).Table, (a3.notes.getD (Int.toNat v469) z_api_Slice).X, v468, (a3.notes.getD (Int.toNat v469) z_api_Slice).H, (a3.notes.getD (Int.toNat v469) z_api_Slice).Text, (a3.notes.getD (Int.toNat v469) z_api_Slice).Head, (a3.notes.getD (Int.toNat v469) z_api_Slice).Note⟩ : api_Slice)]) k_api_Slice hI538 6 el24 ze36 rfl rfl rfl rfl ho475 hl473 hD474 (src_bx hI538 0 so24 rfl rfl) ⟨[int .i64 ((a3.notes.getD (Int.toNat v469) z_api_Slice).Node), int .i64 ((a3.notes.getD (Int.toNat v469) z_api_Slice).Table), int .i64 ((a3.notes.getD (Int.toNat v469) z_api_Slice).X), int .i64 v468, int .i64 ((a3.notes.getD (Int.toNat v469) z_api_Slice).H), string ((a3.notes.getD (Int.toNat v469) z_api_Slice).Text), bool ((a3.notes.getD (Int.toNat v469) z_api_Slice).Head), bool ((a3.notes.getD (Int.toNat v469) z_api_Slice).Note)], _, rfl, (mk_api_Slice (x := (⟨(a3.notes.getD (Int.toNat v469) z_api_Slice).Node, (a3.notes.getD (Int.toNat v469) z_api_Slice).Table, (a3.notes.getD (Int.toNat v469) z_api_Slice).X, v468, (a3.notes.getD (Int.toNat v469) z_api_Slice).H, (a3.notes.getD (Int.toNat v469) z_api_Slice).Text, (a3.notes.getD (Int.toNat v469) z_api_Slice).Head, (a3.notes.getD (Int.toNat v469) z_api_Slice).Note⟩ : api_Slice))), rfl⟩ rfl (by simp only [List.length_cons, List.length_nil]; omega) (by simp only [List.length_cons, List.length_nil]; omega) (fun A539 c540 G541 wd542 hG543 ho544 hl545 hD546 hI547 => ?_)
 exact fa fl34_1 z<|stk hI547 2 ag24 z z z z z z z fun wd549 hI550=>nl<|hK513 _ _ _<|wpc_region<|q_add z z<|mv z<|nl<|have hI556:=Hp.pick 7 [2, 3, 4, 5, 6] hI550 z;ih _ _ _ _ H A539 c540 _ _ _ (gT hG504 hG543) ⟨z, z, z, z, z, z, tv⟩ hI556 hl545 hD546 ho544 z
 refine nK h511 H fun H=>wf (bN h511)<|wx<|?_
 cases H
 exact ⟨z, A471, c472, _, z, hG504, ⟨z, z, tv⟩, hI506, hl473, hD474, ho475, tv⟩
 rintro e r ds wd500 ⟨rfl, A492, c493, G498, rfl, hG499, hHas, hI501, hl494, hD495, ho496, _⟩
 rw [hHas.eq]; clear hHas
 refine hK461 _ _ _<|sr fun K562 hK563=>lda hI501 0 ag34 z z z z<|stk hI501 1 ag34 z z z z z z z fun wd564 hI565=>nl<|hK563 _ _ _<|wr<|have hr566:=res_cell (P := Try.prog) hI565 1 (cs := [int .i64 a24, slice A492 v491.length c493]) (g := g28) (o := 0) ag34 z z z;have hI567:=Hp.rwUp hI565 3 z (gT hGr442 hG499);have hI570:=Hp.pick 5 [2, 3] hI567 z;?_
 cases H
 exact ⟨.inr z, z, _, ⟨_, _, _, z, z, hr566, z⟩, A492, c493, _, (gT hG448 hG499), hI570, hl494, hD495, z⟩
theorem pages_Break_1_k3_spec {a3 : Option pages_open} {a30 g2 g5 A7 c8 A11 c12 A21 n22 c23 g29 A31 c32 q1037 G L w} (H : pages_Break_1_k3 a3 a30 = some q1037) (hI : Hp G (bx g2 [oV a3 g5] 58 :: oI a3 (fun (x4 : pages_open) => bx g5 [int .i64 x4.sheet.Paper.Width, int .i64 x4.sheet.Paper.Height, int .i64 x4.sheet.Paper.Columns, int .i64 x4.sheet.Paper.Gap, int .i64 x4.sheet.Paper.Scale, int .i64 x4.sheet.Paper.Lang, slice A7 x4.placed.length c8, slice A11 x4.notes.length c12, slice A21 n22 c23] 67) :: oI a3 (fun (x4 : pages_open) => tk (slice A7 x4.placed.length c8) 8 36) :: oI a3 (fun (x4 : pages_open) => rwI G (Kd.int .i64) A21 [] x4.fills [] c23 3) :: bx g29 [slice A31 a30.length c32] 28 :: tk (slice A31 a30.length c32) 2 34 :: L) w) (hO27 : oF a3 (fun (x4 : pages_open) => x4.placed.length ≤ c8 ∧ Dat k_api_Slice G A7 x4.placed ∧ Own A7 c8 ∧ x4.notes.length ≤ c12 ∧ Dat k_api_Slice G A11 x4.notes ∧ x4.fills.length = n22 ∧ Mw A21 A21 ([] : List Int).length n22 c23 c23 1 ∧ True)) (hl33 : a30.length ≤ c32) (hD34 : Dat k_api_Page G A31 a30) (ho35 : Own A31 c32) :
    Calls Try.prog 22 [pointer (some ⟨g2, 0, none⟩), pointer (some ⟨g29, 0, none⟩)].toArray w fun e w' => ∃ (A1038 : Option Addr) (c1039 : Nat) (G' : Gh), G ≤ G' ∧ Hp G' (bx g2 [oV a3 g5] 58 :: oI a3 (fun (x4 : pages_open) => bx g5 [int .i64 x4.sheet.Paper.Width, int .i64 x4.sheet.Paper.Height, int .i64 x4.sheet.Paper.Columns, int .i64 x4.sheet.Paper.Gap, int .i64 x4.sheet.Paper.Scale, int .i64 x4.sheet.Paper.Lang, slice A7 x4.placed.length c8, slice A11 x4.notes.length c12, slice A21 n22 c23] 67) :: oI a3 (fun (x4 : pages_open) => rwI G' (Kd.int .i64) A21 [] x4.fills [] c23 3) :: bx g29 [slice A1038 q1037.length c1039] 28 :: tk (slice A1038 q1037.length c1039) 2 34 :: L) w' ∧ q1037.length ≤ c1039 ∧ Dat k_api_Page G' A1038 q1037 ∧ Own A1038 c1039 ∧ e = .returned (tuple [].toArray) := by
 refine calls_intro (N := 12) Try.func22 z z (Nat.le_of_ble_eq_true z)<|?_
 unfold pages_Break_1_k3 at H
 refine sr fun K37 hK38=>ld hI 0 ag58 z z z<|?_
 rcases a3 with _ | x4
 refine q_ptq_neq_y so58 z z<|nl<|hK38 _ _ _<|wf z<|ws<|have hI44:=Hp.pick 6 [0, 1, 3, 4, 5] hI z;?_
 cases H
 exact ⟨.inl z, z, _, z, A31, c32, _, gR, hI44, hl33, hD34, ho35, z⟩
 obtain ⟨hl9, hD10, ho19, hl13, hD14, hn24, hM25, _⟩ := hO27
 refine q_ptq_neq_n so58 z z<|nl<|hK38 _ _ _<|wt z<|bK H fun y54 hy239 H=>iK H fun h271 H=>?_
 refine wpc_drawL [0, 0, 0, 4, 12, 30, 62, 127, 255] (fun D r w => (D 5 = false ∧ ∃ (G' : Gh), G ≤ G' ∧ Regs [(0, pointer (some ⟨g2, 0, none⟩)), (1, pointer (some ⟨g29, 0, none⟩))] [] [(0, 4, slice A31 a30.length c32), (1, 5, pointer (some ⟨g5, 0, none⟩)), (2, 6, slice A31 a30.length c32), (3, 7, int .i64 (a30.length : Int)), (4, 8, int .i64 (w64 ((a30.length : Int) + 1)))] D r ∧ Hp G' (bx g2 [pointer (some ⟨g5, 0, none⟩)] 58 :: bx g5 [int .i64 x4.sheet.Paper.Width, int .i64 x4.sheet.Paper.Height, int .i64 x4.sheet.Paper.Columns, int .i64 x4.sheet.Paper.Gap, int .i64 x4.sheet.Paper.Scale, int .i64 x4.sheet.Paper.Lang, slice A7 x4.placed.length c8, slice A11 x4.notes.length c12, slice A21 n22 c23] 67 :: tk (slice A7 x4.placed.length c8) 8 36 :: rwI G (Kd.int .i64) A21 [] x4.fills [] c23 3 :: bx g29 [slice A31 a30.length c32] 28 :: tk (slice A31 a30.length c32) 2 34 :: L) w) ∨ (D 5 = true ∧ D 6 = false ∧ ∃ (A55 : Option Addr) (c56 : Nat) (G50 : Gh) (G' : Gh), G ≤ G' ∧ y54.Slices.length ≤ c56 ∧ Dat k_api_Slice G' A55 y54.Slices ∧ G50 ≤ G' ∧ Regs [(0, pointer (some ⟨g2, 0, none⟩)), (1, pointer (some ⟨g29, 0, none⟩))] [] [(0, 4, slice A31 a30.length c32), (1, 5, pointer (some ⟨g5, 0, none⟩)), (2, 6, slice A31 a30.length c32), (3, 7, int .i64 (a30.length : Int)), (4, 8, int .i64 (w64 ((a30.length : Int) + 1))), (5, 9, agg [int .i64 y54.Number, slice A55 y54.Slices.length c56].toArray)] D r ∧ Hp G' (bx g5 [int .i64 x4.sheet.Paper.Width, int .i64 x4.sheet.Paper.Height, int .i64 x4.sheet.Paper.Columns, int .i64 x4.sheet.Paper.Gap, int .i64 x4.sheet.Paper.Scale, int .i64 x4.sheet.Paper.Lang, slice A7 x4.placed.length c8, slice A11 x4.notes.length c12, slice A21 n22 c23] 67 :: rwI G50 (Kd.int .i64) A21 [] x4.fills [] c23 3 :: bx g2 [pointer (some ⟨g5, 0, none⟩)] 58 :: bx g29 [slice A31 a30.length c32] 28 :: tk (slice A31 a30.length c32) 2 34 :: L) w) ∨ (D 6 = true ∧ D 7 = false ∧ ∃ (A55 : Option Addr) (c56 : Nat) (G50 : Gh) (g259 : Nat) (G' : Gh), G ≤ G' ∧ y54.Slices.length ≤ c56 ∧ Dat k_api_Slice G' A55 y54.Slices ∧ G50 ≤ G' ∧ Regs [(0, pointer (some ⟨g2, 0, none⟩)), (1, pointer (some ⟨g29, 0, none⟩))] [] [(0, 4, slice A31 a30.length c32), (1, 5, pointer (some ⟨g5, 0, none⟩)), (2, 6, slice A31 a30.length c32), (3, 7, int .i64 (a30.length : Int)), (4, 8, int .i64 (w64 ((a30.length : Int) + 1))), (5, 9, agg [int .i64 y54.Number, slice A55 y54.Slices.length c56].toArray), (6, 10, slice (some ⟨g259, 0, none⟩) 1 1)] D r ∧ Hp G' (bx g259 [int .i64 y54.Number, slice A55 y54.Slices.length c56] 34 :: bx g5 [int .i64 x4.sheet.Paper.Width, int .i64 x4.sheet.Paper.Height, int .i64 x4.sheet.Paper.Columns, int .i64 x4.sheet.Paper.Gap, int .i64 x4.sheet.Paper.Scale, int .i64 x4.sheet.Paper.Lang, slice A7 x4.placed.length c8, slice A11 x4.notes.length c12, slice A21 n22 c23] 67 :: rwI G50 (Kd.int .i64) A21 [] x4.fills [] c23 3 :: bx g2 [pointer (some ⟨g5, 0, none⟩)] 58 :: bx g29 [slice A31 a30.length c32] 28 :: tk (slice A31 a30.length c32) 2 34 :: L) w) ∨ (D 7 = true ∧ D 8 = false ∧ ∃ (A55 : Option Addr) (c56 : Nat) (G50 : Gh) (g259 : Nat) (A262 : Option Addr) (c263 : Nat) (G' : Gh), G ≤ G' ∧ y54.Slices.length ≤ c56 ∧ Dat k_api_Slice G' A55 y54.Slices ∧ G50 ≤ G' ∧ (a30 ++ [y54]).length ≤ c263 ∧ Dat k_api_Page G' A262 (a30 ++ [y54]) ∧ Own A262 c263 ∧ Regs [(0, pointer (some ⟨g2, 0, none⟩)), (1, pointer (some ⟨g29, 0, none⟩))] [] [(0, 4, slice A31 a30.length c32), (1, 5, pointer (some ⟨g5, 0, none⟩)), (2, 6, slice A31 a30.length c32), (3, 7, int .i64 (a30.length : Int)), (4, 8, int .i64 (w64 ((a30.length : Int) + 1))), (5, 9, agg [int .i64 y54.Number, slice A55 y54.Slices.length c56].toArray), (6, 10, slice (some ⟨g259, 0, none⟩) 1 1), (7, 11, slice A262 (a30 ++ [y54]).length c263)] D r ∧ Hp G' (bx g259 [int .i64 y54.Number, slice A55 y54.Slices.length c56] 34 :: bx g5 [int .i64 x4.sheet.Paper.Width, int .i64 x4.sheet.Paper.Height, int .i64 x4.sheet.Paper.Columns, int .i64 x4.sheet.Paper.Gap, int .i64 x4.sheet.Paper.Scale, int .i64 x4.sheet.Paper.Lang, slice A7 x4.placed.length c8, slice A11 x4.notes.length c12, slice A21 n22 c23] 67 :: rwI G50 (Kd.int .i64) A21 [] x4.fills [] c23 3 :: bx g2 [pointer (some ⟨g5, 0, none⟩)] 58 :: bx g29 [slice A31 a30.length c32] 28 :: tk (slice A262 (a30 ++ [y54]).length c263) 2 34 :: L) w) ∨ (D 8 = true ∧ ∃ (A55 : Option Addr) (c56 : Nat) (G50 : Gh) (g259 : Nat) (A262 : Option Addr) (c263 : Nat) (G' : Gh), G ≤ G' ∧ y54.Slices.length ≤ c56 ∧ Dat k_api_Slice G' A55 y54.Slices ∧ G50 ≤ G' ∧ (a30 ++ [y54]).length ≤ c263 ∧ Dat k_api_Page G' A262 (a30 ++ [y54]) ∧ Own A262 c263 ∧ Regs [(0, pointer (some ⟨g2, 0, none⟩)), (1, pointer (some ⟨g29, 0, none⟩))] [] [(0, 4, slice A31 a30.length c32), (1, 5, pointer (some ⟨g5, 0, none⟩)), (2, 6, slice A31 a30.length c32), (3, 7, int .i64 (a30.length : Int)), (4, 8, int .i64 (w64 ((a30.length : Int) + 1))), (5, 9, agg [int .i64 y54.Number, slice A55 y54.Slices.length c56].toArray), (6, 10, slice (some ⟨g259, 0, none⟩) 1 1), (7, 11, slice A262 (a30 ++ [y54]).length c263)] D r ∧ Hp G' (bx g259 [int .i64 y54.Number, slice A55 y54.Slices.length c56] 34 :: bx g5 [int .i64 x4.sheet.Paper.Width, int .i64 x4.sheet.Paper.Height, int .i64 x4.sheet.Paper.Columns, int .i64 x4.sheet.Paper.Gap, int .i64 x4.sheet.Paper.Scale, int .i64 x4.sheet.Paper.Lang, slice A7 x4.placed.length c8, slice A11 x4.notes.length c12, slice A21 n22 c23] 67 :: rwI G50 (Kd.int .i64) A21 [] x4.fills [] c23 3 :: bx g2 [pointer (some ⟨g5, 0, none⟩)] 58 :: bx g29 [slice A262 (a30 ++ [y54]).length c263] 28 :: tk (slice A262 (a30 ++ [y54]).length c263) 2 34 :: L) w)) mixo z z ?_ ?_ ?_
 exact (.inl ⟨z, _, Gh.le_refl _, Regs.start ⟨z, z, tv⟩ trivial, hI.drew⟩)
 refine ⟨?_, ?_, ?_, ?_, ?_, ?_, ?_, ?_, ?_, tv⟩
 rintro D r wd278 (⟨hd2, G274, hG275, hReg277, hI276⟩ | ⟨hd1, hd2, A55, c56, G50, G274, hG275, hl57, hD58, hGr257, hReg277, hI276⟩ | ⟨hd1, hd2, A55, c56, G50, g259, G274, hG275, hl57, hD58, hGr257, hReg277, hI276⟩ | ⟨hd1, hd2, A55, c56, G50, g259, A262, c263, G274, hG275, hl57, hD58, hGr257, hl268, hD269, ho267, hReg277, hI276⟩ | ⟨hd1, A55, c56, G50, g259, A262, c263, G274, hG275, hl57, hD58, hGr257, hl268, hD269, ho267, hReg277, hI276⟩) hDi hpre hpost
 obtain ⟨r0, rfl⟩ := Has.ex (cC (hReg277.ins.get 1 rfl) cN)
 exact ld hI276 4 ag28 z z z<|nl ⟨z, (.inl ⟨hd2, _, hG275, (Regs.step hReg277 hDi z z z z), hI276⟩)⟩
 obtain ⟨r0, rfl⟩ := Has.ex (cC (hReg277.ins.get 1 rfl) cN)
 exact ld hI276 3 ag28 z z z<|nl ⟨z, (.inr (.inl ⟨hd1, hd2, A55, c56, G50, _, hG275, hl57, hD58, hGr257, (Regs.step hReg277 hDi z z z z), hI276⟩))⟩
 obtain ⟨r0, rfl⟩ := Has.ex (cC (hReg277.ins.get 1 rfl) cN)
 exact ld hI276 4 ag28 z z z<|nl ⟨z, (.inr (.inr (.inl ⟨hd1, hd2, A55, c56, G50, g259, _, hG275, hl57, hD58, hGr257, (Regs.step hReg277 hDi z z z z), hI276⟩)))⟩
 cases (hpost 7 rfl).symm.trans hd1
 cases (hpost 8 rfl).symm.trans hd1
 rintro D r wd278 (⟨hd2, G274, hG275, hReg277, hI276⟩ | ⟨hd1, hd2, A55, c56, G50, G274, hG275, hl57, hD58, hGr257, hReg277, hI276⟩ | ⟨hd1, hd2, A55, c56, G50, g259, G274, hG275, hl57, hD58, hGr257, hReg277, hI276⟩ | ⟨hd1, hd2, A55, c56, G50, g259, A262, c263, G274, hG275, hl57, hD58, hGr257, hl268, hD269, ho267, hReg277, hI276⟩ | ⟨hd1, A55, c56, G50, g259, A262, c263, G274, hG275, hl57, hD58, hGr257, hl268, hD269, ho267, hReg277, hI276⟩) hDi hpre hpost
 obtain ⟨r0, rfl⟩ := Has.ex (cC (hReg277.ins.get 0 rfl) cN)
 exact ld hI276 0 ag58 z z z<|nl ⟨z, (.inl ⟨hd2, _, hG275, (Regs.step hReg277 hDi z z z z), hI276⟩)⟩
 cases (hpost 5 rfl).symm.trans hd1
 cases (hpost 6 rfl).symm.trans hd1
 cases (hpost 7 rfl).symm.trans hd1
 cases (hpost 8 rfl).symm.trans hd1
 rintro D r wd278 (⟨hd2, G274, hG275, hReg277, hI276⟩ | ⟨hd1, hd2, A55, c56, G50, G274, hG275, hl57, hD58, hGr257, hReg277, hI276⟩ | ⟨hd1, hd2, A55, c56, G50, g259, G274, hG275, hl57, hD58, hGr257, hReg277, hI276⟩ | ⟨hd1, hd2, A55, c56, G50, g259, A262, c263, G274, hG275, hl57, hD58, hGr257, hl268, hD269, ho267, hReg277, hI276⟩ | ⟨hd1, A55, c56, G50, g259, A262, c263, G274, hG275, hl57, hD58, hGr257, hl268, hD269, ho267, hReg277, hI276⟩) hDi hpre hpost
 obtain ⟨r0, rfl⟩ := Has.ex (cC (hReg277.ins.get 1 rfl) cN)
 exact ld hI276 4 ag28 z z z<|nl ⟨z, (.inl ⟨hd2, _, hG275, (Regs.step hReg277 hDi z z z z), hI276⟩)⟩
 cases (hpost 5 rfl).symm.trans hd1
 cases (hpost 6 rfl).symm.trans hd1
 cases (hpost 7 rfl).symm.trans hd1
 cases (hpost 8 rfl).symm.trans hd1
 rintro D r wd278 (⟨hd2, G274, hG275, hReg277, hI276⟩ | ⟨hd1, hd2, A55, c56, G50, G274, hG275, hl57, hD58, hGr257, hReg277, hI276⟩ | ⟨hd1, hd2, A55, c56, G50, g259, G274, hG275, hl57, hD58, hGr257, hReg277, hI276⟩ | ⟨hd1, hd2, A55, c56, G50, g259, A262, c263, G274, hG275, hl57, hD58, hGr257, hl268, hD269, ho267, hReg277, hI276⟩ | ⟨hd1, A55, c56, G50, g259, A262, c263, G274, hG275, hl57, hD58, hGr257, hl268, hD269, ho267, hReg277, hI276⟩) hDi hpre hpost
 obtain ⟨r0, rfl⟩ := Has.ex (cC (hReg277.get 2 rfl (hpre 2 rfl)) cN)
 exact q_len so28 z<|nl ⟨z, (.inl ⟨hd2, _, hG275, (Regs.step hReg277 hDi z z z z), hI276⟩)⟩
 cases (hpost 5 rfl).symm.trans hd1
 cases (hpost 6 rfl).symm.trans hd1
 cases (hpost 7 rfl).symm.trans hd1
 cases (hpost 8 rfl).symm.trans hd1
 rintro D r wd278 (⟨hd2, G274, hG275, hReg277, hI276⟩ | ⟨hd1, hd2, A55, c56, G50, G274, hG275, hl57, hD58, hGr257, hReg277, hI276⟩ | ⟨hd1, hd2, A55, c56, G50, g259, G274, hG275, hl57, hD58, hGr257, hReg277, hI276⟩ | ⟨hd1, hd2, A55, c56, G50, g259, A262, c263, G274, hG275, hl57, hD58, hGr257, hl268, hD269, ho267, hReg277, hI276⟩ | ⟨hd1, A55, c56, G50, g259, A262, c263, G274, hG275, hl57, hD58, hGr257, hl268, hD269, ho267, hReg277, hI276⟩) hDi hpre hpost
 obtain ⟨r0, rfl⟩ := Has.ex (cC (hReg277.get 3 rfl (hpre 3 rfl)) cN)
 exact q_add z z<|nl ⟨z, (.inl ⟨hd2, _, hG275, (Regs.step hReg277 hDi z z z z), hI276⟩)⟩
 cases (hpost 5 rfl).symm.trans hd1
 cases (hpost 6 rfl).symm.trans hd1
 cases (hpost 7 rfl).symm.trans hd1
 cases (hpost 8 rfl).symm.trans hd1
 rintro D r wd278 (⟨hd2, G274, hG275, hReg277, hI276⟩ | ⟨hd1, hd2, A55, c56, G50, G274, hG275, hl57, hD58, hGr257, hReg277, hI276⟩ | ⟨hd1, hd2, A55, c56, G50, g259, G274, hG275, hl57, hD58, hGr257, hReg277, hI276⟩ | ⟨hd1, hd2, A55, c56, G50, g259, A262, c263, G274, hG275, hl57, hD58, hGr257, hl268, hD269, ho267, hReg277, hI276⟩ | ⟨hd1, A55, c56, G50, g259, A262, c263, G274, hG275, hl57, hD58, hGr257, hl268, hD269, ho267, hReg277, hI276⟩) hDi hpre hpost
 obtain ⟨r0, rfl⟩ := Has.ex (cC (hReg277.get 1 rfl (hpre 1 rfl)) (cC (hReg277.get 4 rfl (hpre 4 rfl)) cN))
 refine have hI250:=Hp.rwUp hI276 3 z hG275;have hI256:=Hp.pick 6 [1, 2, 3, 0, 4, 5] hI250 z;q_cv (vs := [pointer (some ⟨g5, 0, none⟩), int .i64 (w64 ((a30.length : Int) + 1))]) bo23 z z (pages_open_close_k2_spec hy239 hI256 hl9 (Dat.mono hG275 hD10) ho19 hl13 (Dat.mono hG275 hD14) hn24 hM25)<|?_
 rintro _ wd52 ⟨A55, c56, G50, hG51, hI53, hl57, hD58, rfl⟩
 refine ⟨_, rfl, ?_⟩
 exact nl ⟨z, (.inr (.inl ⟨z, (hpost 6 z), A55, c56, G50, _, (gT hG275 hG51), hl57, hD58, gR, (Regs.step (Regs.more (new := [(5, 9, agg [int .i64 y54.Number, slice A55 y54.Slices.length c56].toArray)]) hReg277 (List.forall_mem_cons.2 ⟨hDi, (fun _ h => nomatch h)⟩)) hDi z z z z), hI53⟩))⟩
 cases hDi.symm.trans hd1
 cases (hpost 6 rfl).symm.trans hd1
 cases (hpost 7 rfl).symm.trans hd1
 cases (hpost 8 rfl).symm.trans hd1
 rintro D r wd278 (⟨hd2, G274, hG275, hReg277, hI276⟩ | ⟨hd1, hd2, A55, c56, G50, G274, hG275, hl57, hD58, hGr257, hReg277, hI276⟩ | ⟨hd1, hd2, A55, c56, G50, g259, G274, hG275, hl57, hD58, hGr257, hReg277, hI276⟩ | ⟨hd1, hd2, A55, c56, G50, g259, A262, c263, G274, hG275, hl57, hD58, hGr257, hl268, hD269, ho267, hReg277, hI276⟩ | ⟨hd1, A55, c56, G50, g259, A262, c263, G274, hG275, hl57, hD58, hGr257, hl268, hD269, ho267, hReg277, hI276⟩) hDi hpre hpost
 cases (hpre 5 rfl).symm.trans hd2
 obtain ⟨r0, rfl⟩ := Has.ex (cC (hReg277.get 5 rfl (hpre 5 rfl)) cN)
 refine q_bs hI276 (vs := [(0, agg [int .i64 y54.Number, slice A55 y54.Slices.length c56].toArray)]) (cs := [int .i64 y54.Number, slice A55 y54.Slices.length c56]) el28 ze34 rfl (by decide) rfl (by kernel_rfl) (fun g259 wd260 hI261 => ?_)
 exact nl ⟨z, (.inr (.inr (.inl ⟨z, (hpost 7 z), A55, c56, G50, g259, _, hG275, hl57, hD58, hGr257, (Regs.step (Regs.more (new := [(6, 10, slice (some ⟨g259, 0, none⟩) 1 1)]) hReg277 (List.forall_mem_cons.2 ⟨hDi, (fun _ h => nomatch h)⟩)) hDi z z z z), hI261⟩)))⟩
 cases hDi.symm.trans hd1
 cases (hpost 7 rfl).symm.trans hd1
 cases (hpost 8 rfl).symm.trans hd1
 rintro D r wd278 (⟨hd2, G274, hG275, hReg277, hI276⟩ | ⟨hd1, hd2, A55, c56, G50, G274, hG275, hl57, hD58, hGr257, hReg277, hI276⟩ | ⟨hd1, hd2, A55, c56, G50, g259, G274, hG275, hl57, hD58, hGr257, hReg277, hI276⟩ | ⟨hd1, hd2, A55, c56, G50, g259, A262, c263, G274, hG275, hl57, hD58, hGr257, hl268, hD269, ho267, hReg277, hI276⟩ | ⟨hd1, A55, c56, G50, g259, A262, c263, G274, hG275, hl57, hD58, hGr257, hl268, hD269, ho267, hReg277, hI276⟩) hDi hpre hpost
 cases (hpre 5 rfl).symm.trans hd2
 cases (hpre 6 rfl).symm.trans hd2
 obtain ⟨r0, rfl⟩ := Has.ex (cC (hReg277.get 0 rfl (hpre 0 rfl)) (cC (hReg277.get 6 rfl (hpre 6 rfl)) cN))
 refine q_app (xs := a30) (ys := [y54]) k_api_Page hI276 5 el28 ze34 rfl rfl rfl rfl ho35 hl33 (Dat.mono hG275 hD34) (src_bx hI276 0 so28 rfl rfl) ⟨[int .i64 y54.Number, slice A55 y54.Slices.length c56], _, rfl, (mk_api_Page (x := y54) hl57 hD58), rfl⟩ rfl (by simp only [List.length_cons, List.length_nil]; omega) (by simp only [List.length_cons, List.length_nil]; omega) (fun A262 c263 G264 wd265 hG266 ho267 hl268 hD269 hI270 => ?_)
 exact nl ⟨z, (.inr (.inr (.inr (.inl ⟨z, (hpost 8 z), A55, c56, G50, g259, A262, c263, _, (gT hG275 hG266), hl57, (Dat.mono hG266 hD58), (gT hGr257 hG266), hl268, hD269, ho267, (Regs.step (Regs.more (new := [(7, 11, slice A262 (a30 ++ [y54]).length c263)]) hReg277 (List.forall_mem_cons.2 ⟨hDi, (fun _ h => nomatch h)⟩)) hDi z z z z), hI270⟩))))⟩
 cases hDi.symm.trans hd1
 cases (hpost 8 rfl).symm.trans hd1
 rintro D r wd278 (⟨hd2, G274, hG275, hReg277, hI276⟩ | ⟨hd1, hd2, A55, c56, G50, G274, hG275, hl57, hD58, hGr257, hReg277, hI276⟩ | ⟨hd1, hd2, A55, c56, G50, g259, G274, hG275, hl57, hD58, hGr257, hReg277, hI276⟩ | ⟨hd1, hd2, A55, c56, G50, g259, A262, c263, G274, hG275, hl57, hD58, hGr257, hl268, hD269, ho267, hReg277, hI276⟩ | ⟨hd1, A55, c56, G50, g259, A262, c263, G274, hG275, hl57, hD58, hGr257, hl268, hD269, ho267, hReg277, hI276⟩) hDi hpre hpost
 cases (hpre 5 rfl).symm.trans hd2
 cases (hpre 6 rfl).symm.trans hd2
 cases (hpre 7 rfl).symm.trans hd2
 obtain ⟨r0, rfl⟩ := Has.ex (cC (hReg277.ins.get 1 rfl) (cC (hReg277.get 7 rfl (hpre 7 rfl)) cN))
 exact stk hI276 4 ag28 z z z z z z z fun wd272 hI273=>nl ⟨z, (.inr (.inr (.inr (.inr ⟨z, A55, c56, G50, g259, A262, c263, _, hG275, hl57, hD58, hGr257, hl268, hD269, ho267, (Regs.stepN hReg277 z z), hI273⟩))))⟩
 cases hDi.symm.trans hd1
 intro D r wd278 hall hR
 rcases hR with ⟨hd2, G274, hG275, hReg277, hI276⟩ | ⟨hd1, hd2, A55, c56, G50, G274, hG275, hl57, hD58, hGr257, hReg277, hI276⟩ | ⟨hd1, hd2, A55, c56, G50, g259, G274, hG275, hl57, hD58, hGr257, hReg277, hI276⟩ | ⟨hd1, hd2, A55, c56, G50, g259, A262, c263, G274, hG275, hl57, hD58, hGr257, hl268, hD269, ho267, hReg277, hI276⟩ | ⟨hd1, A55, c56, G50, g259, A262, c263, G274, hG275, hl57, hD58, hGr257, hl268, hD269, ho267, hReg277, hI276⟩
 cases (hall 5 (Nat.le_of_ble_eq_true rfl)).symm.trans hd2
 cases (hall 6 (Nat.le_of_ble_eq_true rfl)).symm.trans hd2
 cases (hall 7 (Nat.le_of_ble_eq_true rfl)).symm.trans hd2
 cases (hall 8 (Nat.le_of_ble_eq_true rfl)).symm.trans hd2
 obtain ⟨r0, rfl⟩ := Has.ex (r := r) cN
 refine have hI279:=Hp.rwUp hI276 2 z hGr257;have hI285:=Hp.pick 6 [3, 1, 2, 4, 5] hI279 z;?_
 cases H
 exact ⟨.inl z, z, _, z, A262, c263, _, hG275, hI285, hl268, hD269, ho267, z⟩
theorem pages_Break_spec {a1 a2} {a7 : List Bool} {A3 c4 A8 c9 r1012 r1019 G L w} (H : pages_Break a1 a2 a7 = some (r1012, r1019)) (hI : Hp G L w) (hl5 : a2.length ≤ c4) (hD6 : Dat k_api_Slice G A3 a2) (hl10 : a7.length ≤ c9) (hD11 : Dat Kd.bool G A8 a7) :
    Calls Try.prog 8 [agg [int .i64 a1.Width, int .i64 a1.Height, int .i64 a1.Columns, int .i64 a1.Gap, int .i64 a1.Scale, int .i64 a1.Lang].toArray, slice A3 a2.length c4, slice A8 a7.length c9].toArray w fun e w' => ∃ (A1013 : Option Addr) (c1014 : Nat) (G' : Gh), G ≤ G' ∧ Hp G' (tk (slice A1013 r1012.length c1014) 2 34 :: L) w' ∧ r1012.length ≤ c1014 ∧ Dat k_api_Page G' A1013 r1012 ∧ Own A1013 c1014 ∧ e = .returned (tuple [slice A1013 r1012.length c1014, int .i64 r1019].toArray) := by
 refine calls_intro_m (N := 77) Try.func8 z z (Nat.le_of_ble_eq_true z)<|?_
 unfold pages_Break at H
 refine sr fun K12 hK13=>bxk hI z z fun g15 wd16 hI17=>asn z<|asn z<|nl<|hK13 _ _ _<|sQ fun K18 hK19=>sr fun K20 hK21=>lda hI17 0 ag23 z z z z<|q_build (vs := [(0, agg [int .i64 a1.Width, int .i64 a1.Height, int .i64 a1.Columns, int .i64 a1.Gap, int .i64 a1.Scale, int .i64 a1.Lang].toArray)]) (cs := [int .i64 a1.Width, int .i64 a1.Height, int .i64 a1.Columns, int .i64 a1.Gap, int .i64 a1.Scale, int .i64 a1.Lang]) ze56 pl56 z z<|bK H fun y27 hy22 H=>cv bo20 (pages_sheet_valid_spec (a1 := (⟨a1⟩ : pages_sheet)) hy22 hI17) z z fun wd25 hI26=>q_not z<|mv z<|?_
 refine bK H fun v28 hC H=>js 5 hI26 [(1, slice A3 a2.length c4), (2, slice A8 a7.length c9), (3, pointer (some ⟨g15, 0, none⟩)), (23, bool v28)] ?_ fun _ wd31 hI32=>?_
 refine have H:=hC;dC ((!y27) = true) (fun h34=>?_) fun h34=>?_
 refine yK h34 H fun H=>Sk 4 z z (vY h34) z<|pkt (vY h34) z<|nl<|?_
 cases H
 exact je ⟨z, z, z, z, tv⟩ hI26
 refine nK h34 H fun H=>mv (hw:=gY z z z (vN h34)) z<|mv (hw:=gY z z z (vN h34)) z<|bK H fun y40 hy35 H=>cv (hw:=gY z z z (vN h34)) bo21 (pages_canBreak_spec hy35 hI26 hl5 hD6 hl10 hD11) z z fun wd38 hI39=>q_not (hw:=gY z z z (vN h34)) z<|pkf (vN h34) z<|nl<|?_
 cases H
 exact je ⟨z, z, z, z, tv⟩ hI39
 refine nl<|hK21 _ _ _<|dC (v28 = true) (fun h41=>?_) fun h41=>?_
 refine yK h41 H fun H=>wt (vY h41)<|sr fun K42 hK43=>asn z<|asn z<|nl<|hK43 _ _ _<|wr<|?_
 refine ⟨.inr rfl, ([] : List Nat), _, _, rfl, Hp.marks (K := [bx g15 [int .i64 a1.Width, int .i64 a1.Height, int .i64 a1.Columns, int .i64 a1.Gap, int .i64 a1.Scale, int .i64 a1.Lang] 23]) hI32, fun wd45 hI44 => ?_⟩
 refine have hI46:=Hp.emp hI44;have hI48:=Hp.pick 2 [0] hI46 z;?_
 cases H
 exact ⟨_, ⟨_, _, z, z, ⟨_, _, z, z, z⟩⟩, none, 0, _, gR, hI48, (show ([] : List api_Page).length ≤ 0 from Nat.le_refl 0), (Dat.nil _ _ _), Own.nil, z⟩
 refine nK h41 H fun H=>wf (vN h41)<|ws<|hK19 _ _ _<|sr fun K49 hK50=>q_alloc hI32 ze28 fun g52 wd53 hI54=>nl<|hK50 _ _ _<|sr fun K55 hK56=>q_alloc hI54 ze57 fun g58 wd59 hI60=>nl<|hK56 _ _ _<|sr fun K61 hK62=>q_alloc hI60 ze58 fun g64 wd65 hI66=>?_
 refine nl<|hK62 _ _ _<|sr fun K67 hK68=>q_fn (vs := []) (us := [pointer (some ⟨g64, 0, none⟩), pointer (some ⟨g52, 0, none⟩)]) z z<|q_alloc hI66 ze1 fun g70 wd71 hI72=>stk hI72 0 ag1 z z z z z z z fun wd73 hI74=>nl<|hK68 _ _ _<|sQ fun K75 hK76=>sr fun K77 hK78=>mv z<|mv z<|bK2 H fun y86 y93 hy79 H=>q_cv (vs := [slice A3 a2.length c4, slice A8 a7.length c9]) bo24 z z (pages_bands_spec hy79 hI74 hl5 hD6 hl10 hD11)<|?_
 rintro _ wd82 ⟨g85, A87, c88, g92, A94, c95, G80, hG81, hI83, hl89, hD90, hl96, hD97, rfl⟩
 refine ⟨_, rfl, ?_⟩
 refine nl<|hK78 _ _ _<|wb<|have hI98:=Hp.emp hI83;have hI100:=Hp.emp hI98;have hI247:=Hp.emp hI100;have hI249:=Hp.emp hI247;have hI251:=Hp.emp hI249;have hI253:=Hp.emp hI251;have hI278:=Hp.pick 13 [6, 7, 8, 9, 10, 11, 12, 3, 2, 1, 0, 5, 4] hI253 z;?_
 obtain ⟨⟨⟨v140, v160, v168, v175⟩, jo281⟩, hr996, H⟩ := bS H
 refine wpc_range hI278 bo43 z fun fn tmps gl gd102 wd1102 hA993 hI994=>?_
 have hY995 : Yl Try.prog (rnd (fun (u : (Option pages_open) × Bool × (List pages_band) × (List api_Page)) (x : pages_band) => pages_Break_r279 a1 u.1 u.2.1 u.2.2.1 u.2.2.2 x)) (encS k_pages_band) _ gl := yl_intro (pp := [28]) (gdd := gd102) hI994 (fun (u : (Option pages_open) × Bool × (List pages_band) × (List api_Page)) (x : pages_band) => pages_Break_r279 a1 u.1 u.2.1 u.2.2.1 u.2.2.2 x) [Code.exit 0] (fun (u : (Option pages_open) × Bool × (List pages_band) × (List api_Page)) (G' : Gh) (K : List Itm) => ∃ (A169 : Option Addr) (c170 : Nat) (A176 : Option Addr) (c177 : Nat) (g142 : Nat) (A144 : Option Addr) (c145 : Nat) (A148 : Option Addr) (c149 : Nat) (A161 : Option Addr) (n162 : Nat) (c163 : Nat) (Gr182 : Gh) (_ : G80 ≤ G'), K = bx g70 [func (.func 22) [].toArray [pointer (some ⟨g64, 0, none⟩), pointer (some ⟨g52, 0, none⟩)].toArray] 1 :: bx g64 [oV u.1 g142] 58 :: bx g58 [slice A169 u.2.2.1.length c170] 57 :: bx g52 [slice A176 u.2.2.2.length c177] 28 :: bx g15 [int .i64 a1.Width, int .i64 a1.Height, int .i64 a1.Columns, int .i64 a1.Gap, int .i64 a1.Scale, int .i64 a1.Lang] 23 :: oI u.1 (fun (x141 : pages_open) => bx g142 [int .i64 x141.sheet.Paper.Width, int .i64 x141.sheet.Paper.Height, int .i64 x141.sheet.Paper.Columns, int .i64 x141.sheet.Paper.Gap, int .i64 x141.sheet.Paper.Scale, int .i64 x141.sheet.Paper.Lang, slice A144 x141.placed.length c145, slice A148 x141.notes.length c149, slice A161 n162 c163] 67) :: oI u.1 (fun (x141 : pages_open) => tk (slice A144 x141.placed.length c145) 8 36) :: oI u.1 (fun (x141 : pages_open) => cI u.2.1 (tk (slice A148 x141.notes.length c149) 8 36)) :: oI u.1 (fun (x141 : pages_open) => rwI Gr182 (Kd.int .i64) A161 [] x141.fills [] c163 3) :: tk (slice A169 u.2.2.1.length c170) 3 64 :: tk (slice A176 u.2.2.2.length c177) 2 34 :: (List.map mkI (gd102 :: ([] : List Nat)) ++ L) ∧ u.2.2.1.length ≤ c170 ∧ Dat k_pages_band G' A169 u.2.2.1 ∧ Own A169 c170 ∧ u.2.2.2.length ≤ c177 ∧ Dat k_api_Page G' A176 u.2.2.2 ∧ Own A176 c177 ∧ oF u.1 (fun (x141 : pages_open) => x141.placed.length ≤ c145 ∧ Dat k_api_Slice G' A144 x141.placed ∧ Own A144 c145 ∧ x141.notes.length ≤ c149 ∧ Dat k_api_Slice G' A148 x141.notes ∧ (u.2.1 = true → Own A148 c149) ∧ x141.fills.length = n162 ∧ Mw A161 A161 ([] : List Int).length n162 c163 c163 1 ∧ True) ∧ Gr182 ≤ G' ∧ True) hA993 (fun _ _ _ h => (fun h => encS_len h) h) (fun hG' ⟨A169, c170, A176, c177, g142, A144, c145, A148, c149, A161, n162, c163, Gr182, h0', hK', hl171, hD172, ho173, hl178, hD179, ho180, hO167, hGr183, _⟩ => ⟨A169, c170, A176, c177, g142, A144, c145, A148, c149, A161, n162, c163, Gr182, gT h0' hG', hK', hl171, (Dat.mono hG' hD172), ho173, hl178, (Dat.mono hG' hD179), ho180, (oF_mono (fun _ ⟨o0, o1, o2, o3, o4, o5, o6, o7, _⟩ => ⟨o0, Dat.mono hG' o1, o2, o3, Dat.mono hG' o4, o5, o6, o7, tv⟩) hO167), (gT hGr183 hG'), tv⟩) (by
 rintro Rd Bs ⟨v140, v160, v168, v175⟩ u' x287 jo' G283 K M wd285 vs ⟨A169, c170, A176, c177, g142, A144, c145, A148, c149, A161, n162, c163, Gr182, hG284, rfl, hl171, hD172, ho173, hl178, hD179, ho180, hO167, hGr183, _⟩ ⟨_, rfl, hK296⟩ H hI297
 obtain ⟨A288, c289, hl290, hD291, A292, c293, hl294, hD295, rfl⟩ := open_pages_band hK296
 replace H : pages_Break_r279 a1 v140 v160 v168 v175 x287 = some (u', jo') := H
 unfold pages_Break_r279 at H
 refine wpc_region<|q_alloc hI297 ze64 fun g299 wd300 hI301=>stk hI301 0 ag64 z z z z z z z fun wd302 hI303=>nl<|have hI318:=Hp.pick 13 [1, 0, 2, 3, 4, 5, 6, 7, 8, 9, 10, 11, 12] hI303 z;?_
 refine ⟨rfl, rfl, _, _, gR, hI318, fun wd305 hI304 => ?_⟩
 refine wb<|sQ fun K319 hK320=>sr fun K321 hK322=>fa fl64_0 z<|ld hI304 1 ag24 z z z<|q_len so24 z<|q_eql z z<|nl<|hK322 _ _ _<|dC ((x287.slices.length : Int) = 0) (fun h323=>?_) fun h323=>?_
 refine yK h323 H fun H=>wt (bY h323)<|sr fun K324 hK325=>lda hI304 6 ag23 z z z z<|q_build (vs := [(0, agg [int .i64 a1.Width, int .i64 a1.Height, int .i64 a1.Columns, int .i64 a1.Gap, int .i64 a1.Scale, int .i64 a1.Lang].toArray)]) (cs := [int .i64 a1.Width, int .i64 a1.Height, int .i64 a1.Columns, int .i64 a1.Gap, int .i64 a1.Scale, int .i64 a1.Lang]) ze56 pl56 z z<|?_
 refine q_bs hI304 (vs := [(0, int .i64 0)]) (cs := [int .i64 0]) el65 ze3 rfl (by decide) rfl (by kernel_rfl) (fun g327 wd328 hI329 => ?_)
 refine have hI330:=Hp.rowLit (kd := (Kd.int .i64)) (t := ([0] : List Int)) (n := 1) hI329 ⟨[int .i64 0], _, z, z, z⟩ z;fa fl64_1 z<|ld hI330 2 ag24 z z z<|q_build (vs := [(0, agg [int .i64 a1.Width, int .i64 a1.Height, int .i64 a1.Columns, int .i64 a1.Gap, int .i64 a1.Scale, int .i64 a1.Lang].toArray), (3, slice (some ⟨g327, 0, none⟩) 1 1), (2, slice A292 x287.notes.length c293)]) (cs := [int .i64 a1.Width, int .i64 a1.Height, int .i64 a1.Columns, int .i64 a1.Gap, int .i64 a1.Scale, int .i64 a1.Lang, slice none 0 0, slice A292 x287.notes.length c293, slice (some ⟨g327, 0, none⟩) 1 1]) ze67 pl67 z z<|bxk hI330 z z fun g332 wd333 hI334=>stk hI334 5 ag58 z z z z z z z fun wd335 hI336=>nl<|hK325 _ _ _<|wx<|have hI337:=Hp.emp hI336;have hI339:=Hp.emp hI337;have hI353:=Hp.pick 17 [4, 6, 7, 8, 9, 10, 2, 1, 0, 3, 15, 16] hI339 z;?_
 cases H
 exact ⟨(.inr ⟨_, z, z⟩), _, _, gR, ⟨A169, c170, A176, c177, g332, none, 0, A292, c293, (some ⟨g327, 0, none⟩), 1, 1, G283, hG284, z, hl171, hD172, ho173, hl178, hD179, ho180, ⟨(show ([] : List api_Slice).length ≤ 0 from Nat.le_refl 0), (Dat.nil _ _ _), Own.nil, hl294, hD295, (fun h => nomatch h), z, (Mw.new (α := Int) g327 1 1), tv⟩, gR, tv⟩, hI353⟩
 refine nK h323 H fun H=>wf (bN h323)<|ws<|hK320 _ _ _<|sQ fun K354 hK355=>sr fun K356 hK357=>ld hI304 4 ag57 z z z<|q_len so57 z<|asn z<|nl<|hK357 _ _ _<|sQ fun K358 hK359=>bK2 H fun v360 v361 hC H=>?_
 refine wpc_mono (Q := fun e r ds w => e = .normal ∧ ∃ (g363 : Nat) (A365 : Option Addr) (c366 : Nat) (A369 : Option Addr) (c370 : Nat) (A381 : Option Addr) (n382 : Nat) (c383 : Nat) (Gr388 : Gh) (G390 : Gh), ds = [] ∧ G283 ≤ G390 ∧ Has [(3, pointer (some ⟨g15, 0, none⟩)), (9, pointer (some ⟨g58, 0, none⟩)), (10, pointer (some ⟨g64, 0, none⟩)), (11, pointer (some ⟨g70, 0, none⟩)), (12, pointer (some ⟨g299, 0, none⟩)), (59, bool v360)] r ∧ Hp G390 (Bs :: bx g299 [slice A288 x287.slices.length c289, slice A292 x287.notes.length c293, int .i64 x287.end_] 64 :: bx g70 [func (.func 22) [].toArray [pointer (some ⟨g64, 0, none⟩), pointer (some ⟨g52, 0, none⟩)].toArray] 1 :: bx g64 [oV v361 g363] 58 :: bx g58 [slice A169 v168.length c170] 57 :: bx g52 [slice A176 v175.length c177] 28 :: bx g15 [int .i64 a1.Width, int .i64 a1.Height, int .i64 a1.Columns, int .i64 a1.Gap, int .i64 a1.Scale, int .i64 a1.Lang] 23 :: oI v361 (fun (x362 : pages_open) => bx g363 [int .i64 x362.sheet.Paper.Width, int .i64 x362.sheet.Paper.Height, int .i64 x362.sheet.Paper.Columns, int .i64 x362.sheet.Paper.Gap, int .i64 x362.sheet.Paper.Scale, int .i64 x362.sheet.Paper.Lang, slice A365 x362.placed.length c366, slice A369 x362.notes.length c370, slice A381 n382 c383] 67) :: oI v361 (fun (x362 : pages_open) => tk (slice A365 x362.placed.length c366) 8 36) :: oI v361 (fun (x362 : pages_open) => tk (slice A369 x362.notes.length c370) 8 36) :: oI v361 (fun (x362 : pages_open) => rwI Gr388 (Kd.int .i64) A381 [] x362.fills [] c383 3) :: tk (slice A169 v168.length c170) 3 64 :: tk (slice A176 v175.length c177) 2 34 :: ((List.map mkI (gd102 :: ([] : List Nat)) ++ L) ++ M)) w ∧ oF v361 (fun (x362 : pages_open) => x362.placed.length ≤ c366 ∧ Dat k_api_Slice G390 A365 x362.placed ∧ Own A365 c366 ∧ x362.notes.length ≤ c370 ∧ Dat k_api_Slice G390 A369 x362.notes ∧ Own A369 c370 ∧ x362.fills.length = n382 ∧ Mw A381 A381 ([] : List Int).length n382 c383 c383 1 ∧ True) ∧ Gr388 ≤ G390 ∧ True) ?_ ?_
 refine have H:=hC;?_
 rcases v140 with _ | x141
 refine wpc_drawL [0, 1, 3, 7, 7, 7, 39, 7, 7, 263, 903, 1927, 3975, 8167, 16359, 32767, 65535, 131071] (fun D r w => (∃ (G' : Gh), G283 ≤ G' ∧ Regs [(3, pointer (some ⟨g15, 0, none⟩)), (9, pointer (some ⟨g58, 0, none⟩)), (10, pointer (some ⟨g64, 0, none⟩)), (11, pointer (some ⟨g70, 0, none⟩)), (12, pointer (some ⟨g299, 0, none⟩))] [] [(0, 42, pointer none), (1, 43, bool true), (2, 44, bool true), (3, 45, undef), (4, 46, undef), (5, 47, undef), (6, 48, undef), (7, 49, undef), (8, 50, undef), (9, 51, undef), (10, 52, undef), (11, 53, undef), (12, 54, undef), (13, 55, undef), (14, 56, undef), (15, 57, undef), (16, 58, undef), (17, 59, bool true)] D r ∧ Hp G' (Bs :: bx g299 [slice A288 x287.slices.length c289, slice A292 x287.notes.length c293, int .i64 x287.end_] 64 :: bx g70 [func (.func 22) [].toArray [pointer (some ⟨g64, 0, none⟩), pointer (some ⟨g52, 0, none⟩)].toArray] 1 :: bx g64 [pointer none] 58 :: bx g58 [slice A169 v168.length c170] 57 :: bx g52 [slice A176 v175.length c177] 28 :: bx g15 [int .i64 a1.Width, int .i64 a1.Height, int .i64 a1.Columns, int .i64 a1.Gap, int .i64 a1.Scale, int .i64 a1.Lang] 23 :: emp :: emp :: emp :: emp :: tk (slice A169 v168.length c170) 3 64 :: tk (slice A176 v175.length c177) 2 34 :: ((List.map mkI (gd102 :: ([] : List Nat)) ++ L) ++ M)) w)) mixo z z ?_ ?_ ?_
 exact ⟨_, Gh.le_refl _, Regs.start ⟨z, z, z, z, z, tv⟩ trivial, hI304.drew⟩
 refine ⟨?_, ?_, ?_, ?_, ?_, ?_, ?_, ?_, ?_, ?_, ?_, ?_, ?_, ?_, ?_, ?_, ?_, ?_, tv⟩
 rintro D r wd399 ⟨G395, hG396, hReg398, hI397⟩ hDi hpre hpost
 obtain ⟨r0, rfl⟩ := Has.ex (cC (hReg398.ins.get 2 rfl) cN)
 exact ld hI397 3 ag58 z z z<|nl ⟨z, ⟨_, hG396, (Regs.step hReg398 hDi z z z z), hI397⟩⟩
 rintro D r wd399 ⟨G395, hG396, hReg398, hI397⟩ hDi hpre hpost
 obtain ⟨r0, rfl⟩ := Has.ex (cC (hReg398.get 0 rfl (hpre 0 rfl)) cN)
 exact q_ptq_eql_y so58 z z<|nl ⟨z, ⟨_, hG396, (Regs.step hReg398 hDi z z z z), hI397⟩⟩
 rintro D r wd399 ⟨G395, hG396, hReg398, hI397⟩ hDi hpre hpost
 obtain ⟨r0, rfl⟩ := Has.ex (cC (hReg398.get 1 rfl (hpre 1 rfl)) cN)
 exact mv z<|nl ⟨z, ⟨_, hG396, (Regs.step hReg398 hDi z z z z), hI397⟩⟩
 rintro D r wd399 ⟨G395, hG396, hReg398, hI397⟩ hDi hpre hpost
 obtain ⟨r0, rfl⟩ := Has.ex (cC (hReg398.get 2 rfl (hpre 2 rfl)) cN)
 exact wN (gN z z z z z)<|nl ⟨z, ⟨_, hG396, (Regs.step hReg398 hDi z z z z), hI397⟩⟩
 rintro D r wd399 ⟨G395, hG396, hReg398, hI397⟩ hDi hpre hpost
 obtain ⟨r0, rfl⟩ := Has.ex (cC (hReg398.get 2 rfl (hpre 2 rfl)) cN)
 exact wN (gN z z z z z)<|nl ⟨z, ⟨_, hG396, (Regs.step hReg398 hDi z z z z), hI397⟩⟩
 rintro D r wd399 ⟨G395, hG396, hReg398, hI397⟩ hDi hpre hpost
 obtain ⟨r0, rfl⟩ := Has.ex (cC (hReg398.get 2 rfl (hpre 2 rfl)) cN)
 exact wN (gN z z z z z)<|nl ⟨z, ⟨_, hG396, (Regs.step hReg398 hDi z z z z), hI397⟩⟩
 rintro D r wd399 ⟨G395, hG396, hReg398, hI397⟩ hDi hpre hpost
 obtain ⟨r0, rfl⟩ := Has.ex (cC (hReg398.get 2 rfl (hpre 2 rfl)) cN)
 exact wN (gN z z z z z)<|nl ⟨z, ⟨_, hG396, (Regs.step hReg398 hDi z z z z), hI397⟩⟩
 rintro D r wd399 ⟨G395, hG396, hReg398, hI397⟩ hDi hpre hpost
 obtain ⟨r0, rfl⟩ := Has.ex (cC (hReg398.get 2 rfl (hpre 2 rfl)) cN)
 exact wN (gN z z z z z)<|nl ⟨z, ⟨_, hG396, (Regs.step hReg398 hDi z z z z), hI397⟩⟩
 rintro D r wd399 ⟨G395, hG396, hReg398, hI397⟩ hDi hpre hpost
 obtain ⟨r0, rfl⟩ := Has.ex (cC (hReg398.get 2 rfl (hpre 2 rfl)) cN)
 exact wN (gN z z z z z)<|nl ⟨z, ⟨_, hG396, (Regs.step hReg398 hDi z z z z), hI397⟩⟩
 rintro D r wd399 ⟨G395, hG396, hReg398, hI397⟩ hDi hpre hpost
 obtain ⟨r0, rfl⟩ := Has.ex (cC (hReg398.get 2 rfl (hpre 2 rfl)) cN)
 exact wN (gN z z z z z)<|nl ⟨z, ⟨_, hG396, (Regs.step hReg398 hDi z z z z), hI397⟩⟩
 rintro D r wd399 ⟨G395, hG396, hReg398, hI397⟩ hDi hpre hpost
 obtain ⟨r0, rfl⟩ := Has.ex (cC (hReg398.get 2 rfl (hpre 2 rfl)) cN)
 exact wN (gN z z z z z)<|nl ⟨z, ⟨_, hG396, (Regs.step hReg398 hDi z z z z), hI397⟩⟩
 rintro D r wd399 ⟨G395, hG396, hReg398, hI397⟩ hDi hpre hpost
 obtain ⟨r0, rfl⟩ := Has.ex (cC (hReg398.get 2 rfl (hpre 2 rfl)) cN)
 exact wN (gN z z z z z)<|nl ⟨z, ⟨_, hG396, (Regs.step hReg398 hDi z z z z), hI397⟩⟩
 rintro D r wd399 ⟨G395, hG396, hReg398, hI397⟩ hDi hpre hpost
 obtain ⟨r0, rfl⟩ := Has.ex (cC (hReg398.get 2 rfl (hpre 2 rfl)) cN)
 exact wN (gN z z z z z)<|nl ⟨z, ⟨_, hG396, (Regs.step hReg398 hDi z z z z), hI397⟩⟩
 rintro D r wd399 ⟨G395, hG396, hReg398, hI397⟩ hDi hpre hpost
 obtain ⟨r0, rfl⟩ := Has.ex (cC (hReg398.get 2 rfl (hpre 2 rfl)) cN)
 exact wN (gN z z z z z)<|nl ⟨z, ⟨_, hG396, (Regs.step hReg398 hDi z z z z), hI397⟩⟩
 rintro D r wd399 ⟨G395, hG396, hReg398, hI397⟩ hDi hpre hpost
 obtain ⟨r0, rfl⟩ := Has.ex (cC (hReg398.get 2 rfl (hpre 2 rfl)) cN)
 exact wN (gN z z z z z)<|nl ⟨z, ⟨_, hG396, (Regs.step hReg398 hDi z z z z), hI397⟩⟩
 rintro D r wd399 ⟨G395, hG396, hReg398, hI397⟩ hDi hpre hpost
 obtain ⟨r0, rfl⟩ := Has.ex (cC (hReg398.get 2 rfl (hpre 2 rfl)) cN)
 exact wN (gN z z z z z)<|nl ⟨z, ⟨_, hG396, (Regs.step hReg398 hDi z z z z), hI397⟩⟩
 rintro D r wd399 ⟨G395, hG396, hReg398, hI397⟩ hDi hpre hpost
 obtain ⟨r0, rfl⟩ := Has.ex (cC (hReg398.get 2 rfl (hpre 2 rfl)) cN)
 exact wN (gN z z z z z)<|nl ⟨z, ⟨_, hG396, (Regs.step hReg398 hDi z z z z), hI397⟩⟩
 rintro D r wd399 ⟨G395, hG396, hReg398, hI397⟩ hDi hpre hpost
 obtain ⟨r0, rfl⟩ := Has.ex (cC (hReg398.get 2 rfl (hpre 2 rfl)) (cC (hReg398.get 16 rfl (hpre 16 rfl)) cN))
 exact pkt z z<|nl ⟨z, ⟨_, hG396, (Regs.step hReg398 hDi z z z z), hI397⟩⟩
 intro D r wd399 hall hR
 obtain ⟨G395, hG396, hReg398, hI397⟩ := hR
 obtain ⟨r0, rfl⟩ := Has.ex (cC (hReg398.ins.get 0 rfl) (cC (hReg398.ins.get 1 rfl) (cC (hReg398.ins.get 2 rfl) (cC (hReg398.ins.get 3 rfl) (cC (hReg398.ins.get 4 rfl) (cC (hReg398.get 17 rfl (hall 17 (Nat.le_of_ble_eq_true rfl))) cN))))))
 refine have hI400:=Hp.emp hI397;have hI402:=Hp.emp hI400;have hI404:=Hp.emp hI402;have hI406:=Hp.emp hI404;have hI421:=Hp.pick 17 [4, 5, 6, 7, 8, 9, 10, 3, 2, 1, 0, 15, 16] hI406 z;?_
 cases H
 exact ⟨z, 0, none, 0, none, 0, none, 0, 0, G395, _, z, hG396, ⟨z, z, z, z, z, z, tv⟩, hI421, trivial, gR, tv⟩
 obtain ⟨hl146, hD147, ho156, hl150, hD151, ho158, hn164, hM165, _⟩ := hO167
 refine iK H fun h871 H=>?_
 subst h871
 refine bK H fun y426 hy611 H=>iK H fun⟨h622, h622'⟩H=>?_
 obtain ⟨ad623, cs624, hA625, hK626, hn627, hc628⟩ := Dat.get hD172 z_pages_band (w64 ((v168.length : Int) - 1)) h622 h622'
 obtain ⟨A629, c630, hl631, hD632, A633, c634, hl635, hD636, rfl⟩ := open_pages_band hK626
 refine bK2 H fun y641 y642 hy826 H=>?_
 refine wpc_drawL [0, 1, 3, 7, 7, 7, 39, 7, 7, 263, 903, 1927, 3975, 8167, 16359, 32767, 65535, 131071] (fun D r w => (D 15 = false ∧ ∃ (G' : Gh), G283 ≤ G' ∧ Regs [(3, pointer (some ⟨g15, 0, none⟩)), (9, pointer (some ⟨g58, 0, none⟩)), (10, pointer (some ⟨g64, 0, none⟩)), (11, pointer (some ⟨g70, 0, none⟩)), (12, pointer (some ⟨g299, 0, none⟩)), (13, int .i64 (v168.length : Int))] [] [(0, 42, pointer (some ⟨g142, 0, none⟩)), (1, 43, bool false), (2, 44, bool false), (3, 45, pointer (some ⟨g142, 0, none⟩)), (4, 46, agg [slice A288 x287.slices.length c289, slice A292 x287.notes.length c293, int .i64 x287.end_].toArray), (5, 47, agg [slice A288 x287.slices.length c289, slice A292 x287.notes.length c293, int .i64 x287.end_].toArray), (6, 48, int .i64 y426), (7, 49, slice A169 v168.length c170), (8, 50, int .i64 (v168.length : Int)), (9, 51, int .i64 (w64 ((v168.length : Int) - 1))), (10, 52, pointer (some (ad623.add (Int.toNat (w64 ((v168.length : Int) - 1)) * 3)))), (11, 53, pointer (some ((ad623.add (Int.toNat (w64 ((v168.length : Int) - 1)) * 3)).add 2))), (12, 54, int .i64 ((v168.getD (Int.toNat (w64 ((v168.length : Int) - 1))) z_pages_band).end_)), (13, 55, int .i64 (w64 (y426 - ((v168.getD (Int.toNat (w64 ((v168.length : Int) - 1))) z_pages_band).end_)))), (14, 56, int .i64 (max 0 (w64 (y426 - ((v168.getD (Int.toNat (w64 ((v168.length : Int) - 1))) z_pages_band).end_)))))] D r ∧ Hp G' (Bs :: bx g299 [slice A288 x287.slices.length c289, slice A292 x287.notes.length c293, int .i64 x287.end_] 64 :: bx g70 [func (.func 22) [].toArray [pointer (some ⟨g64, 0, none⟩), pointer (some ⟨g52, 0, none⟩)].toArray] 1 :: bx g64 [pointer (some ⟨g142, 0, none⟩)] 58 :: bx g58 [slice A169 v168.length c170] 57 :: bx g52 [slice A176 v175.length c177] 28 :: bx g15 [int .i64 a1.Width, int .i64 a1.Height, int .i64 a1.Columns, int .i64 a1.Gap, int .i64 a1.Scale, int .i64 a1.Lang] 23 :: bx g142 [int .i64 x141.sheet.Paper.Width, int .i64 x141.sheet.Paper.Height, int .i64 x141.sheet.Paper.Columns, int .i64 x141.sheet.Paper.Gap, int .i64 x141.sheet.Paper.Scale, int .i64 x141.sheet.Paper.Lang, slice A144 x141.placed.length c145, slice A148 x141.notes.length c149, slice A161 n162 c163] 67 :: tk (slice A144 x141.placed.length c145) 8 36 :: tk (slice A148 x141.notes.length c149) 8 36 :: rwI Gr182 (Kd.int .i64) A161 [] x141.fills [] c163 3 :: tk (slice A169 v168.length c170) 3 64 :: tk (slice A176 v175.length c177) 2 34 :: ((List.map mkI (gd102 :: ([] : List Nat)) ++ L) ++ M)) w) ∨ (D 15 = true ∧ ∃ (A643 : Option Addr) (c644 : Nat) (A647 : Option Addr) (c648 : Nat) (A659 : Option Addr) (n660 : Nat) (c661 : Nat) (G637 : Gh) (G' : Gh), G283 ≤ G' ∧ y642.placed.length ≤ c644 ∧ Dat k_api_Slice G' A643 y642.placed ∧ Own A643 c644 ∧ y642.notes.length ≤ c648 ∧ Dat k_api_Slice G' A647 y642.notes ∧ Own A647 c648 ∧ y642.fills.length = n660 ∧ Mw A659 A659 ([] : List Int).length n660 c661 c661 1 ∧ G637 ≤ G' ∧ Regs [(3, pointer (some ⟨g15, 0, none⟩)), (9, pointer (some ⟨g58, 0, none⟩)), (10, pointer (some ⟨g64, 0, none⟩)), (11, pointer (some ⟨g70, 0, none⟩)), (12, pointer (some ⟨g299, 0, none⟩)), (13, int .i64 (v168.length : Int))] [] [(0, 42, pointer (some ⟨g142, 0, none⟩)), (1, 43, bool false), (2, 44, bool false), (3, 45, pointer (some ⟨g142, 0, none⟩)), (4, 46, agg [slice A288 x287.slices.length c289, slice A292 x287.notes.length c293, int .i64 x287.end_].toArray), (5, 47, agg [slice A288 x287.slices.length c289, slice A292 x287.notes.length c293, int .i64 x287.end_].toArray), (6, 48, int .i64 y426), (7, 49, slice A169 v168.length c170), (8, 50, int .i64 (v168.length : Int)), (9, 51, int .i64 (w64 ((v168.length : Int) - 1))), (10, 52, pointer (some (ad623.add (Int.toNat (w64 ((v168.length : Int) - 1)) * 3)))), (11, 53, pointer (some ((ad623.add (Int.toNat (w64 ((v168.length : Int) - 1)) * 3)).add 2))), (12, 54, int .i64 ((v168.getD (Int.toNat (w64 ((v168.length : Int) - 1))) z_pages_band).end_)), (13, 55, int .i64 (w64 (y426 - ((v168.getD (Int.toNat (w64 ((v168.length : Int) - 1))) z_pages_band).end_)))), (14, 56, int .i64 (max 0 (w64 (y426 - ((v168.getD (Int.toNat (w64 ((v168.length : Int) - 1))) z_pages_band).end_))))), (15, 57, bool y641), (16, 58, bool (!y641)), (17, 59, bool (!y641))] D r ∧ Hp G' (bx g142 [int .i64 y642.sheet.Paper.Width, int .i64 y642.sheet.Paper.Height, int .i64 y642.sheet.Paper.Columns, int .i64 y642.sheet.Paper.Gap, int .i64 y642.sheet.Paper.Scale, int .i64 y642.sheet.Paper.Lang, slice A643 y642.placed.length c644, slice A647 y642.notes.length c648, slice A659 n660 c661] 67 :: tk (slice A643 y642.placed.length c644) 8 36 :: tk (slice A647 y642.notes.length c648) 8 36 :: rwI G637 (Kd.int .i64) A659 [] y642.fills [] c661 3 :: Bs :: bx g299 [slice A288 x287.slices.length c289, slice A292 x287.notes.length c293, int .i64 x287.end_] 64 :: bx g70 [func (.func 22) [].toArray [pointer (some ⟨g64, 0, none⟩), pointer (some ⟨g52, 0, none⟩)].toArray] 1 :: bx g64 [pointer (some ⟨g142, 0, none⟩)] 58 :: bx g58 [slice A169 v168.length c170] 57 :: bx g52 [slice A176 v175.length c177] 28 :: bx g15 [int .i64 a1.Width, int .i64 a1.Height, int .i64 a1.Columns, int .i64 a1.Gap, int .i64 a1.Scale, int .i64 a1.Lang] 23 :: tk (slice A169 v168.length c170) 3 64 :: tk (slice A176 v175.length c177) 2 34 :: ((List.map mkI (gd102 :: ([] : List Nat)) ++ L) ++ M)) w)) mixo z z ?_ ?_ ?_
 exact (.inl ⟨z, _, Gh.le_refl _, Regs.start ⟨z, z, z, z, z, z, tv⟩ trivial, hI304.drew⟩)
 refine ⟨?_, ?_, ?_, ?_, ?_, ?_, ?_, ?_, ?_, ?_, ?_, ?_, ?_, ?_, ?_, ?_, ?_, ?_, tv⟩
 rintro D r wd856 (⟨hd2, G852, hG853, hReg855, hI854⟩ | ⟨hd1, A643, c644, A647, c648, A659, n660, c661, G637, G852, hG853, hl645, hD646, ho655, hl649, hD650, ho657, hn662, hM663, hGr851, hReg855, hI854⟩) hDi hpre hpost
 obtain ⟨r0, rfl⟩ := Has.ex (cC (hReg855.ins.get 2 rfl) cN)
 exact ld hI854 3 ag58 z z z<|nl ⟨z, (.inl ⟨hd2, _, hG853, (Regs.step hReg855 hDi z z z z), hI854⟩)⟩
 cases (hpost 15 rfl).symm.trans hd1
 rintro D r wd856 (⟨hd2, G852, hG853, hReg855, hI854⟩ | ⟨hd1, A643, c644, A647, c648, A659, n660, c661, G637, G852, hG853, hl645, hD646, ho655, hl649, hD650, ho657, hn662, hM663, hGr851, hReg855, hI854⟩) hDi hpre hpost
 obtain ⟨r0, rfl⟩ := Has.ex (cC (hReg855.get 0 rfl (hpre 0 rfl)) cN)
 exact q_ptq_eql_n so58 z z<|nl ⟨z, (.inl ⟨hd2, _, hG853, (Regs.step hReg855 hDi z z z z), hI854⟩)⟩
 cases (hpost 15 rfl).symm.trans hd1
 rintro D r wd856 (⟨hd2, G852, hG853, hReg855, hI854⟩ | ⟨hd1, A643, c644, A647, c648, A659, n660, c661, G637, G852, hG853, hl645, hD646, ho655, hl649, hD650, ho657, hn662, hM663, hGr851, hReg855, hI854⟩) hDi hpre hpost
 obtain ⟨r0, rfl⟩ := Has.ex (cC (hReg855.get 1 rfl (hpre 1 rfl)) cN)
 exact mv z<|nl ⟨z, (.inl ⟨hd2, _, hG853, (Regs.step hReg855 hDi z z z z), hI854⟩)⟩
 cases (hpost 15 rfl).symm.trans hd1
 rintro D r wd856 (⟨hd2, G852, hG853, hReg855, hI854⟩ | ⟨hd1, A643, c644, A647, c648, A659, n660, c661, G637, G852, hG853, hl645, hD646, ho655, hl649, hD650, ho657, hn662, hM663, hGr851, hReg855, hI854⟩) hDi hpre hpost
 obtain ⟨r0, rfl⟩ := Has.ex (cC (hReg855.ins.get 2 rfl) (cC (hReg855.get 2 rfl (hpre 2 rfl)) cN))
 exact ld (hw:=gY z z z z) hI854 3 ag58 z z z<|nl ⟨z, (.inl ⟨hd2, _, hG853, (Regs.step hReg855 hDi z z z z), hI854⟩)⟩
 cases (hpost 15 rfl).symm.trans hd1
 rintro D r wd856 (⟨hd2, G852, hG853, hReg855, hI854⟩ | ⟨hd1, A643, c644, A647, c648, A659, n660, c661, G637, G852, hG853, hl645, hD646, ho655, hl649, hD650, ho657, hn662, hM663, hGr851, hReg855, hI854⟩) hDi hpre hpost
 obtain ⟨r0, rfl⟩ := Has.ex (cC (hReg855.ins.get 4 rfl) (cC (hReg855.get 2 rfl (hpre 2 rfl)) cN))
 exact lda (hw:=gY z z z z) hI854 1 ag64 z z z z<|nl ⟨z, (.inl ⟨hd2, _, hG853, (Regs.step hReg855 hDi z z z z), hI854⟩)⟩
 cases (hpost 15 rfl).symm.trans hd1
 rintro D r wd856 (⟨hd2, G852, hG853, hReg855, hI854⟩ | ⟨hd1, A643, c644, A647, c648, A659, n660, c661, G637, G852, hG853, hl645, hD646, ho655, hl649, hD650, ho657, hn662, hM663, hGr851, hReg855, hI854⟩) hDi hpre hpost
 obtain ⟨r0, rfl⟩ := Has.ex (cC (hReg855.ins.get 4 rfl) (cC (hReg855.get 2 rfl (hpre 2 rfl)) cN))
 exact lda (hw:=gY z z z z) hI854 1 ag64 z z z z<|nl ⟨z, (.inl ⟨hd2, _, hG853, (Regs.step hReg855 hDi z z z z), hI854⟩)⟩
 cases (hpost 15 rfl).symm.trans hd1
 rintro D r wd856 (⟨hd2, G852, hG853, hReg855, hI854⟩ | ⟨hd1, A643, c644, A647, c648, A659, n660, c661, G637, G852, hG853, hl645, hD646, ho655, hl649, hD650, ho657, hn662, hM663, hGr851, hReg855, hI854⟩) hDi hpre hpost
 obtain ⟨r0, rfl⟩ := Has.ex (cC (hReg855.get 2 rfl (hpre 2 rfl)) (cC (hReg855.get 5 rfl (hpre 5 rfl)) cN))
 exact cv (hw:=gY z z z z) bo26 (pages_band_top_spec hy611 hI854 hl290 (Dat.mono hG853 hD291) hl294 (Dat.mono hG853 hD295)) z z fun wd424 hI425=>nl ⟨z, (.inl ⟨hd2, _, hG853, (Regs.step hReg855 hDi z z z z), hI425⟩)⟩
 cases (hpost 15 rfl).symm.trans hd1
 rintro D r wd856 (⟨hd2, G852, hG853, hReg855, hI854⟩ | ⟨hd1, A643, c644, A647, c648, A659, n660, c661, G637, G852, hG853, hl645, hD646, ho655, hl649, hD650, ho657, hn662, hM663, hGr851, hReg855, hI854⟩) hDi hpre hpost
 obtain ⟨r0, rfl⟩ := Has.ex (cC (hReg855.ins.get 1 rfl) (cC (hReg855.get 2 rfl (hpre 2 rfl)) cN))
 exact ld (hw:=gY z z z z) hI854 4 ag57 z z z<|nl ⟨z, (.inl ⟨hd2, _, hG853, (Regs.step hReg855 hDi z z z z), hI854⟩)⟩
 cases (hpost 15 rfl).symm.trans hd1
 rintro D r wd856 (⟨hd2, G852, hG853, hReg855, hI854⟩ | ⟨hd1, A643, c644, A647, c648, A659, n660, c661, G637, G852, hG853, hl645, hD646, ho655, hl649, hD650, ho657, hn662, hM663, hGr851, hReg855, hI854⟩) hDi hpre hpost
 obtain ⟨r0, rfl⟩ := Has.ex (cC (hReg855.ins.get 5 rfl) (cC (hReg855.get 2 rfl (hpre 2 rfl)) cN))
 exact mv (hw:=gY z z z z) z<|nl ⟨z, (.inl ⟨hd2, _, hG853, (Regs.step hReg855 hDi z z z z), hI854⟩)⟩
 cases (hpost 15 rfl).symm.trans hd1
 rintro D r wd856 (⟨hd2, G852, hG853, hReg855, hI854⟩ | ⟨hd1, A643, c644, A647, c648, A659, n660, c661, G637, G852, hG853, hl645, hD646, ho655, hl649, hD650, ho657, hn662, hM663, hGr851, hReg855, hI854⟩) hDi hpre hpost
 obtain ⟨r0, rfl⟩ := Has.ex (cC (hReg855.get 2 rfl (hpre 2 rfl)) (cC (hReg855.get 8 rfl (hpre 8 rfl)) cN))
 exact q_sub (hw:=gY z z z z) z z<|nl ⟨z, (.inl ⟨hd2, _, hG853, (Regs.step hReg855 hDi z z z z), hI854⟩)⟩
 cases (hpost 15 rfl).symm.trans hd1
 rintro D r wd856 (⟨hd2, G852, hG853, hReg855, hI854⟩ | ⟨hd1, A643, c644, A647, c648, A659, n660, c661, G637, G852, hG853, hl645, hD646, ho655, hl649, hD650, ho657, hn662, hM663, hGr851, hReg855, hI854⟩) hDi hpre hpost
 obtain ⟨r0, rfl⟩ := Has.ex (cC (hReg855.get 2 rfl (hpre 2 rfl)) (cC (hReg855.get 7 rfl (hpre 7 rfl)) (cC (hReg855.get 9 rfl (hpre 9 rfl)) cN)))
 exact q_ia (hw:=gY z z z z) el57 z hA625 z h622 h622'<|nl ⟨z, (.inl ⟨hd2, _, hG853, (Regs.step hReg855 hDi z z z z), hI854⟩)⟩
 cases (hpost 15 rfl).symm.trans hd1
 rintro D r wd856 (⟨hd2, G852, hG853, hReg855, hI854⟩ | ⟨hd1, A643, c644, A647, c648, A659, n660, c661, G637, G852, hG853, hl645, hD646, ho655, hl649, hD650, ho657, hn662, hM663, hGr851, hReg855, hI854⟩) hDi hpre hpost
 obtain ⟨r0, rfl⟩ := Has.ex (cC (hReg855.get 2 rfl (hpre 2 rfl)) (cC (hReg855.get 10 rfl (hpre 10 rfl)) cN))
 exact q_fa (hw:=gY z z z z) fl64_2 z z<|nl ⟨z, (.inl ⟨hd2, _, hG853, (Regs.step hReg855 hDi z z z z), hI854⟩)⟩
 cases (hpost 15 rfl).symm.trans hd1
 rintro D r wd856 (⟨hd2, G852, hG853, hReg855, hI854⟩ | ⟨hd1, A643, c644, A647, c648, A659, n660, c661, G637, G852, hG853, hl645, hD646, ho655, hl649, hD650, ho657, hn662, hM663, hGr851, hReg855, hI854⟩) hDi hpre hpost
 obtain ⟨r0, rfl⟩ := Has.ex (cC (hReg855.get 2 rfl (hpre 2 rfl)) (cC (hReg855.get 11 rfl (hpre 11 rfl)) cN))
 exact q_lf (hw:=gY z z z z) hI854 ag3 z (hG853.cel _ _ (hc628 2 _ z))<|nl ⟨z, (.inl ⟨hd2, _, hG853, (Regs.step hReg855 hDi z z z z), hI854⟩)⟩
 cases (hpost 15 rfl).symm.trans hd1
 rintro D r wd856 (⟨hd2, G852, hG853, hReg855, hI854⟩ | ⟨hd1, A643, c644, A647, c648, A659, n660, c661, G637, G852, hG853, hl645, hD646, ho655, hl649, hD650, ho657, hn662, hM663, hGr851, hReg855, hI854⟩) hDi hpre hpost
 obtain ⟨r0, rfl⟩ := Has.ex (cC (hReg855.get 2 rfl (hpre 2 rfl)) (cC (hReg855.get 6 rfl (hpre 6 rfl)) (cC (hReg855.get 12 rfl (hpre 12 rfl)) cN)))
 exact q_sub (hw:=gY z z z z) z z<|nl ⟨z, (.inl ⟨hd2, _, hG853, (Regs.step hReg855 hDi z z z z), hI854⟩)⟩
 cases (hpost 15 rfl).symm.trans hd1
 rintro D r wd856 (⟨hd2, G852, hG853, hReg855, hI854⟩ | ⟨hd1, A643, c644, A647, c648, A659, n660, c661, G637, G852, hG853, hl645, hD646, ho655, hl649, hD650, ho657, hn662, hM663, hGr851, hReg855, hI854⟩) hDi hpre hpost
 obtain ⟨r0, rfl⟩ := Has.ex (cC (hReg855.get 2 rfl (hpre 2 rfl)) (cC (hReg855.get 13 rfl (hpre 13 rfl)) cN))
 exact q_max (hw:=gY z z z z) z z<|nl ⟨z, (.inl ⟨hd2, _, hG853, (Regs.step hReg855 hDi z z z z), hI854⟩)⟩
 cases (hpost 15 rfl).symm.trans hd1
 rintro D r wd856 (⟨hd2, G852, hG853, hReg855, hI854⟩ | ⟨hd1, A643, c644, A647, c648, A659, n660, c661, G637, G852, hG853, hl645, hD646, ho655, hl649, hD650, ho657, hn662, hM663, hGr851, hReg855, hI854⟩) hDi hpre hpost
 obtain ⟨r0, rfl⟩ := Has.ex (cC (hReg855.get 2 rfl (hpre 2 rfl)) (cC (hReg855.get 3 rfl (hpre 3 rfl)) (cC (hReg855.get 4 rfl (hpre 4 rfl)) (cC (hReg855.get 14 rfl (hpre 14 rfl)) cN))))
 refine have hI837:=Hp.rwUp hI854 10 z (gT hGr183 hG853);have hI850:=Hp.pick 13 [7, 8, 9, 10, 0, 1, 2, 3, 4, 5, 6, 11, 12] hI837 z;q_cv (hw:=gY z z z z) (vs := [pointer (some ⟨g142, 0, none⟩), agg [slice A288 x287.slices.length c289, slice A292 x287.notes.length c293, int .i64 x287.end_].toArray, int .i64 (max 0 (w64 (y426 - ((v168.getD (Int.toNat (w64 ((v168.length : Int) - 1))) z_pages_band).end_))))]) bo25 z z (pages_open_take_k1_spec hy826 hI850 hl146 (Dat.mono hG853 hD147) ho156 hl150 (Dat.mono hG853 hD151) (ho158 z) hn164 hM165 hl290 (Dat.mono hG853 hD291) hl294 (Dat.mono hG853 hD295))<|?_
 rintro _ wd639 ⟨A643, c644, A647, c648, A659, n660, c661, G637, hG638, hI640, hl645, hD646, ho655, hl649, hD650, ho657, hn662, hM663, rfl⟩
 refine ⟨_, rfl, ?_⟩
 exact nl ⟨z, (.inr ⟨z, A643, c644, A647, c648, A659, n660, c661, G637, _, (gT hG853 hG638), hl645, hD646, ho655, hl649, hD650, ho657, hn662, hM663, gR, (Regs.step (Regs.more (new := [(15, 57, bool y641), (16, 58, bool (!y641)), (17, 59, bool (!y641))]) hReg855 (List.forall_mem_cons.2 ⟨hDi, (List.forall_mem_cons.2 ⟨hpost 16 z, (List.forall_mem_cons.2 ⟨hpost 17 z, (fun _ h => nomatch h)⟩)⟩)⟩)) hDi z z z z), hI640⟩)⟩
 cases hDi.symm.trans hd1
 rintro D r wd856 (⟨hd2, G852, hG853, hReg855, hI854⟩ | ⟨hd1, A643, c644, A647, c648, A659, n660, c661, G637, G852, hG853, hl645, hD646, ho655, hl649, hD650, ho657, hn662, hM663, hGr851, hReg855, hI854⟩) hDi hpre hpost
 cases (hpre 15 rfl).symm.trans hd2
 obtain ⟨r0, rfl⟩ := Has.ex (cC (hReg855.get 2 rfl (hpre 2 rfl)) (cC (hReg855.get 15 rfl (hpre 15 rfl)) cN))
 exact q_not (hw:=gY z z z z) z<|nl ⟨z, (.inr ⟨hd1, A643, c644, A647, c648, A659, n660, c661, G637, _, hG853, hl645, hD646, ho655, hl649, hD650, ho657, hn662, hM663, hGr851, (Regs.step hReg855 hDi z z z z), hI854⟩)⟩
 rintro D r wd856 (⟨hd2, G852, hG853, hReg855, hI854⟩ | ⟨hd1, A643, c644, A647, c648, A659, n660, c661, G637, G852, hG853, hl645, hD646, ho655, hl649, hD650, ho657, hn662, hM663, hGr851, hReg855, hI854⟩) hDi hpre hpost
 cases (hpre 15 rfl).symm.trans hd2
 obtain ⟨r0, rfl⟩ := Has.ex (cC (hReg855.get 2 rfl (hpre 2 rfl)) (cC (hReg855.get 16 rfl (hpre 16 rfl)) cN))
 exact pkf z z<|nl ⟨z, (.inr ⟨hd1, A643, c644, A647, c648, A659, n660, c661, G637, _, hG853, hl645, hD646, ho655, hl649, hD650, ho657, hn662, hM663, hGr851, (Regs.step hReg855 hDi z z z z), hI854⟩)⟩
 intro D r wd856 hall hR
 rcases hR with ⟨hd2, G852, hG853, hReg855, hI854⟩ | ⟨hd1, A643, c644, A647, c648, A659, n660, c661, G637, G852, hG853, hl645, hD646, ho655, hl649, hD650, ho657, hn662, hM663, hGr851, hReg855, hI854⟩
 cases (hall 15 (Nat.le_of_ble_eq_true rfl)).symm.trans hd2
 obtain ⟨r0, rfl⟩ := Has.ex (cC (hReg855.ins.get 0 rfl) (cC (hReg855.ins.get 1 rfl) (cC (hReg855.ins.get 2 rfl) (cC (hReg855.ins.get 3 rfl) (cC (hReg855.ins.get 4 rfl) (cC (hReg855.get 17 rfl (hall 17 (Nat.le_of_ble_eq_true rfl))) cN))))))
 refine have hI857:=Hp.rwUp hI854 3 z hGr851;have hI870:=Hp.pick 13 [4, 5, 6, 7, 8, 9, 10, 0, 1, 2, 3, 11, 12] hI857 z;?_
 cases H
 exact ⟨z, g142, A643, c644, A647, c648, A659, n660, c661, G852, _, z, hG853, ⟨z, z, z, z, z, z, tv⟩, hI870, ⟨hl645, hD646, ho655, hl649, hD650, ho657, hn662, hM663, tv⟩, gR, tv⟩
 rintro e r ds wd392 ⟨rfl, g363, A365, c366, A369, c370, A381, n382, c383, Gr388, G390, rfl, hG391, hHas, hI393, hO387, hGr389, _⟩
 rw [hHas.eq]; clear hHas
 refine hK359 _ _ _<|dC (v360 = true) (fun h872=>?_) fun h872=>?_
 refine yK h872 H fun H=>wt (vY h872)<|sr fun K873 hK874=>ld hI393 2 ag1 z z z<|have hI875:=Hp.oUp hI393 10 z hGr389;have hI888:=Hp.pick 13 [3, 7, 8, 9, 10, 5, 12, 0, 1, 2, 4, 6, 11] hI875 z;bK H fun y894 hy889 H=>q_cv (vs := [pointer (some ⟨g64, 0, none⟩), pointer (some ⟨g52, 0, none⟩)]) bo22 z z (pages_Break_1_k2_spec hy889 hI888 hO387 hl178 (Dat.mono hG391 hD179) ho180)<|?_
 rintro _ wd892 ⟨A895, c896, G890, hG891, hI893, hl897, hD898, ho899, rfl⟩
 refine ⟨_, rfl, ?_⟩
 refine nl<|hK874 _ _ _<|wpc_region<|lda hI893 10 ag23 z z z z<|q_build (vs := [(0, agg [int .i64 a1.Width, int .i64 a1.Height, int .i64 a1.Columns, int .i64 a1.Gap, int .i64 a1.Scale, int .i64 a1.Lang].toArray)]) (cs := [int .i64 a1.Width, int .i64 a1.Height, int .i64 a1.Columns, int .i64 a1.Gap, int .i64 a1.Scale, int .i64 a1.Lang]) ze56 pl56 z z<|lda hI893 7 ag64 z z z z<|ld hI893 9 ag57 z z z<|bK H fun y908 hy901 H=>q_cv (vs := [agg [int .i64 a1.Width, int .i64 a1.Height, int .i64 a1.Columns, int .i64 a1.Gap, int .i64 a1.Scale, int .i64 a1.Lang].toArray, agg [slice A288 x287.slices.length c289, slice A292 x287.notes.length c293, int .i64 x287.end_].toArray, slice A169 v168.length c170]) bo27 z z (pages_begin_spec (a1 := (⟨a1⟩ : pages_sheet)) hy901 hI893 hl290 (Dat.mono (gT hG391 hG891) hD291) hl294 (Dat.mono (gT hG391 hG891) hD295) hl171 (Dat.mono (gT hG391 hG891) hD172))<|?_
 rintro _ wd904 ⟨g907, A909, c910, A913, c914, A925, n926, c927, G902, hG903, hI905, hl911, hD912, ho921, hl915, hD916, ho923, hn928, hM929, rfl⟩
 refine ⟨_, rfl, ?_⟩
 refine stk hI905 4 ag58 z z z z z z z fun wd931 hI932=>nl<|hK355 _ _ _<|wpc_region<|ld hI932 13 ag57 z z z<|lda hI932 11 ag64 z z z z<|?_
 refine q_bs hI932 (vs := [(0, agg [slice A288 x287.slices.length c289, slice A292 x287.notes.length c293, int .i64 x287.end_].toArray)]) (cs := [slice A288 x287.slices.length c289, slice A292 x287.notes.length c293, int .i64 x287.end_]) el57 ze64 rfl (by decide) rfl (by kernel_rfl) (fun g934 wd935 hI936 => ?_)
 refine iK H fun h946 H=>?_
 refine q_app (xs := v168) (ys := [x287]) k_pages_band hI936 16 el57 ze64 rfl rfl rfl rfl ho173 hl171 (Dat.mono (gT (gT hG391 hG891) hG903) hD172) (src_bx hI936 0 so57 rfl rfl) ⟨[slice A288 x287.slices.length c289, slice A292 x287.notes.length c293, int .i64 x287.end_], _, rfl, (mk_pages_band (x := x287) hl290 (Dat.mono (gT (gT hG391 hG891) hG903) hD291) hl294 (Dat.mono (gT (gT hG391 hG891) hG903) hD295)), rfl⟩ rfl (by simp only [List.length_cons, List.length_nil]; omega) (by simp only [List.length_cons, List.length_nil]; omega) (fun A937 c938 G939 wd940 hG941 ho942 hl943 hD944 hI945 => ?_)
 refine stk hI945 14 ag57 z z z z z z z fun wd947 hI948=>nl<|have hI949:=Hp.rwUp hI948 4 z hG941;have hI962:=Hp.pick 17 [11, 13, 5, 14, 9, 15, 1, 2, 3, 4, 16, 10] hI949 z;?_
 cases H
 exact ⟨z, _, _, (gT (gT (gT hG391 hG891) hG903) hG941), ⟨A937, c938, A895, c896, g907, A909, c910, A913, c914, A925, n926, c927, G939, (gT (gT (gT (gT hG284 hG391) hG891) hG903) hG941), z, hl943, hD944, ho942, hl897, (Dat.mono (gT hG903 hG941) hD898), ho899, ⟨hl911, (Dat.mono hG941 hD912), ho921, hl915, (Dat.mono hG941 hD916), (fun _ => ho923), hn928, hM929, tv⟩, gR, tv⟩, hI962⟩
 refine nK h872 H fun H=>wf (vN h872)<|ws<|hK355 _ _ _<|wpc_region<|ld hI393 4 ag57 z z z<|lda hI393 1 ag64 z z z z<|?_
 refine q_bs hI393 (vs := [(0, agg [slice A288 x287.slices.length c289, slice A292 x287.notes.length c293, int .i64 x287.end_].toArray)]) (cs := [slice A288 x287.slices.length c289, slice A292 x287.notes.length c293, int .i64 x287.end_]) el57 ze64 rfl (by decide) rfl (by kernel_rfl) (fun g964 wd965 hI966 => ?_)
 refine iK H fun h976 H=>?_
 refine q_app (xs := v168) (ys := [x287]) k_pages_band hI966 12 el57 ze64 rfl rfl rfl rfl ho173 hl171 (Dat.mono hG391 hD172) (src_bx hI966 0 so57 rfl rfl) ⟨[slice A288 x287.slices.length c289, slice A292 x287.notes.length c293, int .i64 x287.end_], _, rfl, (mk_pages_band (x := x287) hl290 (Dat.mono hG391 hD291) hl294 (Dat.mono hG391 hD295)), rfl⟩ rfl (by simp only [List.length_cons, List.length_nil]; omega) (by simp only [List.length_cons, List.length_nil]; omega) (fun A967 c968 G969 wd970 hG971 ho972 hl973 hD974 hI975 => ?_)
 refine stk hI975 5 ag57 z z z z z z z fun wd977 hI978=>nl<|have hI979:=Hp.oUp hI978 11 z (gT hGr389 hG971);have hI992:=Hp.pick 14 [1, 3, 4, 5, 6, 7, 8, 9, 10, 11, 12, 13] hI979 z;?_
 cases H
 exact ⟨z, _, _, (gT hG391 hG971), ⟨A967, c968, A176, c177, g363, A365, c366, A369, c370, A381, n382, c383, G969, (gT (gT hG284 hG391) hG971), z, hl973, hD974, ho972, hl178, (Dat.mono (gT hG391 hG971) hD179), ho180, (oF_mono (fun _ ⟨o0, o1, o2, o3, o4, o5, o6, o7, _⟩ => ⟨o0, Dat.mono hG971 o1, o2, o3, Dat.mono hG971 o4, (fun _ => o5), o6, o7, tv⟩) hO387), gR, tv⟩, hI992⟩)
 refine have hI1103:=Hp.sink (A := [bx g85 [slice A87 y86.length c88] 24, bx g92 [slice A94 y93.length c95] 25]) (K := [bx g70 [func (.func 22) [].toArray [pointer (some ⟨g64, 0, none⟩), pointer (some ⟨g52, 0, none⟩)].toArray] 1, bx g64 [pointer none] 58, bx g58 [slice none 0 0] 57, bx g52 [slice none 0 0] 28, bx g15 [int .i64 a1.Width, int .i64 a1.Height, int .i64 a1.Columns, int .i64 a1.Gap, int .i64 a1.Scale, int .i64 a1.Lang] 23, emp, emp, emp, emp, tk (slice none 0 0) 3 64, tk (slice none 0 0) 2 34]) hI994;(pages_bands_1_k1_spec (sy := (((none : Option pages_open), true, ([] : List pages_band), ([] : List api_Page)), none)) hr996 hI1103 hl89 hD90 hl96 hD97 hY995 ⟨_, z, none, 0, none, 0, 0, none, 0, none, 0, none, 0, 0, G80, Gh.le_refl _, z, (show ([] : List pages_band).length ≤ 0 from Nat.le_refl 0), (Dat.nil _ _ _), Own.nil, (show ([] : List api_Page).length ≤ 0 from Nat.le_refl 0), (Dat.nil _ _ _), Own.nil, trivial, gR, tv⟩).mono<|?_
 rintro _ wd999 ⟨T1003, G997, hG9980, hI1000, ⟨K, rfl, A169, c170, A176, c177, g142, A144, c145, A148, c149, A161, n162, c163, Gr182, hG998, rfl, hl171, hD172, ho173, hl178, hD179, ho180, hO167, hGr183, _⟩, rfl⟩
 refine have hH1005:=Hp.front hI1000 2 z;?_
 rcases jo281 with _ | j
 refine ⟨_, rfl, LoopState.ready, none, G997, _, (fun h => nomatch h), hH1005, fun wd1001 hI1002 => ?_⟩
 refine hK76 _ _ _<|sr fun K1010 hK1011=>ld hI1002 2 ag1 z z z<|have hI1012:=Hp.oUp hI1002 10 z hGr183;have hI1025:=Hp.pick 13 [3, 7, 8, 10, 5, 12, 0, 1, 2, 4, 6, 9, 11] hI1012 z;bK H fun y1031 hy1026 H=>q_cv (vs := [pointer (some ⟨g64, 0, none⟩), pointer (some ⟨g52, 0, none⟩)]) bo22 z z (pages_Break_1_k3_spec hy1026 hI1025 (oF_mono (fun _ ⟨o0, o1, o2, o3, o4, o5, o6, o7, _⟩ => ⟨o0, o1, o2, o3, o4, o6, o7, tv⟩) hO167) hl178 hD179 ho180)<|?_
 rintro _ wd1029 ⟨A1032, c1033, G1027, hG1028, hI1030, hl1034, hD1035, ho1036, rfl⟩
 refine ⟨_, rfl, ?_⟩
 refine nl<|hK1011 _ _ _<|sQ fun K1038 hK1039=>sr fun K1040 hK1041=>ld hI1030 3 ag28 z z z<|q_len so28 z<|q_gtr z z<|nl<|hK1041 _ _ _<|dC (500 < (y1031.length : Int)) (fun h1042=>?_) fun h1042=>?_
 refine yK h1042 H fun H=>wt (bY h1042)<|sr fun K1043 hK1044=>asn z<|asn z<|nl<|hK1044 _ _ _<|wr<|?_
 refine ⟨.inr rfl, (gd102 :: ([] : List Nat)), _, _, rfl, Hp.marks (K := [bx g64 [oV v140 g142] 58, oI v140 (fun (x141 : pages_open) => bx g142 [int .i64 x141.sheet.Paper.Width, int .i64 x141.sheet.Paper.Height, int .i64 x141.sheet.Paper.Columns, int .i64 x141.sheet.Paper.Gap, int .i64 x141.sheet.Paper.Scale, int .i64 x141.sheet.Paper.Lang, slice A144 x141.placed.length c145, slice A148 x141.notes.length c149, slice A161 n162 c163] 67), oI v140 (fun (x141 : pages_open) => rwI G1027 (Kd.int .i64) A161 [] x141.fills [] c163 3), bx g52 [slice A1032 y1031.length c1033] 28, tk (slice A1032 y1031.length c1033) 2 34, bx g85 [slice A87 y86.length c88] 24, bx g92 [slice A94 y93.length c95] 25, bx g70 [func (.func 22) [].toArray [pointer (some ⟨g64, 0, none⟩), pointer (some ⟨g52, 0, none⟩)].toArray] 1, bx g58 [slice A169 v168.length c170] 57, bx g15 [int .i64 a1.Width, int .i64 a1.Height, int .i64 a1.Columns, int .i64 a1.Gap, int .i64 a1.Scale, int .i64 a1.Lang] 23, oI v140 (fun (x141 : pages_open) => cI v160 (tk (slice A148 x141.notes.length c149) 8 36)), tk (slice A169 v168.length c170) 3 64]) hI1030, fun wd1046 hI1045 => ?_⟩
 refine have hI1047:=Hp.emp hI1045;have hI1049:=Hp.pick 13 [0] hI1047 z;?_
 cases H
 exact ⟨_, ⟨_, _, z, z, ⟨_, _, z, z, z⟩⟩, none, 0, _, (gT (gT hG81 hG998) hG1028), hI1049, (show ([] : List api_Page).length ≤ 0 from Nat.le_refl 0), (Dat.nil _ _ _), Own.nil, z⟩
 refine nK h1042 H fun H=>wf (bN h1042)<|ws<|hK1039 _ _ _<|sr fun K1050 hK1051=>ld hI1030 3 ag28 z z z<|asn z<|asn z<|nl<|hK1051 _ _ _<|wr<|?_
 refine ⟨.inr rfl, (gd102 :: ([] : List Nat)), _, _, rfl, Hp.marks (K := [bx g64 [oV v140 g142] 58, oI v140 (fun (x141 : pages_open) => bx g142 [int .i64 x141.sheet.Paper.Width, int .i64 x141.sheet.Paper.Height, int .i64 x141.sheet.Paper.Columns, int .i64 x141.sheet.Paper.Gap, int .i64 x141.sheet.Paper.Scale, int .i64 x141.sheet.Paper.Lang, slice A144 x141.placed.length c145, slice A148 x141.notes.length c149, slice A161 n162 c163] 67), oI v140 (fun (x141 : pages_open) => rwI G1027 (Kd.int .i64) A161 [] x141.fills [] c163 3), bx g52 [slice A1032 y1031.length c1033] 28, tk (slice A1032 y1031.length c1033) 2 34, bx g85 [slice A87 y86.length c88] 24, bx g92 [slice A94 y93.length c95] 25, bx g70 [func (.func 22) [].toArray [pointer (some ⟨g64, 0, none⟩), pointer (some ⟨g52, 0, none⟩)].toArray] 1, bx g58 [slice A169 v168.length c170] 57, bx g15 [int .i64 a1.Width, int .i64 a1.Height, int .i64 a1.Columns, int .i64 a1.Gap, int .i64 a1.Scale, int .i64 a1.Lang] 23, oI v140 (fun (x141 : pages_open) => cI v160 (tk (slice A148 x141.notes.length c149) 8 36)), tk (slice A169 v168.length c170) 3 64]) hI1030, fun wd1053 hI1052 => ?_⟩
 refine have hI1055:=Hp.pick 12 [4] hI1052 z;?_
 cases H
 exact ⟨_, ⟨_, _, z, z, ⟨_, _, z, z, z⟩⟩, A1032, c1033, _, (gT (gT hG81 hG998) hG1028), hI1055, hl1034, hD1035, ho1036, z⟩
 rcases j with _ | j
 refine ⟨_, rfl, LoopState.done, (some (Code.exit 0)), G997, _, (fun h => nomatch h), hH1005, fun wd1001 hI1002 => ?_⟩
 refine hK76 _ _ _<|sr fun K1056 hK1057=>ld hI1002 2 ag1 z z z<|have hI1058:=Hp.oUp hI1002 10 z hGr183;have hI1071:=Hp.pick 13 [3, 7, 8, 10, 5, 12, 0, 1, 2, 4, 6, 9, 11] hI1058 z;bK H fun y1077 hy1072 H=>q_cv (vs := [pointer (some ⟨g64, 0, none⟩), pointer (some ⟨g52, 0, none⟩)]) bo22 z z (pages_Break_1_k3_spec hy1072 hI1071 (oF_mono (fun _ ⟨o0, o1, o2, o3, o4, o5, o6, o7, _⟩ => ⟨o0, o1, o2, o3, o4, o6, o7, tv⟩) hO167) hl178 hD179 ho180)<|?_
 rintro _ wd1075 ⟨A1078, c1079, G1073, hG1074, hI1076, hl1080, hD1081, ho1082, rfl⟩
 refine ⟨_, rfl, ?_⟩
 refine nl<|hK1057 _ _ _<|sQ fun K1084 hK1085=>sr fun K1086 hK1087=>ld hI1076 3 ag28 z z z<|q_len so28 z<|q_gtr z z<|nl<|hK1087 _ _ _<|dC (500 < (y1077.length : Int)) (fun h1088=>?_) fun h1088=>?_
 refine yK h1088 H fun H=>wt (bY h1088)<|sr fun K1089 hK1090=>asn z<|asn z<|nl<|hK1090 _ _ _<|wr<|?_
 refine ⟨.inr rfl, (gd102 :: ([] : List Nat)), _, _, rfl, Hp.marks (K := [bx g64 [oV v140 g142] 58, oI v140 (fun (x141 : pages_open) => bx g142 [int .i64 x141.sheet.Paper.Width, int .i64 x141.sheet.Paper.Height, int .i64 x141.sheet.Paper.Columns, int .i64 x141.sheet.Paper.Gap, int .i64 x141.sheet.Paper.Scale, int .i64 x141.sheet.Paper.Lang, slice A144 x141.placed.length c145, slice A148 x141.notes.length c149, slice A161 n162 c163] 67), oI v140 (fun (x141 : pages_open) => rwI G1073 (Kd.int .i64) A161 [] x141.fills [] c163 3), bx g52 [slice A1078 y1077.length c1079] 28, tk (slice A1078 y1077.length c1079) 2 34, bx g85 [slice A87 y86.length c88] 24, bx g92 [slice A94 y93.length c95] 25, bx g70 [func (.func 22) [].toArray [pointer (some ⟨g64, 0, none⟩), pointer (some ⟨g52, 0, none⟩)].toArray] 1, bx g58 [slice A169 v168.length c170] 57, bx g15 [int .i64 a1.Width, int .i64 a1.Height, int .i64 a1.Columns, int .i64 a1.Gap, int .i64 a1.Scale, int .i64 a1.Lang] 23, oI v140 (fun (x141 : pages_open) => cI v160 (tk (slice A148 x141.notes.length c149) 8 36)), tk (slice A169 v168.length c170) 3 64]) hI1076, fun wd1092 hI1091 => ?_⟩
 refine have hI1093:=Hp.emp hI1091;have hI1095:=Hp.pick 13 [0] hI1093 z;?_
 cases H
 exact ⟨_, ⟨_, _, z, z, ⟨_, _, z, z, z⟩⟩, none, 0, _, (gT (gT hG81 hG998) hG1074), hI1095, (show ([] : List api_Page).length ≤ 0 from Nat.le_refl 0), (Dat.nil _ _ _), Own.nil, z⟩
 refine nK h1088 H fun H=>wf (bN h1088)<|ws<|hK1085 _ _ _<|sr fun K1096 hK1097=>ld hI1076 3 ag28 z z z<|asn z<|asn z<|nl<|hK1097 _ _ _<|wr<|?_
 refine ⟨.inr rfl, (gd102 :: ([] : List Nat)), _, _, rfl, Hp.marks (K := [bx g64 [oV v140 g142] 58, oI v140 (fun (x141 : pages_open) => bx g142 [int .i64 x141.sheet.Paper.Width, int .i64 x141.sheet.Paper.Height, int .i64 x141.sheet.Paper.Columns, int .i64 x141.sheet.Paper.Gap, int .i64 x141.sheet.Paper.Scale, int .i64 x141.sheet.Paper.Lang, slice A144 x141.placed.length c145, slice A148 x141.notes.length c149, slice A161 n162 c163] 67), oI v140 (fun (x141 : pages_open) => rwI G1073 (Kd.int .i64) A161 [] x141.fills [] c163 3), bx g52 [slice A1078 y1077.length c1079] 28, tk (slice A1078 y1077.length c1079) 2 34, bx g85 [slice A87 y86.length c88] 24, bx g92 [slice A94 y93.length c95] 25, bx g70 [func (.func 22) [].toArray [pointer (some ⟨g64, 0, none⟩), pointer (some ⟨g52, 0, none⟩)].toArray] 1, bx g58 [slice A169 v168.length c170] 57, bx g15 [int .i64 a1.Width, int .i64 a1.Height, int .i64 a1.Columns, int .i64 a1.Gap, int .i64 a1.Scale, int .i64 a1.Lang] 23, oI v140 (fun (x141 : pages_open) => cI v160 (tk (slice A148 x141.notes.length c149) 8 36)), tk (slice A169 v168.length c170) 3 64]) hI1076, fun wd1099 hI1098 => ?_⟩
 refine have hI1101:=Hp.pick 12 [4] hI1098 z;?_
 cases H
 exact ⟨_, ⟨_, _, z, z, ⟨_, _, z, z, z⟩⟩, A1078, c1079, _, (gT (gT hG81 hG998) hG1074), hI1101, hl1080, hD1081, ho1082, z⟩
 cases H
theorem formelaw40_paper_spec {a1 r1002 G L w} (H : formelaw40_paper a1 = some r1002) (hI : Hp G L w) :
    Calls Try.prog 12 [int .i64 a1].toArray w fun e w' => Hp G L w' ∧ e = .returned (agg [int .i64 r1002.Width, int .i64 r1002.Height, int .i64 r1002.Columns, int .i64 r1002.Gap, int .i64 r1002.Scale, int .i64 r1002.Lang].toArray) := by
 refine calls_intro (N := 7) Try.func12 z z (Nat.le_of_ble_eq_true z)<|?_
 unfold formelaw40_paper at H
 refine sr fun K2 hK3=>q_alloc hI ze23 fun g5 wd6 hI7=>nl<|hK3 _ _ _<|sr fun K8 hK9=>mv z<|q_mul z z<|mv z<|q_build (vs := [(0, int .i64 (w64 (300 * a1))), (1, int .i64 30), (2, int .i64 a1), (4, int .i64 100)]) (cs := [int .i64 (w64 (300 * a1)), int .i64 30, int .i64 a1, int .i64 0, int .i64 100, int .i64 0]) ze23 pl23 z z<|stk hI7 0 ag23 z z z z z z z fun wd10 hI11=>nl<|hK9 _ _ _<|wr<|have hr12:=res_cell (P := Try.prog) hI11 0 (cs := [int .i64 (w64 (300 * a1)), int .i64 30, int .i64 a1, int .i64 0, int .i64 100, int .i64 0]) (g := g5) (o := 0) ag23 z z z;?_
 refine have hI13:=Hp.pick 1 [] hI11 z;?_
 cases H
 exact rt ⟨_, _, _, z, z, hr12, z⟩ hI13
theorem formelaw40_rows_spec {r1001 G L w} (H : formelaw40_rows = some r1001) (hI : Hp G L w) :
    Calls Try.prog 13 [].toArray w fun e w' => ∃ (A1002 : Option Addr) (c1003 : Nat) (G' : Gh), G ≤ G' ∧ Hp G' (tk (slice A1002 r1001.length c1003) 8 36 :: L) w' ∧ r1001.length ≤ c1003 ∧ Dat k_api_Slice G' A1002 r1001 ∧ Own A1002 c1003 ∧ e = .returned (slice A1002 r1001.length c1003) := by
 refine calls_intro (N := 6) Try.func13 z z (Nat.le_of_ble_eq_true z)<|?_
 unfold formelaw40_rows at H
 refine sr fun K1 hK2=>asn z<|nl<|hK2 _ _ _<|sr fun K3 hK4=>q_build (vs := [(0, int .i64 1), (4, int .i64 10)]) (cs := [int .i64 1, int .i64 0, int .i64 0, int .i64 0, int .i64 10, string (⟨#[]⟩ : ByteArray), bool false, bool false]) ze36 pl36 z z<|q_build (vs := [(0, int .i64 2), (3, int .i64 12), (4, int .i64 10)]) (cs := [int .i64 2, int .i64 0, int .i64 0, int .i64 12, int .i64 10, string (⟨#[]⟩ : ByteArray), bool false, bool false]) ze36 pl36 z z<|q_build (vs := [(0, int .i64 3), (3, int .i64 24), (4, int .i64 10)]) (cs := [int .i64 3, int .i64 0, int .i64 0, int .i64 24, int .i64 10, string (⟨#[]⟩ : ByteArray), bool false, bool false]) ze36 pl36 z z<|q_build (vs := [(0, int .i64 4), (3, int .i64 36), (4, int .i64 10)]) (cs := [int .i64 4, int .i64 0, int .i64 0, int .i64 36, int .i64 10, string (⟨#[]⟩ : ByteArray), bool false, bool false]) ze36 pl36 z z<|?_
 refine q_bs hI (vs := [(0, agg [int .i64 1, int .i64 0, int .i64 0, int .i64 0, int .i64 10, string (⟨#[]⟩ : ByteArray), bool false, bool false].toArray), (1, agg [int .i64 2, int .i64 0, int .i64 0, int .i64 12, int .i64 10, string (⟨#[]⟩ : ByteArray), bool false, bool false].toArray), (2, agg [int .i64 3, int .i64 0, int .i64 0, int .i64 24, int .i64 10, string (⟨#[]⟩ : ByteArray), bool false, bool false].toArray), (3, agg [int .i64 4, int .i64 0, int .i64 0, int .i64 36, int .i64 10, string (⟨#[]⟩ : ByteArray), bool false, bool false].toArray)]) (cs := [int .i64 1, int .i64 0, int .i64 0, int .i64 0, int .i64 10, string (⟨#[]⟩ : ByteArray), bool false, bool false, int .i64 2, int .i64 0, int .i64 0, int .i64 12, int .i64 10, string (⟨#[]⟩ : ByteArray), bool false, bool false, int .i64 3, int .i64 0, int .i64 0, int .i64 24, int .i64 10, string (⟨#[]⟩ : ByteArray), bool false, bool false, int .i64 4, int .i64 0, int .i64 0, int .i64 36, int .i64 10, string (⟨#[]⟩ : ByteArray), bool false, bool false]) el24 ze36 rfl (by decide) rfl (by kernel_rfl) (fun g6 wd7 hI8 => ?_)
 obtain ⟨G9, hG10, hI12, hD11⟩ := Hp.publish (xs := ([(⟨1, 0, 0, 0, 10, (⟨#[]⟩ : ByteArray), false, false⟩ : api_Slice), (⟨2, 0, 0, 12, 10, (⟨#[]⟩ : ByteArray), false, false⟩ : api_Slice), (⟨3, 0, 0, 24, 10, (⟨#[]⟩ : ByteArray), false, false⟩ : api_Slice), (⟨4, 0, 0, 36, 10, (⟨#[]⟩ : ByteArray), false, false⟩ : api_Slice)] : List api_Slice)) (n := 4) k_api_Slice hI8 ⟨[int .i64 1, int .i64 0, int .i64 0, int .i64 0, int .i64 10, string (⟨#[]⟩ : ByteArray), bool false, bool false], _, rfl, (mk_api_Slice (x := (⟨1, 0, 0, 0, 10, (⟨#[]⟩ : ByteArray), false, false⟩ : api_Slice))), ⟨[int .i64 2, int .i64 0, int .i64 0, int .i64 12, int .i64 10, string (⟨#[]⟩ : ByteArray), bool false, bool false], _, rfl, (mk_api_Slice (x := (⟨2, 0, 0, 12, 10, (⟨#[]⟩ : ByteArray), false, false⟩ : api_Slice))), ⟨[int .i64 3, int .i64 0, int .i64 0, int .i64 24, int .i64 10, string (⟨#[]⟩ : ByteArray), bool false, bool false], _, rfl, (mk_api_Slice (x := (⟨3, 0, 0, 24, 10, (⟨#[]⟩ : ByteArray), false, false⟩ : api_Slice))), ⟨[int .i64 4, int .i64 0, int .i64 0, int .i64 36, int .i64 10, string (⟨#[]⟩ : ByteArray), bool false, bool false], _, rfl, (mk_api_Slice (x := (⟨4, 0, 0, 36, 10, (⟨#[]⟩ : ByteArray), false, false⟩ : api_Slice))), rfl⟩⟩⟩⟩ rfl
 refine asn z<|nl<|hK4 _ _ _<|wr<|?_
 cases H
 exact ⟨.inr z, z, _, ⟨_, _, z, z, z⟩, (some ⟨g6, 0, none⟩), 4, _, hG10, hI12, (show ([(⟨1, 0, 0, 0, 10, (⟨#[]⟩ : ByteArray), false, false⟩ : api_Slice), (⟨2, 0, 0, 12, 10, (⟨#[]⟩ : ByteArray), false, false⟩ : api_Slice), (⟨3, 0, 0, 24, 10, (⟨#[]⟩ : ByteArray), false, false⟩ : api_Slice), (⟨4, 0, 0, 36, 10, (⟨#[]⟩ : ByteArray), false, false⟩ : api_Slice)] : List api_Slice).length ≤ 4 from Nat.le_of_ble_eq_true z), hD11, (Own.mk _ _ _), z⟩
theorem pages_Find_1_k1_spec {a1 a4 g3 r1005 G L w} (H : pages_Find_1_k1 a1 a4 = some r1005) (hI : Hp G (bx g3 [int .i64 a4] 3 :: L) w) :
    Calls Try.prog 29 [agg [int .i64 a1.Node, int .i64 a1.Table, int .i64 a1.X, int .i64 a1.Y, int .i64 a1.H, string a1.Text, bool a1.Head, bool a1.Note].toArray, pointer (some ⟨g3, 0, none⟩)].toArray w fun e w' => Hp G (bx g3 [int .i64 a4] 3 :: L) w' ∧ e = .returned (bool r1005) := by
 refine calls_intro (N := 8) Try.func29 z z (Nat.le_of_ble_eq_true z)<|?_
 unfold pages_Find_1_k1 at H
 refine sr fun K5 hK6=>bxk hI z z fun g8 wd9 hI10=>asn z<|nl<|hK6 _ _ _<|sr fun K11 hK12=>fa fl36_0 z<|ld hI10 0 ag3 z z z<|ld hI10 1 ag3 z z z<|q_eql z z<|asn z<|nl<|hK12 _ _ _<|wr<|?_
 refine have hI14:=Hp.pick 2 [1] hI10 z;?_
 cases H
 exact rt ⟨_, _, z, z, z⟩ hI14
theorem slices_IndexFunc_api_Slice_k1_spec {a1 a8 A2 c3 g7 r1009 G L w} (H : slices_IndexFunc_api_Slice_k1 a1 a8 = some r1009) (hI : Hp G (bx g7 [int .i64 a8] 3 :: L) w) (hl4 : a1.length ≤ c3) (hD5 : Dat k_api_Slice G A2 a1) :
    Calls Try.prog 47 [slice A2 a1.length c3, func (.func 29) [].toArray [pointer (some ⟨g7, 0, none⟩)].toArray].toArray w fun e w' => Hp G (bx g7 [int .i64 a8] 3 :: L) w' ∧ e = .returned (int .i64 r1009) := by
 refine calls_intro (N := 19) Try.func47 z z (Nat.le_of_ble_eq_true z)<|?_
 unfold slices_IndexFunc_api_Slice_k1 at H
 refine sr fun K9 hK10=>asn z<|nl<|hK10 _ _ _<|sQ fun K11 hK12=>sr fun K13 hK14=>mv z<|q_len so24 z<|mv z<|nl<|hK14 _ _ _<|wb<|bK H fun o35 hC H=>wpc_mono (Q := fun e r ds w => match (generalizing := false) o35 with | (Sum.inl v26) => e = .ret ∧ ds = [] ∧ Has [(4, int .i64 v26)] r ∧ Hp G (bx g7 [int .i64 a8] 3 :: L) w ∧ True | (Sum.inr _) => e = .exit 0 ∧ ds = [] ∧ Has [] r ∧ Hp G (bx g7 [int .i64 a8] 3 :: L) w ∧ True) ?_ ?_
 refine wpc_loop fun I hLp=>?_
 refine slices_IndexFunc_api_Slice_k1_l25.partial_correctness a1 a8 (fun v19 o => ∀ (r : Rg) (w : World), Has [(0, slice A2 a1.length c3), (1, func (.func 29) [].toArray [pointer (some ⟨g7, 0, none⟩)].toArray), (7, int .i64 (a1.length : Int)), (8, int .i64 v19)] r → Hp G (bx g7 [int .i64 a8] 3 :: L) w → o = o35 → I r [] w) ?_ 0 _ hC _ _ ⟨rfl, rfl, rfl, rfl, tv⟩ hI rfl
 intro _ ih v19 o H r wd38 hHas hI39 ho
 rw [ho] at H; clear ho
 rw [hHas.eq]; clear hHas
 refine hLp _ _ _<|sr fun K40 hK41=>q_lss z z<|nl<|hK41 _ _ _<|sQ fun K42 hK43=>dC (v19 < (a1.length : Int)) (fun h44=>?_) fun h44=>?_
 refine yK h44 H fun H=>wt (bY h44)<|ws<|hK43 _ _ _<|sQ fun K45 hK46=>wb<|sr fun K47 hK48=>mv z<|asn z<|nl<|hK48 _ _ _<|sr fun K49 hK50=>mv z<|mv z<|?_
 refine mv z<|iK H fun⟨h51, h51'⟩H=>?_
 obtain ⟨ad52, cs53, hA54, hK55, hn56, hc57⟩ := Dat.get hD5 z_api_Slice (v19) h51 h51'
 obtain ⟨rfl⟩ := open_api_Slice hK55
 refine q_ia el24 z hA54 z h51 h51'<|q_lfA hI39 ag36 z (cs := [int .i64 ((a1.getD (Int.toNat v19) z_api_Slice).Node), int .i64 ((a1.getD (Int.toNat v19) z_api_Slice).Table), int .i64 ((a1.getD (Int.toNat v19) z_api_Slice).X), int .i64 ((a1.getD (Int.toNat v19) z_api_Slice).Y), int .i64 ((a1.getD (Int.toNat v19) z_api_Slice).H), string ((a1.getD (Int.toNat v19) z_api_Slice).Text), bool ((a1.getD (Int.toNat v19) z_api_Slice).Head), bool ((a1.getD (Int.toNat v19) z_api_Slice).Note)]) z (fun j v hv => gR.cel _ _ (hc57 j v hv))<|bK H fun y63 hy58 H=>cv bo29 (pages_Find_1_k1_spec (a1 := (a1.getD (Int.toNat v19) z_api_Slice)) hy58 hI39) z z fun wd61 hI62=>nl<|hK50 _ _ _<|dC (y63 = true) (fun h64=>?_) fun h64=>?_
 refine yK h64 H fun H=>wt (vY h64)<|sr fun K65 hK66=>mv z<|asn z<|nl<|hK66 _ _ _<|wr<|?_
 cases H
 exact ⟨z, z, ⟨z, tv⟩, hI62, tv⟩
 exact nK h64 H fun H=>wf (vN h64)<|ws<|hK46 _ _ _<|wpc_region<|q_add z z<|mv z<|nl<|ih _ _ H _ _ ⟨z, z, z, z, tv⟩ hI62 z
 refine nK h44 H fun H=>wf (bN h44)<|wx<|?_
 cases H
 exact ⟨z, z, trivial, hI39, tv⟩
 rcases o35 with v26 | _
 rintro e r ds wd29 ⟨rfl, rfl, hHas, hI30, _⟩
 rw [hHas.eq]; clear hHas
 cases H
 exact rt ⟨_, _, z, z, z⟩ hI30
 rintro e r ds wd33 ⟨rfl, rfl, hHas, hI34, _⟩
 rw [hHas.eq]; clear hHas
 refine hK12 _ _ _<|sr fun K67 hK68=>asn z<|nl<|hK68 _ _ _<|wr<|?_
 cases H
 exact rt ⟨_, _, z, z, z⟩ hI34
theorem slices_ContainsFunc_api_Slice_k1_spec {a1 a8 A2 c3 g7 r1009 G L w} (H : slices_ContainsFunc_api_Slice_k1 a1 a8 = some r1009) (hI : Hp G (bx g7 [int .i64 a8] 3 :: L) w) (hl4 : a1.length ≤ c3) (hD5 : Dat k_api_Slice G A2 a1) :
    Calls Try.prog 28 [slice A2 a1.length c3, func (.func 29) [].toArray [pointer (some ⟨g7, 0, none⟩)].toArray].toArray w fun e w' => Hp G (bx g7 [int .i64 a8] 3 :: L) w' ∧ e = .returned (bool r1009) := by
 refine calls_intro (N := 9) Try.func28 z z (Nat.le_of_ble_eq_true z)<|?_
 unfold slices_ContainsFunc_api_Slice_k1 at H
 refine sr fun K9 hK10=>asn z<|nl<|hK10 _ _ _<|sr fun K11 hK12=>mv z<|mv z<|bK H fun y18 hy13 H=>cv bo47 (slices_IndexFunc_api_Slice_k1_spec hy13 hI hl4 hD5) z z fun wd16 hI17=>q_geq z z<|asn z<|nl<|hK12 _ _ _<|wr<|?_
 cases H
 exact rt ⟨_, _, z, z, z⟩ hI17
theorem pages_Find_spec {a1 a6 A2 c3 r1007 r1008 G L w} (H : pages_Find a1 a6 = some (r1007, r1008)) (hI : Hp G L w) (hl4 : a1.length ≤ c3) (hD5 : Dat k_api_Page G A2 a1) :
    Calls Try.prog 14 [slice A2 a1.length c3, int .i64 a6].toArray w fun e w' => Hp G L w' ∧ e = .returned (tuple [int .i64 r1007, bool r1008].toArray) := by
 refine calls_intro (N := 21) Try.func14 z z (Nat.le_of_ble_eq_true z)<|?_
 unfold pages_Find at H
 refine sr fun K7 hK8=>bxk hI z z fun g10 wd11 hI12=>asn z<|asn z<|nl<|hK8 _ _ _<|sQ fun K13 hK14=>sr fun K15 hK16=>mv z<|q_len so28 z<|mv z<|nl<|hK16 _ _ _<|wb<|?_
 refine bK H fun o37 hC H=>wpc_mono (Q := fun e r ds w => match (generalizing := false) o37 with | (Sum.inl v28) => e = .ret ∧ ds = [] ∧ Has [(4, int .i64 v28), (5, bool true)] r ∧ Hp G (bx g10 [int .i64 a6] 3 :: L) w ∧ True | (Sum.inr _) => e = .exit 0 ∧ ds = [] ∧ Has [] r ∧ Hp G (bx g10 [int .i64 a6] 3 :: L) w ∧ True) ?_ ?_
 refine wpc_loop fun I hLp=>?_
 refine pages_Find_l27.partial_correctness a1 a6 (fun v21 o => ∀ (r : Rg) (w : World), Has [(3, pointer (some ⟨g10, 0, none⟩)), (8, slice A2 a1.length c3), (9, int .i64 (a1.length : Int)), (10, int .i64 v21)] r → Hp G (bx g10 [int .i64 a6] 3 :: L) w → o = o37 → I r [] w) ?_ 0 _ hC _ _ ⟨rfl, rfl, rfl, rfl, tv⟩ hI12 rfl
 intro _ ih v21 o H r wd40 hHas hI41 ho
 rw [ho] at H; clear ho
 rw [hHas.eq]; clear hHas
 refine hLp _ _ _<|sr fun K42 hK43=>q_lss z z<|nl<|hK43 _ _ _<|sQ fun K44 hK45=>dC (v21 < (a1.length : Int)) (fun h46=>?_) fun h46=>?_
 refine yK h46 H fun H=>wt (bY h46)<|ws<|hK45 _ _ _<|sQ fun K47 hK48=>wb<|sr fun K49 hK50=>iK H fun⟨h51, h51'⟩H=>?_
 obtain ⟨ad52, cs53, hA54, hK55, hn56, hc57⟩ := Dat.get hD5 z_api_Page (v21) h51 h51'
 obtain ⟨A58, c59, hl60, hD61, rfl⟩ := open_api_Page hK55
 refine q_ia el28 z hA54 z h51 h51'<|q_lfA hI41 ag34 z (cs := [int .i64 ((a1.getD (Int.toNat v21) z_api_Page).Number), slice A58 ((a1.getD (Int.toNat v21) z_api_Page).Slices).length c59]) z (fun j v hv => gR.cel _ _ (hc57 j v hv))<|q_alloc hI41 ze34 fun g63 wd64 hI65=>stk hI65 0 ag34 z z z z z z z fun wd66 hI67=>nl<|hK50 _ _ _<|sr fun K68 hK69=>fa fl34_1 z<|ld hI67 0 ag24 z z z<|q_fn (vs := []) (us := [pointer (some ⟨g10, 0, none⟩)]) z z<|have hI70:=Hp.pick 2 [1, 0] hI67 z;bK H fun y76 hy71 H=>cv bo28 (slices_ContainsFunc_api_Slice_k1_spec (a1 := (a1.getD (Int.toNat v21) z_api_Page).Slices) hy71 hI70 hl60 hD61) z z fun wd74 hI75=>nl<|?_
 refine hK69 _ _ _<|dC (y76 = true) (fun h77=>?_) fun h77=>?_
 refine yK h77 H fun H=>wt (vY h77)<|sr fun K78 hK79=>fa fl34_0 z<|ld hI75 1 ag3 z z z<|asn z<|asn z<|nl<|hK79 _ _ _<|wr<|have hI80:=Hp.pick 2 [0] hI75 z;?_
 cases H
 exact ⟨z, z, ⟨z, z, tv⟩, hI80, tv⟩
 exact nK h77 H fun H=>wf (vN h77)<|ws<|hK48 _ _ _<|wpc_region<|q_add z z<|mv z<|nl<|have hI81:=Hp.pick 2 [0] hI75 z;ih _ _ H _ _ ⟨z, z, z, z, tv⟩ hI81 z
 refine nK h46 H fun H=>wf (bN h46)<|wx<|?_
 cases H
 exact ⟨z, z, trivial, hI41, tv⟩
 rcases o37 with v28 | _
 rintro e r ds wd31 ⟨rfl, rfl, hHas, hI32, _⟩
 rw [hHas.eq]; clear hHas
 refine have hI82:=Hp.pick 1 [] hI32 z;?_
 cases H
 exact rt ⟨_, _, z, z, ⟨_, _, z, z, z⟩⟩ hI82
 rintro e r ds wd35 ⟨rfl, rfl, hHas, hI36, _⟩
 rw [hHas.eq]; clear hHas
 refine hK14 _ _ _<|sr fun K83 hK84=>asn z<|asn z<|nl<|hK84 _ _ _<|wr<|have hI85:=Hp.pick 1 [] hI36 z;?_
 cases H
 exact rt ⟨_, _, z, z, ⟨_, _, z, z, z⟩⟩ hI85
theorem formeref40_SameSlices_spec {a1 a6 A2 c3 A7 c8 r1011 G L w} (H : formeref40_SameSlices a1 a6 = some r1011) (hI : Hp G L w) (hl4 : a1.length ≤ c3) (hD5 : Dat k_api_Slice G A2 a1) (hl9 : a6.length ≤ c8) (hD10 : Dat k_api_Slice G A7 a6) :
    Calls Try.prog 30 [slice A2 a1.length c3, slice A7 a6.length c8].toArray w fun e w' => Hp G L w' ∧ e = .returned (bool r1011) := by
 refine calls_intro (N := 26) Try.func30 z z (Nat.le_of_ble_eq_true z)<|?_
 unfold formeref40_SameSlices at H
 refine sr fun K11 hK12=>asn z<|nl<|hK12 _ _ _<|sQ fun K13 hK14=>sr fun K15 hK16=>mv z<|q_len so24 z<|mv z<|q_len so24 z<|q_neq z z<|nl<|hK16 _ _ _<|dC (¬ (a1.length : Int) = (a6.length : Int)) (fun h17=>?_) fun h17=>?_
 refine yK h17 H fun H=>wt (bY h17)<|sr fun K18 hK19=>asn z<|nl<|hK19 _ _ _<|wr<|?_
 cases H
 exact rt ⟨_, _, z, z, z⟩ hI
 refine nK h17 H fun H=>wf (bN h17)<|ws<|hK14 _ _ _<|sQ fun K20 hK21=>sr fun K22 hK23=>asn z<|nl<|hK23 _ _ _<|wb<|bK H fun o43 hC H=>wpc_mono (Q := fun e r ds w => match (generalizing := false) o43 with | (Sum.inl _) => e = .ret ∧ ds = [] ∧ Has [(4, bool false)] r ∧ Hp G (L) w ∧ True | (Sum.inr _) => e = .exit 0 ∧ ds = [] ∧ Has [] r ∧ Hp G (L) w ∧ True) ?_ ?_
 refine wpc_loop fun I hLp=>?_
 refine formeref40_SameSlices_l34.partial_correctness a1 a6 (fun v28 o => ∀ (r : Rg) (w : World), Has [(0, slice A2 a1.length c3), (1, slice A7 a6.length c8), (5, int .i64 v28)] r → Hp G (L) w → o = o43 → I r [] w) ?_ 0 _ hC _ _ ⟨rfl, rfl, rfl, tv⟩ hI rfl
 intro _ ih v28 o H r wd46 hHas hI47 ho
 rw [ho] at H; clear ho
 rw [hHas.eq]; clear hHas
 refine hLp _ _ _<|sQ fun K48 hK49=>sr fun K50 hK51=>mv z<|mv z<|q_len so24 z<|q_lss z z<|nl<|hK51 _ _ _<|dC (v28 < (a1.length : Int)) (fun h52=>?_) fun h52=>?_
 refine yK h52 H fun H=>wt (bY h52)<|ws<|hK49 _ _ _<|sQ fun K53 hK54=>wb<|sQ fun K55 hK56=>?_
 refine wpc_quiet mixo (by kernel_rfl) ?_
 refine have hI57:=hI47.drew;wq (mv z wqd) z<|wq (mv z wqd) z<|iK H fun⟨h58, h58'⟩H=>?_
 obtain ⟨ad59, cs60, hA61, hK62, hn63, hc64⟩ := Dat.get hD5 z_api_Slice (v28) h58 h58'
 obtain ⟨rfl⟩ := open_api_Slice hK62
 refine wq (q_ia el24 z hA61 z h58 h58' wqd) z<|wq (q_lfA hI57 ag36 z (cs := [int .i64 ((a1.getD (Int.toNat v28) z_api_Slice).Node), int .i64 ((a1.getD (Int.toNat v28) z_api_Slice).Table), int .i64 ((a1.getD (Int.toNat v28) z_api_Slice).X), int .i64 ((a1.getD (Int.toNat v28) z_api_Slice).Y), int .i64 ((a1.getD (Int.toNat v28) z_api_Slice).H), string ((a1.getD (Int.toNat v28) z_api_Slice).Text), bool ((a1.getD (Int.toNat v28) z_api_Slice).Head), bool ((a1.getD (Int.toNat v28) z_api_Slice).Note)]) z (fun j v hv => gR.cel _ _ (hc64 j v hv)) wqd) z<|wq (mv z wqd) z<|wq (mv z wqd) z<|iK H fun⟨h65, h65'⟩H=>?_
 obtain ⟨ad66, cs67, hA68, hK69, hn70, hc71⟩ := Dat.get hD10 z_api_Slice (v28) h65 h65'
 obtain ⟨rfl⟩ := open_api_Slice hK69
 refine wq (q_ia el24 z hA68 z h65 h65' wqd) z<|wq (q_lfA hI57 ag36 z (cs := [int .i64 ((a6.getD (Int.toNat v28) z_api_Slice).Node), int .i64 ((a6.getD (Int.toNat v28) z_api_Slice).Table), int .i64 ((a6.getD (Int.toNat v28) z_api_Slice).X), int .i64 ((a6.getD (Int.toNat v28) z_api_Slice).Y), int .i64 ((a6.getD (Int.toNat v28) z_api_Slice).H), string ((a6.getD (Int.toNat v28) z_api_Slice).Text), bool ((a6.getD (Int.toNat v28) z_api_Slice).Head), bool ((a6.getD (Int.toNat v28) z_api_Slice).Note)]) z (fun j v hv => gR.cel _ _ (hc71 j v hv)) wqd) z<|wq (q_st_neq (q := (a1.getD (Int.toNat v28) z_api_Slice) = (a6.getD (Int.toNat v28) z_api_Slice)) z z eqg_api_Slice (eqs_api_Slice (a1.getD (Int.toNat v28) z_api_Slice) (a6.getD (Int.toNat v28) z_api_Slice)) (eqd_api_Slice _ _) wqd) z<|wqq_nil<|hK56 _ _ _<|dC (¬ (a1.getD (Int.toNat v28) z_api_Slice) = (a6.getD (Int.toNat v28) z_api_Slice)) (fun h72=>?_) fun h72=>?_
 refine yK h72 H fun H=>wt (bY h72)<|sr fun K73 hK74=>asn z<|nl<|hK74 _ _ _<|wr<|?_
 cases H
 exact ⟨z, z, ⟨z, tv⟩, hI57, tv⟩
 exact nK h72 H fun H=>wf (bN h72)<|ws<|hK54 _ _ _<|wpc_region<|mv z<|q_add z z<|asn z<|nl<|ih _ _ H _ _ ⟨z, z, z, tv⟩ hI57 z
 refine nK h52 H fun H=>wf (bN h52)<|wx<|?_
 cases H
 exact ⟨z, z, trivial, hI47, tv⟩
 rcases o43 with _ | _
 rintro e r ds wd37 ⟨rfl, rfl, hHas, hI38, _⟩
 rw [hHas.eq]; clear hHas
 cases H
 exact rt ⟨_, _, z, z, z⟩ hI38
 rintro e r ds wd41 ⟨rfl, rfl, hHas, hI42, _⟩
 rw [hHas.eq]; clear hHas
 refine hK21 _ _ _<|sr fun K75 hK76=>asn z<|nl<|hK76 _ _ _<|wr<|?_
 cases H
 exact rt ⟨_, _, z, z, z⟩ hI42
theorem formeref40_Same_spec {a1 a6 A2 c3 A7 c8 r1011 G L w} (H : formeref40_Same a1 a6 = some r1011) (hI : Hp G L w) (hl4 : a1.length ≤ c3) (hD5 : Dat k_api_Page G A2 a1) (hl9 : a6.length ≤ c8) (hD10 : Dat k_api_Page G A7 a6) :
    Calls Try.prog 15 [slice A2 a1.length c3, slice A7 a6.length c8].toArray w fun e w' => Hp G L w' ∧ e = .returned (bool r1011) := by
 refine calls_intro (N := 42) Try.func15 z z (Nat.le_of_ble_eq_true z)<|?_
 unfold formeref40_Same at H
 refine sr fun K11 hK12=>asn z<|nl<|hK12 _ _ _<|sQ fun K13 hK14=>sr fun K15 hK16=>mv z<|q_len so28 z<|mv z<|q_len so28 z<|q_neq z z<|nl<|hK16 _ _ _<|dC (¬ (a1.length : Int) = (a6.length : Int)) (fun h17=>?_) fun h17=>?_
 refine yK h17 H fun H=>wt (bY h17)<|sr fun K18 hK19=>asn z<|nl<|hK19 _ _ _<|wr<|?_
 cases H
 exact rt ⟨_, _, z, z, z⟩ hI
 refine nK h17 H fun H=>wf (bN h17)<|ws<|hK14 _ _ _<|sQ fun K20 hK21=>sr fun K22 hK23=>asn z<|nl<|hK23 _ _ _<|wb<|bK H fun o43 hC H=>wpc_mono (Q := fun e r ds w => match (generalizing := false) o43 with | (Sum.inl _) => e = .ret ∧ ds = [] ∧ Has [(4, bool false)] r ∧ Hp G (L) w ∧ True | (Sum.inr _) => e = .exit 0 ∧ ds = [] ∧ Has [] r ∧ Hp G (L) w ∧ True) ?_ ?_
 refine wpc_loop fun I hLp=>?_
 refine formeref40_Same_l34.partial_correctness a1 a6 (fun v28 o => ∀ (r : Rg) (w : World), Has [(0, slice A2 a1.length c3), (1, slice A7 a6.length c8), (5, int .i64 v28)] r → Hp G (L) w → o = o43 → I r [] w) ?_ 0 _ hC _ _ ⟨rfl, rfl, rfl, tv⟩ hI rfl
 intro _ ih v28 o H r wd46 hHas hI47 ho
 rw [ho] at H; clear ho
 rw [hHas.eq]; clear hHas
 refine hLp _ _ _<|sQ fun K48 hK49=>sr fun K50 hK51=>mv z<|mv z<|q_len so28 z<|q_lss z z<|nl<|hK51 _ _ _<|dC (v28 < (a1.length : Int)) (fun h52=>?_) fun h52=>?_
 refine yK h52 H fun H=>wt (bY h52)<|ws<|hK49 _ _ _<|sQ fun K53 hK54=>wb<|sQ fun K55 hK56=>bK H fun v103 hC H=>jc .normal hI47 [(0, slice A2 a1.length c3), (1, slice A7 a6.length c8), (5, int .i64 v28), (41, bool v103)] ?_ fun _ wd106 hI107=>?_
 refine have H:=hC;?_
 refine wpc_class hI47 mixo (by kernel_rfl) ?_
 refine wq' (fun Gq w hGq Iq=>mv z wqd) z z<|wq' (fun Gq w hGq Iq=>mv z wqd) z z<|iK H fun⟨h113, h113'⟩H=>?_
 obtain ⟨ad114, cs115, hA116, hK117, hn118, hc119⟩ := Dat.get hD5 z_api_Page (v28) h113 h113'
 obtain ⟨A120, c121, hl122, hD123, rfl⟩ := open_api_Page hK117
 refine wq' (fun Gq w hGq Iq=>q_ia el28 z hA116 z h113 h113' wqd) z z<|wq' (fun Gq w hGq Iq=>q_fa fl34_0 z z wqd) z z<|wq' (fun Gq w hGq Iq=>q_lf Iq ag3 z (hGq.cel _ _ (hc119 0 _ z)) wqd) z z<|wq' (fun Gq w hGq Iq=>mv z wqd) z z<|wq' (fun Gq w hGq Iq=>mv z wqd) z z<|iK H fun⟨h124, h124'⟩H=>?_
 obtain ⟨ad125, cs126, hA127, hK128, hn129, hc130⟩ := Dat.get hD10 z_api_Page (v28) h124 h124'
 obtain ⟨A131, c132, hl133, hD134, rfl⟩ := open_api_Page hK128
 refine wq' (fun Gq w hGq Iq=>q_ia el28 z hA127 z h124 h124' wqd) z z<|wq' (fun Gq w hGq Iq=>q_fa fl34_0 z z wqd) z z<|wq' (fun Gq w hGq Iq=>q_lf Iq ag3 z (hGq.cel _ _ (hc130 0 _ z)) wqd) z z<|wq' (fun Gq w hGq Iq=>q_neq z z wqd) z z<|wq' (fun Gq w hGq Iq=>mv z wqd) z z<|dC (¬ ((a1.getD (Int.toNat v28) z_api_Page).Number) = ((a6.getD (Int.toNat v28) z_api_Page).Number)) (fun h135=>?_) fun h135=>?_
 refine yK h135 H fun H=>wp (guard_no z z z (bY h135) z)<|wp (guard_no z z z (bY h135) z)<|wp (guard_no z z z (bY h135) z)<|wp (guard_no z z z (bY h135) z)<|wp (guard_no z z z (bY h135) z)<|wp (guard_no z z z (bY h135) z)<|wp (guard_no z z z (bY h135) z)<|wp (guard_no z z z (bY h135) z)<|wp (guard_no z z z (bY h135) z)<|wp (guard_no z z z (bY h135) z)<|wp (guard_no z z z (bY h135) z)<|wp (guard_no z z z (bY h135) z)<|wq' (fun Gq w hGq Iq=>pkt (bY h135) z wqd) z z<|?_
 refine wz fun wd111 G109 hG110 hI112=>?_
 cases H
 exact je ⟨z, z, z, z, tv⟩ (Hp.low hG110 hI112)
 refine nK h135 H fun H=>wq' (fun Gq w hGq Iq=>mv (hw:=gY z z z (bN h135)) z wqd) z z<|wq' (fun Gq w hGq Iq=>mv (hw:=gY z z z (bN h135)) z wqd) z z<|iK H fun⟨h136, h136'⟩H=>?_
 obtain ⟨ad137, cs138, hA139, hK140, hn141, hc142⟩ := Dat.get hD5 z_api_Page (v28) h136 h136'
 obtain ⟨A143, c144, hl145, hD146, rfl⟩ := open_api_Page hK140
 refine wq' (fun Gq w hGq Iq=>q_ia (hw:=gY z z z (bN h135)) el28 z hA139 z h136 h136' wqd) z z<|wq' (fun Gq w hGq Iq=>q_fa (hw:=gY z z z (bN h135)) fl34_1 z z wqd) z z<|wq' (fun Gq w hGq Iq=>q_lf (hw:=gY z z z (bN h135)) Iq ag24 z (hGq.cel _ _ (hc142 1 _ z)) wqd) z z<|wq' (fun Gq w hGq Iq=>mv (hw:=gY z z z (bN h135)) z wqd) z z<|wq' (fun Gq w hGq Iq=>mv (hw:=gY z z z (bN h135)) z wqd) z z<|iK H fun⟨h147, h147'⟩H=>?_
 obtain ⟨ad148, cs149, hA150, hK151, hn152, hc153⟩ := Dat.get hD10 z_api_Page (v28) h147 h147'
 obtain ⟨A154, c155, hl156, hD157, rfl⟩ := open_api_Page hK151
 refine wq' (fun Gq w hGq Iq=>q_ia (hw:=gY z z z (bN h135)) el28 z hA150 z h147 h147' wqd) z z<|wq' (fun Gq w hGq Iq=>q_fa (hw:=gY z z z (bN h135)) fl34_1 z z wqd) z z<|wq' (fun Gq w hGq Iq=>q_lf (hw:=gY z z z (bN h135)) Iq ag24 z (hGq.cel _ _ (hc153 1 _ z)) wqd) z z<|bK H fun y159 hy158 H=>wk (vs := [slice A143 ((a1.getD (Int.toNat v28) z_api_Page).Slices).length c144, slice A154 ((a6.getD (Int.toNat v28) z_api_Page).Slices).length c155]) (v := bool y159) bo30 z z (fun Gq w hGq Iq => ?_) ?_ (hw := gY z z z (bool_no h135))
 refine Calls.mono (formeref40_SameSlices_spec (a1 := (a1.getD (Int.toNat v28) z_api_Page).Slices) (a6 := (a6.getD (Int.toNat v28) z_api_Page).Slices) hy158 Iq hl145 (Dat.mono hGq hD146) hl156 (Dat.mono hGq hD157))<|?_
 rintro _ w2 ⟨I2, rfl⟩
 exact ⟨z, _, hGq, I2⟩
 refine wq' (fun Gq w hGq Iq=>q_not (hw:=gY z z z (bN h135)) z wqd) z z<|wq' (fun Gq w hGq Iq=>pkf (bN h135) z wqd) z z<|wz fun wd111 G109 hG110 hI112=>?_
 cases H
 exact je ⟨z, z, z, z, tv⟩ (Hp.low hG110 hI112)
 refine hK56 _ _ _<|dC (v103 = true) (fun h160=>?_) fun h160=>?_
 refine yK h160 H fun H=>wt (vY h160)<|sr fun K161 hK162=>asn z<|nl<|hK162 _ _ _<|wr<|?_
 cases H
 exact ⟨z, z, ⟨z, tv⟩, hI107, tv⟩
 exact nK h160 H fun H=>wf (vN h160)<|ws<|hK54 _ _ _<|wpc_region<|mv z<|q_add z z<|asn z<|nl<|ih _ _ H _ _ ⟨z, z, z, tv⟩ hI107 z
 refine nK h52 H fun H=>wf (bN h52)<|wx<|?_
 cases H
 exact ⟨z, z, trivial, hI47, tv⟩
 rcases o43 with _ | _
 rintro e r ds wd37 ⟨rfl, rfl, hHas, hI38, _⟩
 rw [hHas.eq]; clear hHas
 cases H
 exact rt ⟨_, _, z, z, z⟩ hI38
 rintro e r ds wd41 ⟨rfl, rfl, hHas, hI42, _⟩
 rw [hHas.eq]; clear hHas
 refine hK21 _ _ _<|sr fun K163 hK164=>asn z<|nl<|hK164 _ _ _<|wr<|?_
 cases H
 exact rt ⟨_, _, z, z, z⟩ hI42
theorem formelaw40_at_spec {a1 a2 a3 r1004 G L w} (H : formelaw40_at a1 a2 a3 = some r1004) (hI : Hp G L w) :
    Calls Try.prog 16 [int .i64 a1, int .i64 a2, int .i64 a3].toArray w fun e w' => Hp G L w' ∧ e = .returned (agg [int .i64 r1004.Node, int .i64 r1004.Table, int .i64 r1004.X, int .i64 r1004.Y, int .i64 r1004.H, string r1004.Text, bool r1004.Head, bool r1004.Note].toArray) := by
 refine calls_intro (N := 11) Try.func16 z z (Nat.le_of_ble_eq_true z)<|?_
 unfold formelaw40_at at H
 refine sr fun K4 hK5=>q_alloc hI ze36 fun g7 wd8 hI9=>nl<|hK5 _ _ _<|sr fun K10 hK11=>mv z<|mv z<|mv z<|q_build (vs := [(0, int .i64 a1), (2, int .i64 a2), (3, int .i64 a3), (4, int .i64 10)]) (cs := [int .i64 a1, int .i64 0, int .i64 a2, int .i64 a3, int .i64 10, string (⟨#[]⟩ : ByteArray), bool false, bool false]) ze36 pl36 z z<|stk hI9 0 ag36 z z z z z z z fun wd12 hI13=>nl<|hK11 _ _ _<|wr<|have hr14:=res_cell (P := Try.prog) hI13 0 (cs := [int .i64 a1, int .i64 0, int .i64 a2, int .i64 a3, int .i64 10, string (⟨#[]⟩ : ByteArray), bool false, bool false]) (g := g7) (o := 0) ag36 z z z;?_
 refine have hI15:=Hp.pick 1 [] hI13 z;?_
 cases H
 exact rt ⟨_, _, _, z, z, hr14, z⟩ hI15
end Go.Proofs.Ytlcfemplcaejgaa.LG
