/-
  The walks: each function computes its plain function: printed by a program out of the translation.
-/
import Derived.Test.YtlcfemplcaejgaaSb
set_option linter.unusedVariables false
set_option linter.unusedSimpArgs false
set_option maxRecDepth 100000
namespace Go.Proofs.Ytlcfemplcaejgaa.LG
open Go Go.LG Go.RowKit Go.Value
set_option maxHeartbeats 20000000
theorem pages_open_put_k2_spec {a3 : pages_open} {a26 a31 a32 g2 A4 c5 A8 c9 A20 n21 c22 A27 c28} {q1033 : pages_open} {G L w} (H : pages_open_put_k2 a3 a26 a31 a32 = some q1033) (hI : Hp G (bx g2 [int .i64 a3.sheet.Paper.Width, int .i64 a3.sheet.Paper.Height, int .i64 a3.sheet.Paper.Columns, int .i64 a3.sheet.Paper.Gap, int .i64 a3.sheet.Paper.Scale, int .i64 a3.sheet.Paper.Lang, slice A4 a3.placed.length c5, slice A8 a3.notes.length c9, slice A20 n21 c22] 67 :: tk (slice A4 a3.placed.length c5) 8 36 :: tk (slice A8 a3.notes.length c9) 8 36 :: rwI G (Kd.int .i64) A20 [] a3.fills [] c22 3 :: L) w) (hl6 : a3.placed.length ≤ c5) (hD7 : Dat k_api_Slice G A4 a3.placed) (ho16 : Own A4 c5) (hl10 : a3.notes.length ≤ c9) (hD11 : Dat k_api_Slice G A8 a3.notes) (ho18 : Own A8 c9) (hn23 : a3.fills.length = n21) (hM24 : Mw A20 A20 ([] : List Int).length n21 c22 c22 1) (hl29 : a26.length ≤ c28) (hD30 : Dat k_api_Slice G A27 a26) :
    Calls Try.prog 46 [pointer (some ⟨g2, 0, none⟩), slice A27 a26.length c28, int .i64 a31, int .i64 a32].toArray w fun e w' => ∃ (A1034 : Option Addr) (c1035 : Nat) (A1038 : Option Addr) (c1039 : Nat) (A1050 : Option Addr) (n1051 : Nat) (c1052 : Nat) (G' : Gh), G ≤ G' ∧ Hp G' (bx g2 [int .i64 q1033.sheet.Paper.Width, int .i64 q1033.sheet.Paper.Height, int .i64 q1033.sheet.Paper.Columns, int .i64 q1033.sheet.Paper.Gap, int .i64 q1033.sheet.Paper.Scale, int .i64 q1033.sheet.Paper.Lang, slice A1034 q1033.placed.length c1035, slice A1038 q1033.notes.length c1039, slice A1050 n1051 c1052] 67 :: tk (slice A1034 q1033.placed.length c1035) 8 36 :: tk (slice A1038 q1033.notes.length c1039) 8 36 :: rwI G' (Kd.int .i64) A1050 [] q1033.fills [] c1052 3 :: L) w' ∧ q1033.placed.length ≤ c1035 ∧ Dat k_api_Slice G' A1034 q1033.placed ∧ Own A1034 c1035 ∧ q1033.notes.length ≤ c1039 ∧ Dat k_api_Slice G' A1038 q1033.notes ∧ Own A1038 c1039 ∧ q1033.fills.length = n1051 ∧ Mw A1050 A1050 ([] : List Int).length n1051 c1052 c1052 1 ∧ e = .returned (tuple [].toArray) := by
 refine calls_intro (N := 59) Try.func46 z z (Nat.le_of_ble_eq_true z)<|?_
 unfold pages_open_put_k2 at H
 refine sQ fun K33 hK34=>bK H fun y44 hy229 H=>?_
 refine wpc_drawL [0, 1, 3, 7, 15, 31, 0, 64, 192, 448, 960, 0, 2048, 6144, 14336, 30720, 63488, 131008, 262143, 524287] (fun D r w => (∃ (G' : Gh), G ≤ G' ∧ Regs [(0, pointer (some ⟨g2, 0, none⟩)), (1, slice A27 a26.length c28), (2, int .i64 a31), (3, int .i64 a32)] [] [(0, 11, pointer (some ⟨g2, 0, none⟩)), (1, 12, pointer (some ⟨g2, 0, none⟩)), (2, 13, pointer (some ⟨g2, 8, none⟩)), (3, 14, slice A20 n21 c22), (4, 15, int .i64 (a3.fills.length : Int)), (5, 16, int .i64 (w64 ((a3.fills.length : Int) - 1))), (6, 17, pointer (some ⟨g2, 0, none⟩)), (7, 18, pointer (some ⟨g2, 0, none⟩)), (8, 19, pointer (some ⟨g2, 0, none⟩)), (9, 20, agg [int .i64 a3.sheet.Paper.Width, int .i64 a3.sheet.Paper.Height, int .i64 a3.sheet.Paper.Columns, int .i64 a3.sheet.Paper.Gap, int .i64 a3.sheet.Paper.Scale, int .i64 a3.sheet.Paper.Lang].toArray), (10, 21, int .i64 y44), (11, 22, pointer (some ⟨g2, 0, none⟩)), (12, 23, pointer (some ⟨g2, 0, none⟩)), (13, 24, pointer (some ⟨g2, 0, none⟩)), (14, 25, pointer (some ⟨g2, 0, none⟩)), (15, 26, pointer (some ⟨g2, 3, none⟩)), (16, 27, int .i64 a3.sheet.Paper.Gap), (17, 28, int .i64 (w64 (y44 + a3.sheet.Paper.Gap))), (18, 29, int .i64 (w64 ((w64 ((a3.fills.length : Int) - 1)) * (w64 (y44 + a3.sheet.Paper.Gap))))), (19, 8, int .i64 (w64 ((w64 ((a3.fills.length : Int) - 1)) * (w64 (y44 + a3.sheet.Paper.Gap)))))] D r ∧ Hp G' (bx g2 [int .i64 a3.sheet.Paper.Width, int .i64 a3.sheet.Paper.Height, int .i64 a3.sheet.Paper.Columns, int .i64 a3.sheet.Paper.Gap, int .i64 a3.sheet.Paper.Scale, int .i64 a3.sheet.Paper.Lang, slice A4 a3.placed.length c5, slice A8 a3.notes.length c9, slice A20 n21 c22] 67 :: tk (slice A4 a3.placed.length c5) 8 36 :: tk (slice A8 a3.notes.length c9) 8 36 :: rwI G (Kd.int .i64) A20 [] a3.fills [] c22 3 :: L) w)) mixo z z ?_ ?_ ?_
 exact ⟨_, Gh.le_refl _, Regs.start ⟨z, z, z, z, tv⟩ trivial, hI.drew⟩
 refine ⟨?_, ?_, ?_, ?_, ?_, ?_, ?_, ?_, ?_, ?_, ?_, ?_, ?_, ?_, ?_, ?_, ?_, ?_, ?_, ?_, tv⟩
 rintro D r wd244 ⟨G240, hG241, hReg243, hI242⟩ hDi hpre hpost
 obtain ⟨r0, rfl⟩ := Has.ex (cC (hReg243.ins.get 0 rfl) cN)
 exact mv z<|nl ⟨z, ⟨_, hG241, (Regs.step hReg243 hDi z z z z), hI242⟩⟩
 rintro D r wd244 ⟨G240, hG241, hReg243, hI242⟩ hDi hpre hpost
 obtain ⟨r0, rfl⟩ := Has.ex (cC (hReg243.get 0 rfl (hpre 0 rfl)) cN)
 exact q_nc z<|nl ⟨z, ⟨_, hG241, (Regs.step hReg243 hDi z z z z), hI242⟩⟩
 rintro D r wd244 ⟨G240, hG241, hReg243, hI242⟩ hDi hpre hpost
 obtain ⟨r0, rfl⟩ := Has.ex (cC (hReg243.get 1 rfl (hpre 1 rfl)) cN)
 exact fa fl67_3 z<|nl ⟨z, ⟨_, hG241, (Regs.step hReg243 hDi z z z z), hI242⟩⟩
 rintro D r wd244 ⟨G240, hG241, hReg243, hI242⟩ hDi hpre hpost
 obtain ⟨r0, rfl⟩ := Has.ex (cC (hReg243.get 2 rfl (hpre 2 rfl)) cN)
 exact ld hI242 0 ag65 z z z<|nl ⟨z, ⟨_, hG241, (Regs.step hReg243 hDi z z z z), hI242⟩⟩
 rintro D r wd244 ⟨G240, hG241, hReg243, hI242⟩ hDi hpre hpost
 obtain ⟨r0, rfl⟩ := Has.ex (cC (hReg243.get 3 rfl (hpre 3 rfl)) cN)
 exact q_lenm so65 z hn23<|nl ⟨z, ⟨_, hG241, (Regs.step hReg243 hDi z z z z), hI242⟩⟩
 rintro D r wd244 ⟨G240, hG241, hReg243, hI242⟩ hDi hpre hpost
 obtain ⟨r0, rfl⟩ := Has.ex (cC (hReg243.get 4 rfl (hpre 4 rfl)) cN)
 exact q_sub z z<|nl ⟨z, ⟨_, hG241, (Regs.step hReg243 hDi z z z z), hI242⟩⟩
 rintro D r wd244 ⟨G240, hG241, hReg243, hI242⟩ hDi hpre hpost
 obtain ⟨r0, rfl⟩ := Has.ex (cC (hReg243.ins.get 0 rfl) cN)
 exact mv z<|nl ⟨z, ⟨_, hG241, (Regs.step hReg243 hDi z z z z), hI242⟩⟩
 rintro D r wd244 ⟨G240, hG241, hReg243, hI242⟩ hDi hpre hpost
 obtain ⟨r0, rfl⟩ := Has.ex (cC (hReg243.get 6 rfl (hpre 6 rfl)) cN)
 exact q_nc z<|nl ⟨z, ⟨_, hG241, (Regs.step hReg243 hDi z z z z), hI242⟩⟩
 rintro D r wd244 ⟨G240, hG241, hReg243, hI242⟩ hDi hpre hpost
 obtain ⟨r0, rfl⟩ := Has.ex (cC (hReg243.get 7 rfl (hpre 7 rfl)) cN)
 exact fa fl67_0 z<|nl ⟨z, ⟨_, hG241, (Regs.step hReg243 hDi z z z z), hI242⟩⟩
 rintro D r wd244 ⟨G240, hG241, hReg243, hI242⟩ hDi hpre hpost
 obtain ⟨r0, rfl⟩ := Has.ex (cC (hReg243.get 8 rfl (hpre 8 rfl)) cN)
 exact lda hI242 0 ag56 z z z z<|nl ⟨z, ⟨_, hG241, (Regs.step hReg243 hDi z z z z), hI242⟩⟩
 rintro D r wd244 ⟨G240, hG241, hReg243, hI242⟩ hDi hpre hpost
 obtain ⟨r0, rfl⟩ := Has.ex (cC (hReg243.get 9 rfl (hpre 9 rfl)) cN)
 exact cv bo51 (pages_sheet_column_spec hy229 hI242) z z fun wd42 hI43=>nl ⟨z, ⟨_, hG241, (Regs.step hReg243 hDi z z z z), hI43⟩⟩
 rintro D r wd244 ⟨G240, hG241, hReg243, hI242⟩ hDi hpre hpost
 obtain ⟨r0, rfl⟩ := Has.ex (cC (hReg243.ins.get 0 rfl) cN)
 exact mv z<|nl ⟨z, ⟨_, hG241, (Regs.step hReg243 hDi z z z z), hI242⟩⟩
 rintro D r wd244 ⟨G240, hG241, hReg243, hI242⟩ hDi hpre hpost
 obtain ⟨r0, rfl⟩ := Has.ex (cC (hReg243.get 11 rfl (hpre 11 rfl)) cN)
 exact q_nc z<|nl ⟨z, ⟨_, hG241, (Regs.step hReg243 hDi z z z z), hI242⟩⟩
 rintro D r wd244 ⟨G240, hG241, hReg243, hI242⟩ hDi hpre hpost
 obtain ⟨r0, rfl⟩ := Has.ex (cC (hReg243.get 12 rfl (hpre 12 rfl)) cN)
 exact fa fl67_0 z<|nl ⟨z, ⟨_, hG241, (Regs.step hReg243 hDi z z z z), hI242⟩⟩
 rintro D r wd244 ⟨G240, hG241, hReg243, hI242⟩ hDi hpre hpost
 obtain ⟨r0, rfl⟩ := Has.ex (cC (hReg243.get 13 rfl (hpre 13 rfl)) cN)
 exact fa fl56_0 z<|nl ⟨z, ⟨_, hG241, (Regs.step hReg243 hDi z z z z), hI242⟩⟩
 rintro D r wd244 ⟨G240, hG241, hReg243, hI242⟩ hDi hpre hpost
 obtain ⟨r0, rfl⟩ := Has.ex (cC (hReg243.get 14 rfl (hpre 14 rfl)) cN)
 exact fa fl23_3 z<|nl ⟨z, ⟨_, hG241, (Regs.step hReg243 hDi z z z z), hI242⟩⟩
 rintro D r wd244 ⟨G240, hG241, hReg243, hI242⟩ hDi hpre hpost
 obtain ⟨r0, rfl⟩ := Has.ex (cC (hReg243.get 15 rfl (hpre 15 rfl)) cN)
 exact ld hI242 0 ag3 z z z<|nl ⟨z, ⟨_, hG241, (Regs.step hReg243 hDi z z z z), hI242⟩⟩
 rintro D r wd244 ⟨G240, hG241, hReg243, hI242⟩ hDi hpre hpost
 obtain ⟨r0, rfl⟩ := Has.ex (cC (hReg243.get 10 rfl (hpre 10 rfl)) (cC (hReg243.get 16 rfl (hpre 16 rfl)) cN))
 exact q_add z z<|nl ⟨z, ⟨_, hG241, (Regs.step hReg243 hDi z z z z), hI242⟩⟩
 rintro D r wd244 ⟨G240, hG241, hReg243, hI242⟩ hDi hpre hpost
 obtain ⟨r0, rfl⟩ := Has.ex (cC (hReg243.get 5 rfl (hpre 5 rfl)) (cC (hReg243.get 17 rfl (hpre 17 rfl)) cN))
 exact q_mul z z<|nl ⟨z, ⟨_, hG241, (Regs.step hReg243 hDi z z z z), hI242⟩⟩
 rintro D r wd244 ⟨G240, hG241, hReg243, hI242⟩ hDi hpre hpost
 obtain ⟨r0, rfl⟩ := Has.ex (cC (hReg243.get 18 rfl (hpre 18 rfl)) cN)
 exact asn z<|nl ⟨z, ⟨_, hG241, (Regs.step hReg243 hDi z z z z), hI242⟩⟩
 intro D r wd244 hall hR
 obtain ⟨G240, hG241, hReg243, hI242⟩ := hR
 obtain ⟨r0, rfl⟩ := Has.ex (cC (hReg243.ins.get 0 rfl) (cC (hReg243.ins.get 1 rfl) (cC (hReg243.ins.get 2 rfl) (cC (hReg243.ins.get 3 rfl) (cC (hReg243.get 19 rfl (hall 19 (Nat.le_of_ble_eq_true rfl))) cN)))))
 refine hK34 _ _ _<|sr fun K245 hK246=>mv z<|q_len so24 z<|mv z<|nl<|hK246 _ _ _<|wb<|bK H fun v272 hC H=>?_
 refine wpc_mono (Q := fun e r ds w => e = .exit 0 ∧ ∃ (A273 : Option Addr) (c274 : Nat) (G279 : Gh), ds = [] ∧ G240 ≤ G279 ∧ Has [] r ∧ Hp G279 (bx g2 [int .i64 a3.sheet.Paper.Width, int .i64 a3.sheet.Paper.Height, int .i64 a3.sheet.Paper.Columns, int .i64 a3.sheet.Paper.Gap, int .i64 a3.sheet.Paper.Scale, int .i64 a3.sheet.Paper.Lang, slice A273 v272.length c274, slice A8 a3.notes.length c9, slice A20 n21 c22] 67 :: tk (slice A8 a3.notes.length c9) 8 36 :: rwI G (Kd.int .i64) A20 [] a3.fills [] c22 3 :: tk (slice A273 v272.length c274) 8 36 :: L) w ∧ v272.length ≤ c274 ∧ Dat k_api_Slice G279 A273 v272 ∧ Own A273 c274 ∧ True) ?_ ?_
 refine have hI350:=Hp.pick 4 [0, 2, 3, 1] hI242 z;wpc_loop fun I hLp=>?_
 refine pages_open_put_k2_l271.partial_correctness a3 a26 a31 a32 y44 (fun v251 v252 o => ∀ (A253 : Option Addr) (c254 : Nat) (G284 : Gh) (r : Rg) (w : World), G240 ≤ G284 → Has [(0, pointer (some ⟨g2, 0, none⟩)), (2, int .i64 a31), (3, int .i64 a32), (8, int .i64 (w64 ((w64 ((a3.fills.length : Int) - 1)) * (w64 (y44 + a3.sheet.Paper.Gap))))), (30, slice A27 a26.length c28), (31, int .i64 (a26.length : Int)), (32, int .i64 v251)] r → Hp G284 (bx g2 [int .i64 a3.sheet.Paper.Width, int .i64 a3.sheet.Paper.Height, int .i64 a3.sheet.Paper.Columns, int .i64 a3.sheet.Paper.Gap, int .i64 a3.sheet.Paper.Scale, int .i64 a3.sheet.Paper.Lang, slice A253 v252.length c254, slice A8 a3.notes.length c9, slice A20 n21 c22] 67 :: tk (slice A8 a3.notes.length c9) 8 36 :: rwI G (Kd.int .i64) A20 [] a3.fills [] c22 3 :: tk (slice A253 v252.length c254) 8 36 :: L) w → v252.length ≤ c254 → Dat k_api_Slice G284 A253 v252 → Own A253 c254 → o = v272 → I r [] w) ?_ 0 a3.placed _ hC A4 c5 _ _ _ gR ⟨rfl, rfl, rfl, rfl, rfl, rfl, rfl, tv⟩ hI350 hl6 (Dat.mono hG241 hD7) ho16 rfl
 intro _ ih v251 v252 o H A253 c254 G284 r wd286 hG285 hHas hI287 hl255 hD256 ho257 ho
 rw [ho] at H; clear ho
 rw [hHas.eq]; clear hHas
 refine hLp _ _ _<|sr fun K288 hK289=>q_lss z z<|nl<|hK289 _ _ _<|sQ fun K290 hK291=>dC (v251 < (a26.length : Int)) (fun h292=>?_) fun h292=>?_
 refine yK h292 H fun H=>wt (bY h292)<|ws<|hK291 _ _ _<|sQ fun K293 hK294=>wb<|sr fun K295 hK296=>iK H fun⟨h297, h297'⟩H=>?_
 obtain ⟨ad298, cs299, hA300, hK301, hn302, hc303⟩ := Dat.get (Dat.mono (gT hG241 hG285) hD30) z_api_Slice (v251) h297 h297'
 obtain ⟨rfl⟩ := open_api_Slice hK301
 refine q_ia el24 z hA300 z h297 h297'<|q_lfA hI287 ag36 z (cs := [int .i64 ((a26.getD (Int.toNat v251) z_api_Slice).Node), int .i64 ((a26.getD (Int.toNat v251) z_api_Slice).Table), int .i64 ((a26.getD (Int.toNat v251) z_api_Slice).X), int .i64 ((a26.getD (Int.toNat v251) z_api_Slice).Y), int .i64 ((a26.getD (Int.toNat v251) z_api_Slice).H), string ((a26.getD (Int.toNat v251) z_api_Slice).Text), bool ((a26.getD (Int.toNat v251) z_api_Slice).Head), bool ((a26.getD (Int.toNat v251) z_api_Slice).Note)]) z (fun j v hv => gR.cel _ _ (hc303 j v hv))<|q_alloc hI287 ze36 fun g305 wd306 hI307=>stk hI307 0 ag36 z z z z z z z fun wd308 hI309=>nl<|hK296 _ _ _<|sr fun K310 hK311=>fa fl36_2 z<|ld hI309 0 ag3 z z z<|mv z<|q_add z z<|fa fl36_3 z<|ld hI309 0 ag3 z z z<|mv z<|?_
 refine q_sub z z<|mv z<|q_add z z<|fa fl36_2 z<|stk hI309 0 ag3 z z z z z z z fun wd312 hI313=>fa fl36_3 z<|stk hI313 0 ag3 z z z z z z z fun wd314 hI315=>nl<|hK311 _ _ _<|iK H fun h334 H=>?_
 refine wpc_drawL [0, 0, 2, 6, 14, 0, 32, 126, 255, 511, 1023] (fun D r w => (D 6 = false ∧ ∃ (G' : Gh), G284 ≤ G' ∧ Regs [(0, pointer (some ⟨g2, 0, none⟩)), (2, int .i64 a31), (3, int .i64 a32), (8, int .i64 (w64 ((w64 ((a3.fills.length : Int) - 1)) * (w64 (y44 + a3.sheet.Paper.Gap))))), (10, pointer (some ⟨g305, 0, none⟩)), (30, slice A27 a26.length c28), (31, int .i64 (a26.length : Int)), (32, int .i64 v251)] [] [(0, 48, pointer (some ⟨g2, 0, none⟩)), (1, 49, pointer (some ⟨g2, 0, none⟩)), (2, 50, pointer (some ⟨g2, 0, none⟩)), (3, 51, pointer (some ⟨g2, 6, none⟩)), (4, 52, slice A253 v252.length c254), (5, 53, agg [int .i64 ((a26.getD (Int.toNat v251) z_api_Slice).Node), int .i64 ((a26.getD (Int.toNat v251) z_api_Slice).Table), int .i64 (w64 (((a26.getD (Int.toNat v251) z_api_Slice).X) + (w64 ((w64 ((a3.fills.length : Int) - 1)) * (w64 (y44 + a3.sheet.Paper.Gap)))))), int .i64 (w64 ((w64 (((a26.getD (Int.toNat v251) z_api_Slice).Y) - a31)) + a32)), int .i64 ((a26.getD (Int.toNat v251) z_api_Slice).H), string ((a26.getD (Int.toNat v251) z_api_Slice).Text), bool ((a26.getD (Int.toNat v251) z_api_Slice).Head), bool ((a26.getD (Int.toNat v251) z_api_Slice).Note)].toArray)] D r ∧ Hp G' (bx g305 [int .i64 ((a26.getD (Int.toNat v251) z_api_Slice).Node), int .i64 ((a26.getD (Int.toNat v251) z_api_Slice).Table), int .i64 (w64 (((a26.getD (Int.toNat v251) z_api_Slice).X) + (w64 ((w64 ((a3.fills.length : Int) - 1)) * (w64 (y44 + a3.sheet.Paper.Gap)))))), int .i64 (w64 ((w64 (((a26.getD (Int.toNat v251) z_api_Slice).Y) - a31)) + a32)), int .i64 ((a26.getD (Int.toNat v251) z_api_Slice).H), string ((a26.getD (Int.toNat v251) z_api_Slice).Text), bool ((a26.getD (Int.toNat v251) z_api_Slice).Head), bool ((a26.getD (Int.toNat v251) z_api_Slice).Note)] 36 :: bx g2 [int .i64 a3.sheet.Paper.Width, int .i64 a3.sheet.Paper.Height, int .i64 a3.sheet.Paper.Columns, int .i64 a3.sheet.Paper.Gap, int .i64 a3.sheet.Paper.Scale, int .i64 a3.sheet.Paper.Lang, slice A253 v252.length c254, slice A8 a3.notes.length c9, slice A20 n21 c22] 67 :: tk (slice A8 a3.notes.length c9) 8 36 :: rwI G (Kd.int .i64) A20 [] a3.fills [] c22 3 :: tk (slice A253 v252.length c254) 8 36 :: L) w) ∨ (D 6 = true ∧ D 7 = false ∧ ∃ (g322 : Nat) (G' : Gh), G284 ≤ G' ∧ Regs [(0, pointer (some ⟨g2, 0, none⟩)), (2, int .i64 a31), (3, int .i64 a32), (8, int .i64 (w64 ((w64 ((a3.fills.length : Int) - 1)) * (w64 (y44 + a3.sheet.Paper.Gap))))), (10, pointer (some ⟨g305, 0, none⟩)), (30, slice A27 a26.length c28), (31, int .i64 (a26.length : Int)), (32, int .i64 v251)] [] [(0, 48, pointer (some ⟨g2, 0, none⟩)), (1, 49, pointer (some ⟨g2, 0, none⟩)), (2, 50, pointer (some ⟨g2, 0, none⟩)), (3, 51, pointer (some ⟨g2, 6, none⟩)), (4, 52, slice A253 v252.length c254), (5, 53, agg [int .i64 ((a26.getD (Int.toNat v251) z_api_Slice).Node), int .i64 ((a26.getD (Int.toNat v251) z_api_Slice).Table), int .i64 (w64 (((a26.getD (Int.toNat v251) z_api_Slice).X) + (w64 ((w64 ((a3.fills.length : Int) - 1)) * (w64 (y44 + a3.sheet.Paper.Gap)))))), int .i64 (w64 ((w64 (((a26.getD (Int.toNat v251) z_api_Slice).Y) - a31)) + a32)), int .i64 ((a26.getD (Int.toNat v251) z_api_Slice).H), string ((a26.getD (Int.toNat v251) z_api_Slice).Text), bool ((a26.getD (Int.toNat v251) z_api_Slice).Head), bool ((a26.getD (Int.toNat v251) z_api_Slice).Note)].toArray), (6, 54, slice (some ⟨g322, 0, none⟩) 1 1)] D r ∧ Hp G' (bx g322 [int .i64 ((a26.getD (Int.toNat v251) z_api_Slice).Node), int .i64 ((a26.getD (Int.toNat v251) z_api_Slice).Table), int .i64 (w64 (((a26.getD (Int.toNat v251) z_api_Slice).X) + (w64 ((w64 ((a3.fills.length : Int) - 1)) * (w64 (y44 + a3.sheet.Paper.Gap)))))), int .i64 (w64 ((w64 (((a26.getD (Int.toNat v251) z_api_Slice).Y) - a31)) + a32)), int .i64 ((a26.getD (Int.toNat v251) z_api_Slice).H), string ((a26.getD (Int.toNat v251) z_api_Slice).Text), bool ((a26.getD (Int.toNat v251) z_api_Slice).Head), bool ((a26.getD (Int.toNat v251) z_api_Slice).Note)] 36 :: bx g305 [int .i64 ((a26.getD (Int.toNat v251) z_api_Slice).Node), int .i64 ((a26.getD (Int.toNat v251) z_api_Slice).Table), int .i64 (w64 (((a26.getD (Int.toNat v251) z_api_Slice).X) + (w64 ((w64 ((a3.fills.length : Int) - 1)) * (w64 (y44 + a3.sheet.Paper.Gap)))))), int .i64 (w64 ((w64 (((a26.getD (Int.toNat v251) z_api_Slice).Y) - a31)) + a32)), int .i64 ((a26.getD (Int.toNat v251) z_api_Slice).H), string ((a26.getD (Int.toNat v251) z_api_Slice).Text), bool ((a26.getD (Int.toNat v251) z_api_Slice).Head), bool ((a26.getD (Int.toNat v251) z_api_Slice).Note)] 36 :: bx g2 [int .i64 a3.sheet.Paper.Width, int .i64 a3.sheet.Paper.Height, int .i64 a3.sheet.Paper.Columns, int .i64 a3.sheet.Paper.Gap, int .i64 a3.sheet.Paper.Scale, int .i64 a3.sheet.Paper.Lang, slice A253 v252.length c254, slice A8 a3.notes.length c9, slice A20 n21 c22] 67 :: tk (slice A8 a3.notes.length c9) 8 36 :: rwI G (Kd.int .i64) A20 [] a3.fills [] c22 3 :: tk (slice A253 v252.length c254) 8 36 :: L) w) ∨ (D 7 = true ∧ D 10 = false ∧ ∃ (g322 : Nat) (A325 : Option Addr) (c326 : Nat) (G' : Gh), G284 ≤ G' ∧ (v252 ++ [(⟨(a26.getD (Int.toNat v251) z_api_Slice).Node, (a26.getD (Int.toNat v251) z_api_Slice).Table, w64 (((a26.getD (Int.toNat v251) z_api_Slice).X) + (w64 ((w64 ((a3.fills.length : Int) - 1)) * (w64 (y44 + a3.sheet.Paper.Gap))))), w64 ((w64 (((a26.getD (Int.toNat v251) z_api_Slice).Y) - a31)) + a32), (a26.getD (Int.toNat v251) z_api_Slice).H, (a26.getD (Int.toNat v251) z_api_Slice).Text, (a26.getD (Int.toNat v251) z_api_Slice).Head, (a26.getD (Int.toNat v251) z_api_Slice).Note⟩ : api_Slice)]).length ≤ c326 ∧ Dat k_api_Slice G' A325 (v252 ++ [(⟨(a26.getD (Int.toNat v251) z_api_Slice).Node, (a26.getD (Int.toNat v251) z_api_Slice).Table, w64 (((a26.getD (Int.toNat v251) z_api_Slice).X) + (w64 ((w64 ((a3.fills.length : Int) - 1)) * (w64 (y44 + a3.sheet.Paper.Gap))))), w64 ((w64 (((a26.getD (Int.toNat v251) z_api_Slice).Y) - a31)) + a32), (a26.getD (Int.toNat v251) z_api_Slice).H, (a26.getD (Int.toNat v251) z_api_Slice).Text, (a26.getD (Int.toNat v251) z_api_Slice).Head, (a26.getD (Int.toNat v251) z_api_Slice).Note⟩ : api_Slice)]) ∧ Own A325 c326 ∧ Regs [(0, pointer (some ⟨g2, 0, none⟩)), (2, int .i64 a31), (3, int .i64 a32), (8, int .i64 (w64 ((w64 ((a3.fills.length : Int) - 1)) * (w64 (y44 + a3.sheet.Paper.Gap))))), (10, pointer (some ⟨g305, 0, none⟩)), (30, slice A27 a26.length c28), (31, int .i64 (a26.length : Int)), (32, int .i64 v251)] [] [(0, 48, pointer (some ⟨g2, 0, none⟩)), (1, 49, pointer (some ⟨g2, 0, none⟩)), (2, 50, pointer (some ⟨g2, 0, none⟩)), (3, 51, pointer (some ⟨g2, 6, none⟩)), (4, 52, slice A253 v252.length c254), (5, 53, agg [int .i64 ((a26.getD (Int.toNat v251) z_api_Slice).Node), int .i64 ((a26.getD (Int.toNat v251) z_api_Slice).Table), int .i64 (w64 (((a26.getD (Int.toNat v251) z_api_Slice).X) + (w64 ((w64 ((a3.fills.length : Int) - 1)) * (w64 (y44 + a3.sheet.Paper.Gap)))))), int .i64 (w64 ((w64 (((a26.getD (Int.toNat v251) z_api_Slice).Y) - a31)) + a32)), int .i64 ((a26.getD (Int.toNat v251) z_api_Slice).H), string ((a26.getD (Int.toNat v251) z_api_Slice).Text), bool ((a26.getD (Int.toNat v251) z_api_Slice).Head), bool ((a26.getD (Int.toNat v251) z_api_Slice).Note)].toArray), (6, 54, slice (some ⟨g322, 0, none⟩) 1 1), (7, 55, slice A325 (v252 ++ [(⟨(a26.getD (Int.toNat v251) z_api_Slice).Node, (a26.getD (Int.toNat v251) z_api_Slice).Table, w64 (((a26.getD (Int.toNat v251) z_api_Slice).X) + (w64 ((w64 ((a3.fills.length : Int) - 1)) * (w64 (y44 + a3.sheet.Paper.Gap))))), w64 ((w64 (((a26.getD (Int.toNat v251) z_api_Slice).Y) - a31)) + a32), (a26.getD (Int.toNat v251) z_api_Slice).H, (a26.getD (Int.toNat v251) z_api_Slice).Text, (a26.getD (Int.toNat v251) z_api_Slice).Head, (a26.getD (Int.toNat v251) z_api_Slice).Note⟩ : api_Slice)]).length c326), (8, 56, pointer (some ⟨g2, 0, none⟩)), (9, 57, pointer (some ⟨g2, 6, none⟩))] D r ∧ Hp G' (bx g322 [int .i64 ((a26.getD (Int.toNat v251) z_api_Slice).Node), int .i64 ((a26.getD (Int.toNat v251) z_api_Slice).Table), int .i64 (w64 (((a26.getD (Int.toNat v251) z_api_Slice).X) + (w64 ((w64 ((a3.fills.length : Int) - 1)) * (w64 (y44 + a3.sheet.Paper.Gap)))))), int .i64 (w64 ((w64 (((a26.getD (Int.toNat v251) z_api_Slice).Y) - a31)) + a32)), int .i64 ((a26.getD (Int.toNat v251) z_api_Slice).H), string ((a26.getD (Int.toNat v251) z_api_Slice).Text), bool ((a26.getD (Int.toNat v251) z_api_Slice).Head), bool ((a26.getD (Int.toNat v251) z_api_Slice).Note)] 36 :: bx g305 [int .i64 ((a26.getD (Int.toNat v251) z_api_Slice).Node), int .i64 ((a26.getD (Int.toNat v251) z_api_Slice).Table), int .i64 (w64 (((a26.getD (Int.toNat v251) z_api_Slice).X) + (w64 ((w64 ((a3.fills.length : Int) - 1)) * (w64 (y44 + a3.sheet.Paper.Gap)))))), int .i64 (w64 ((w64 (((a26.getD (Int.toNat v251) z_api_Slice).Y) - a31)) + a32)), int .i64 ((a26.getD (Int.toNat v251) z_api_Slice).H), string ((a26.getD (Int.toNat v251) z_api_Slice).Text), bool ((a26.getD (Int.toNat v251) z_api_Slice).Head), bool ((a26.getD (Int.toNat v251) z_api_Slice).Note)] 36 :: bx g2 [int .i64 a3.sheet.Paper.Width, int .i64 a3.sheet.Paper.Height, int .i64 a3.sheet.Paper.Columns, int .i64 a3.sheet.Paper.Gap, int .i64 a3.sheet.Paper.Scale, int .i64 a3.sheet.Paper.Lang, slice A253 v252.length c254, slice A8 a3.notes.length c9, slice A20 n21 c22] 67 :: tk (slice A8 a3.notes.length c9) 8 36 :: rwI G (Kd.int .i64) A20 [] a3.fills [] c22 3 :: tk (slice A325 (v252 ++ [(⟨(a26.getD (Int.toNat v251) z_api_Slice).Node, (a26.getD (Int.toNat v251) z_api_Slice).Table, w64 (((a26.getD (Int.toNat v251) z_api_Slice).X) + (w64 ((w64 ((a3.fills.length : Int) - 1)) * (w64 (y44 + a3.sheet.Paper.Gap))))), w64 ((w64 (((a26.getD (Int.toNat v251) z_api_Slice).Y) - a31)) + a32), (a26.getD (Int.toNat v251) z_api_Slice).H, (a26.getD (Int.toNat v251) z_api_Slice).Text, (a26.getD (Int.toNat v251) z_api_Slice).Head, (a26.getD (Int.toNat v251) z_api_Slice).Note⟩ : api_Slice)]).length c326) 8 36 :: L) w) ∨ (D 10 = true ∧ ∃ (g322 : Nat) (A325 : Option Addr) (c326 : Nat) (G' : Gh), G284 ≤ G' ∧ (v252 ++ [(⟨(a26.getD (Int.toNat v251) z_api_Slice).Node, (a26.getD (Int.toNat v251) z_api_Slice).Table, w64 (((a26.getD (Int.toNat v251) z_api_Slice).X) + (w64 ((w64 ((a3.fills.length : Int) - 1)) * (w64 (y44 + a3.sheet.Paper.Gap))))), w64 ((w64 (((a26.getD (Int.toNat v251) z_api_Slice).Y) - a31)) + a32), (a26.getD (Int.toNat v251) z_api_Slice).H, (a26.getD (Int.toNat v251) z_api_Slice).Text, (a26.getD (Int.toNat v251) z_api_Slice).Head, (a26.getD (Int.toNat v251) z_api_Slice).Note⟩ : api_Slice)]).length ≤ c326 ∧ Dat k_api_Slice G' A325 (v252 ++ [(⟨(a26.getD (Int.toNat v251) z_api_Slice).Node, (a26.getD (Int.toNat v251) z_api_Slice).Table, w64 (((a26.getD (Int.toNat v251) z_api_Slice).X) + (w64 ((w64 ((a3.fills.length : Int) - 1)) * (w64 (y44 + a3.sheet.Paper.Gap))))), w64 ((w64 (((a26.getD (Int.toNat v251) z_api_Slice).Y) - a31)) + a32), (a26.getD (Int.toNat v251) z_api_Slice).H, (a26.getD (Int.toNat v251) z_api_Slice).Text, (a26.getD (Int.toNat v251) z_api_Slice).Head, (a26.getD (Int.toNat v251) z_api_Slice).Note⟩ : api_Slice)]) ∧ Own A325 c326 ∧ Regs [(0, pointer (some ⟨g2, 0, none⟩)), (2, int .i64 a31), (3, int .i64 a32), (8, int .i64 (w64 ((w64 ((a3.fills.length : Int) - 1)) * (w64 (y44 + a3.sheet.Paper.Gap))))), (10, pointer (some ⟨g305, 0, none⟩)), (30, slice A27 a26.length c28), (31, int .i64 (a26.length : Int)), (32, int .i64 v251)] [] [(0, 48, pointer (some ⟨g2, 0, none⟩)), (1, 49, pointer (some ⟨g2, 0, none⟩)), (2, 50, pointer (some ⟨g2, 0, none⟩)), (3, 51, pointer (some ⟨g2, 6, none⟩)), (4, 52, slice A253 v252.length c254), (5, 53, agg [int .i64 ((a26.getD (Int.toNat v251) z_api_Slice).Node), int .i64 ((a26.getD (Int.toNat v251) z_api_Slice).Table), int .i64 (w64 (((a26.getD (Int.toNat v251) z_api_Slice).X) + (w64 ((w64 ((a3.fills.length : Int) - 1)) * (w64 (y44 + a3.sheet.Paper.Gap)))))), int .i64 (w64 ((w64 (((a26.getD (Int.toNat v251) z_api_Slice).Y) - a31)) + a32)), int .i64 ((a26.getD (Int.toNat v251) z_api_Slice).H), string ((a26.getD (Int.toNat v251) z_api_Slice).Text), bool ((a26.getD (Int.toNat v251) z_api_Slice).Head), bool ((a26.getD (Int.toNat v251) z_api_Slice).Note)].toArray), (6, 54, slice (some ⟨g322, 0, none⟩) 1 1), (7, 55, slice A325 (v252 ++ [(⟨(a26.getD (Int.toNat v251) z_api_Slice).Node, (a26.getD (Int.toNat v251) z_api_Slice).Table, w64 (((a26.getD (Int.toNat v251) z_api_Slice).X) + (w64 ((w64 ((a3.fills.length : Int) - 1)) * (w64 (y44 + a3.sheet.Paper.Gap))))), w64 ((w64 (((a26.getD (Int.toNat v251) z_api_Slice).Y) - a31)) + a32), (a26.getD (Int.toNat v251) z_api_Slice).H, (a26.getD (Int.toNat v251) z_api_Slice).Text, (a26.getD (Int.toNat v251) z_api_Slice).Head, (a26.getD (Int.toNat v251) z_api_Slice).Note⟩ : api_Slice)]).length c326), (8, 56, pointer (some ⟨g2, 0, none⟩)), (9, 57, pointer (some ⟨g2, 6, none⟩))] D r ∧ Hp G' (bx g322 [int .i64 ((a26.getD (Int.toNat v251) z_api_Slice).Node), int .i64 ((a26.getD (Int.toNat v251) z_api_Slice).Table), int .i64 (w64 (((a26.getD (Int.toNat v251) z_api_Slice).X) + (w64 ((w64 ((a3.fills.length : Int) - 1)) * (w64 (y44 + a3.sheet.Paper.Gap)))))), int .i64 (w64 ((w64 (((a26.getD (Int.toNat v251) z_api_Slice).Y) - a31)) + a32)), int .i64 ((a26.getD (Int.toNat v251) z_api_Slice).H), string ((a26.getD (Int.toNat v251) z_api_Slice).Text), bool ((a26.getD (Int.toNat v251) z_api_Slice).Head), bool ((a26.getD (Int.toNat v251) z_api_Slice).Note)] 36 :: bx g305 [int .i64 ((a26.getD (Int.toNat v251) z_api_Slice).Node), int .i64 ((a26.getD (Int.toNat v251) z_api_Slice).Table), int .i64 (w64 (((a26.getD (Int.toNat v251) z_api_Slice).X) + (w64 ((w64 ((a3.fills.length : Int) - 1)) * (w64 (y44 + a3.sheet.Paper.Gap)))))), int .i64 (w64 ((w64 (((a26.getD (Int.toNat v251) z_api_Slice).Y) - a31)) + a32)), int .i64 ((a26.getD (Int.toNat v251) z_api_Slice).H), string ((a26.getD (Int.toNat v251) z_api_Slice).Text), bool ((a26.getD (Int.toNat v251) z_api_Slice).Head), bool ((a26.getD (Int.toNat v251) z_api_Slice).Note)] 36 :: bx g2 [int .i64 a3.sheet.Paper.Width, int .i64 a3.sheet.Paper.Height, int .i64 a3.sheet.Paper.Columns, int .i64 a3.sheet.Paper.Gap, int .i64 a3.sheet.Paper.Scale, int .i64 a3.sheet.Paper.Lang, slice A325 (v252 ++ [(⟨(a26.getD (Int.toNat v251) z_api_Slice).Node, (a26.getD (Int.toNat v251) z_api_Slice).Table, w64 (((a26.getD (Int.toNat v251) z_api_Slice).X) + (w64 ((w64 ((a3.fills.length : Int) - 1)) * (w64 (y44 + a3.sheet.Paper.Gap))))), w64 ((w64 (((a26.getD (Int.toNat v251) z_api_Slice).Y) - a31)) + a32), (a26.getD (Int.toNat v251) z_api_Slice).H, (a26.getD (Int.toNat v251) z_api_Slice).Text, (a26.getD (Int.toNat v251) z_api_Slice).Head, (a26.getD (Int.toNat v251) z_api_Slice).Note⟩ : api_Slice)]).length c326, slice A8 a3.notes.length c9, slice A20 n21 c22] 67 :: tk (slice A8 a3.notes.length c9) 8 36 :: rwI G (Kd.int .i64) A20 [] a3.fills [] c22 3 :: tk (slice A325 (v252 ++ [(⟨(a26.getD (Int.toNat v251) z_api_Slice).Node, (a26.getD (Int.toNat v251) z_api_Slice).Table, w64 (((a26.getD (Int.toNat v251) z_api_Slice).X) + (w64 ((w64 ((a3.fills.length : Int) - 1)) * (w64 (y44 + a3.sheet.Paper.Gap))))), w64 ((w64 (((a26.getD (Int.toNat v251) z_api_Slice).Y) - a31)) + a32), (a26.getD (Int.toNat v251) z_api_Slice).H, (a26.getD (Int.toNat v251) z_api_Slice).Text, (a26.getD (Int.toNat v251) z_api_Slice).Head, (a26.getD (Int.toNat v251) z_api_Slice).Note⟩ : api_Slice)]).length c326) 8 36 :: L) w)) mixo z z ?_ ?_ ?_
 exact (.inl ⟨z, _, Gh.le_refl _, Regs.start ⟨z, z, z, z, z, z, z, z, tv⟩ trivial, hI315.drew⟩)
 refine ⟨?_, ?_, ?_, ?_, ?_, ?_, ?_, ?_, ?_, ?_, ?_, tv⟩
 rintro D r wd341 (⟨hd2, G337, hG338, hReg340, hI339⟩ | ⟨hd1, hd2, g322, G337, hG338, hReg340, hI339⟩ | ⟨hd1, hd2, g322, A325, c326, G337, hG338, hl331, hD332, ho330, hReg340, hI339⟩ | ⟨hd1, g322, A325, c326, G337, hG338, hl331, hD332, ho330, hReg340, hI339⟩) hDi hpre hpost
 obtain ⟨r0, rfl⟩ := Has.ex (cC (hReg340.ins.get 0 rfl) cN)
 exact mv z<|nl ⟨z, (.inl ⟨hd2, _, hG338, (Regs.step hReg340 hDi z z z z), hI339⟩)⟩
 obtain ⟨r0, rfl⟩ := Has.ex (cC (hReg340.ins.get 0 rfl) cN)
 exact mv z<|nl ⟨z, (.inr (.inl ⟨hd1, hd2, g322, _, hG338, (Regs.step hReg340 hDi z z z z), hI339⟩))⟩
 obtain ⟨r0, rfl⟩ := Has.ex (cC (hReg340.ins.get 0 rfl) cN)
 exact mv z<|nl ⟨z, (.inr (.inr (.inl ⟨hd1, hd2, g322, A325, c326, _, hG338, hl331, hD332, ho330, (Regs.step hReg340 hDi z z z z), hI339⟩)))⟩
 cases (hpost 10 rfl).symm.trans hd1
 rintro D r wd341 (⟨hd2, G337, hG338, hReg340, hI339⟩ | ⟨hd1, hd2, g322, G337, hG338, hReg340, hI339⟩ | ⟨hd1, hd2, g322, A325, c326, G337, hG338, hl331, hD332, ho330, hReg340, hI339⟩ | ⟨hd1, g322, A325, c326, G337, hG338, hl331, hD332, ho330, hReg340, hI339⟩) hDi hpre hpost
 obtain ⟨r0, rfl⟩ := Has.ex (cC (hReg340.ins.get 0 rfl) cN)
 exact mv z<|nl ⟨z, (.inl ⟨hd2, _, hG338, (Regs.step hReg340 hDi z z z z), hI339⟩)⟩
 obtain ⟨r0, rfl⟩ := Has.ex (cC (hReg340.ins.get 0 rfl) cN)
 exact mv z<|nl ⟨z, (.inr (.inl ⟨hd1, hd2, g322, _, hG338, (Regs.step hReg340 hDi z z z z), hI339⟩))⟩
 cases (hpost 7 rfl).symm.trans hd1
 cases (hpost 10 rfl).symm.trans hd1
 rintro D r wd341 (⟨hd2, G337, hG338, hReg340, hI339⟩ | ⟨hd1, hd2, g322, G337, hG338, hReg340, hI339⟩ | ⟨hd1, hd2, g322, A325, c326, G337, hG338, hl331, hD332, ho330, hReg340, hI339⟩ | ⟨hd1, g322, A325, c326, G337, hG338, hl331, hD332, ho330, hReg340, hI339⟩) hDi hpre hpost
 obtain ⟨r0, rfl⟩ := Has.ex (cC (hReg340.get 1 rfl (hpre 1 rfl)) cN)
 exact q_nc z<|nl ⟨z, (.inl ⟨hd2, _, hG338, (Regs.step hReg340 hDi z z z z), hI339⟩)⟩
 obtain ⟨r0, rfl⟩ := Has.ex (cC (hReg340.get 1 rfl (hpre 1 rfl)) cN)
 exact q_nc z<|nl ⟨z, (.inr (.inl ⟨hd1, hd2, g322, _, hG338, (Regs.step hReg340 hDi z z z z), hI339⟩))⟩
 cases (hpost 7 rfl).symm.trans hd1
 cases (hpost 10 rfl).symm.trans hd1
 rintro D r wd341 (⟨hd2, G337, hG338, hReg340, hI339⟩ | ⟨hd1, hd2, g322, G337, hG338, hReg340, hI339⟩ | ⟨hd1, hd2, g322, A325, c326, G337, hG338, hl331, hD332, ho330, hReg340, hI339⟩ | ⟨hd1, g322, A325, c326, G337, hG338, hl331, hD332, ho330, hReg340, hI339⟩) hDi hpre hpost
 obtain ⟨r0, rfl⟩ := Has.ex (cC (hReg340.get 2 rfl (hpre 2 rfl)) cN)
 exact fa fl67_1 z<|nl ⟨z, (.inl ⟨hd2, _, hG338, (Regs.step hReg340 hDi z z z z), hI339⟩)⟩
 obtain ⟨r0, rfl⟩ := Has.ex (cC (hReg340.get 2 rfl (hpre 2 rfl)) cN)
 exact fa fl67_1 z<|nl ⟨z, (.inr (.inl ⟨hd1, hd2, g322, _, hG338, (Regs.step hReg340 hDi z z z z), hI339⟩))⟩
 cases (hpost 7 rfl).symm.trans hd1
 cases (hpost 10 rfl).symm.trans hd1
 rintro D r wd341 (⟨hd2, G337, hG338, hReg340, hI339⟩ | ⟨hd1, hd2, g322, G337, hG338, hReg340, hI339⟩ | ⟨hd1, hd2, g322, A325, c326, G337, hG338, hl331, hD332, ho330, hReg340, hI339⟩ | ⟨hd1, g322, A325, c326, G337, hG338, hl331, hD332, ho330, hReg340, hI339⟩) hDi hpre hpost
 obtain ⟨r0, rfl⟩ := Has.ex (cC (hReg340.get 3 rfl (hpre 3 rfl)) cN)
 exact ld hI339 1 ag24 z z z<|nl ⟨z, (.inl ⟨hd2, _, hG338, (Regs.step hReg340 hDi z z z z), hI339⟩)⟩
 obtain ⟨r0, rfl⟩ := Has.ex (cC (hReg340.get 3 rfl (hpre 3 rfl)) cN)
 exact ld hI339 2 ag24 z z z<|nl ⟨z, (.inr (.inl ⟨hd1, hd2, g322, _, hG338, (Regs.step hReg340 hDi z z z z), hI339⟩))⟩
 cases (hpost 7 rfl).symm.trans hd1
 cases (hpost 10 rfl).symm.trans hd1
 rintro D r wd341 (⟨hd2, G337, hG338, hReg340, hI339⟩ | ⟨hd1, hd2, g322, G337, hG338, hReg340, hI339⟩ | ⟨hd1, hd2, g322, A325, c326, G337, hG338, hl331, hD332, ho330, hReg340, hI339⟩ | ⟨hd1, g322, A325, c326, G337, hG338, hl331, hD332, ho330, hReg340, hI339⟩) hDi hpre hpost
 obtain ⟨r0, rfl⟩ := Has.ex (cC (hReg340.ins.get 4 rfl) cN)
 exact lda hI339 0 ag36 z z z z<|nl ⟨z, (.inl ⟨hd2, _, hG338, (Regs.step hReg340 hDi z z z z), hI339⟩)⟩
 cases (hpost 6 rfl).symm.trans hd1
 cases (hpost 7 rfl).symm.trans hd1
 cases (hpost 10 rfl).symm.trans hd1
 rintro D r wd341 (⟨hd2, G337, hG338, hReg340, hI339⟩ | ⟨hd1, hd2, g322, G337, hG338, hReg340, hI339⟩ | ⟨hd1, hd2, g322, A325, c326, G337, hG338, hl331, hD332, ho330, hReg340, hI339⟩ | ⟨hd1, g322, A325, c326, G337, hG338, hl331, hD332, ho330, hReg340, hI339⟩) hDi hpre hpost
 obtain ⟨r0, rfl⟩ := Has.ex (cC (hReg340.get 5 rfl (hpre 5 rfl)) cN)
 refine q_bs hI339 (vs := [(0, agg [int .i64 ((a26.getD (Int.toNat v251) z_api_Slice).Node), int .i64 ((a26.getD (Int.toNat v251) z_api_Slice).Table), int .i64 (w64 (((a26.getD (Int.toNat v251) z_api_Slice).X) + (w64 ((w64 ((a3.fills.length : Int) - 1)) * (w64 (y44 + a3.sheet.Paper.Gap)))))), int .i64 (w64 ((w64 (((a26.getD (Int.toNat v251) z_api_Slice).Y) - a31)) + a32)), int .i64 ((a26.getD (Int.toNat v251) z_api_Slice).H), string ((a26.getD (Int.toNat v251) z_api_Slice).Text), bool ((a26.getD (Int.toNat v251) z_api_Slice).Head), bool ((a26.getD (Int.toNat v251) z_api_Slice).Note)].toArray)]) (cs := [int .i64 ((a26.getD (Int.toNat v251) z_api_Slice).Node), int .i64 ((a26.getD (Int.toNat v251) z_api_Slice).Table), int .i64 (w64 (((a26.getD (Int.toNat v251) z_api_Slice).X) + (w64 ((w64 ((a3.fills.length : Int) - 1)) * (w64 (y44 + a3.sheet.Paper.Gap)))))), int .i64 (w64 ((w64 (((a26.getD (Int.toNat v251) z_api_Slice).Y) - a31)) + a32)), int .i64 ((a26.getD (Int.toNat v251) z_api_Slice).H), string ((a26.getD (Int.toNat v251) z_api_Slice).Text), bool ((a26.getD (Int.toNat v251) z_api_Slice).Head), bool ((a26.getD (Int.toNat v251) z_api_Slice).Note)]) el24 ze36 rfl (by decide) rfl (by kernel_rfl) (fun g322 wd323 hI324 => ?_)
 exact nl ⟨z, (.inr (.inl ⟨z, (hpost 7 z), g322, _, hG338, (Regs.step (Regs.more (new := [(6, 54, slice (some ⟨g322, 0, none⟩) 1 1)]) hReg340 (List.forall_mem_cons.2 ⟨hDi, (fun _ h => nomatch h)⟩)) hDi z z z z), hI324⟩))⟩
 cases hDi.symm.trans hd1
 cases (hpost 7 rfl).symm.trans hd1
 cases (hpost 10 rfl).symm.trans hd1
 rintro D r wd341 (⟨hd2, G337, hG338, hReg340, hI339⟩ | ⟨hd1, hd2, g322, G337, hG338, hReg340, hI339⟩ | ⟨hd1, hd2, g322, A325, c326, G337, hG338, hl331, hD332, ho330, hReg340, hI339⟩ | ⟨hd1, g322, A325, c326, G337, hG338, hl331, hD332, ho330, hReg340, hI339⟩) hDi hpre hpost
 cases (hpre 6 rfl).symm.trans hd2
 obtain ⟨r0, rfl⟩ := Has.ex (cC (hReg340.get 4 rfl (hpre 4 rfl)) (cC (hReg340.get 6 rfl (hpre 6 rfl)) cN))
 refine q_app (xs := v252) (ys := [(⟨(a26.getD (Int.toNat v251) z_api_Slice).Node, (a26.getD (Int.toNat v251) z_api_Slice).Table, w64 (((a26.getD (Int.toNat v251) z_api_Slice).X) + (w64 ((w64 ((a3.fills.length : Int) - 1)) * (w64 (y44 + a3.sheet.Paper.Gap))))), w64 ((w64 (((a26.getD (Int.toNat v251) z_api_Slice).Y) - a31)) + a32), (a26.getD (Int.toNat v251) z_api_Slice).H, (a26.getD (Int.toNat v251) z_api_Slice).Text, (a26.getD (Int.toNat v251) z_api_Slice).Head, (a26.getD (Int.toNat v251) z_api_Slice).Note⟩ : api_Slice)]) k_api_Slice hI339 5 el24 ze36 rfl rfl rfl rfl ho257 hl255 (Dat.mono hG338 hD256) (src_bx hI339 0 so24 rfl rfl) ⟨[int .i64 ((a26.getD (Int.toNat v251) z_api_Slice).Node), int .i64 ((a26.getD (Int.toNat v251) z_api_Slice).Table), int .i64 (w64 (((a26.getD (Int.toNat v251) z_api_Slice).X) + (w64 ((w64 ((a3.fills.length : Int) - 1)) * (w64 (y44 + a3.sheet.Paper.Gap)))))), int .i64 (w64 ((w64 (((a26.getD (Int.toNat v251) z_api_Slice).Y) - a31)) + a32)), int .i64 ((a26.getD (Int.toNat v251) z_api_Slice).H), string ((a26.getD (Int.toNat v251) z_api_Slice).Text), bool ((a26.getD (Int.toNat v251) z_api_Slice).Head), bool ((a26.getD (Int.toNat v251) z_api_Slice).Note)], _, rfl, (mk_api_Slice (x := (⟨(a26.getD (Int.toNat v251) z_api_Slice).Node, (a26.getD (Int.toNat v251) z_api_Slice).Table, w64 (((a26.getD (Int.toNat v251) z_api_Slice).X) + (w64 ((w64 ((a3.fills.length : Int) - 1)) * (w64 (y44 + a3.sheet.Paper.Gap))))), w64 ((w64 (((a26.getD (Int.toNat v251) z_api_Slice).Y) - a31)) + a32), (a26.getD (Int.toNat v251) z_api_Slice).H, (a26.getD (Int.toNat v251) z_api_Slice).Text, (a26.getD (Int.toNat v251) z_api_Slice).Head, (a26.getD (Int.toNat v251) z_api_Slice).Note⟩ : api_Slice))), rfl⟩ rfl (by simp only [List.length_cons, List.length_nil]; omega) (by simp only [List.length_cons, List.length_nil]; omega) (fun A325 c326 G327 wd328 hG329 ho330 hl331 hD332 hI333 => ?_)
 exact nl ⟨z, (.inr (.inr (.inl ⟨z, (hpost 10 z), g322, A325, c326, _, (gT hG338 hG329), hl331, hD332, ho330, (Regs.step (Regs.more (new := [(7, 55, slice A325 (v252 ++ [(⟨(a26.getD (Int.toNat v251) z_api_Slice).Node, (a26.getD (Int.toNat v251) z_api_Slice).Table, w64 (((a26.getD (Int.toNat v251) z_api_Slice).X) + (w64 ((w64 ((a3.fills.length : Int) - 1)) * (w64 (y44 + a3.sheet.Paper.Gap))))), w64 ((w64 (((a26.getD (Int.toNat v251) z_api_Slice).Y) - a31)) + a32), (a26.getD (Int.toNat v251) z_api_Slice).H, (a26.getD (Int.toNat v251) z_api_Slice).Text, (a26.getD (Int.toNat v251) z_api_Slice).Head, (a26.getD (Int.toNat v251) z_api_Slice).Note⟩ : api_Slice)]).length c326), (8, 56, pointer (some ⟨g2, 0, none⟩)), (9, 57, pointer (some ⟨g2, 6, none⟩))]) hReg340 (List.forall_mem_cons.2 ⟨hDi, (List.forall_mem_cons.2 ⟨hpost 8 z, (List.forall_mem_cons.2 ⟨hpost 9 z, (fun _ h => nomatch h)⟩)⟩)⟩)) hDi z z z z), hI333⟩)))⟩
 cases hDi.symm.trans hd1
 cases (hpost 10 rfl).symm.trans hd1
 rintro D r wd341 (⟨hd2, G337, hG338, hReg340, hI339⟩ | ⟨hd1, hd2, g322, G337, hG338, hReg340, hI339⟩ | ⟨hd1, hd2, g322, A325, c326, G337, hG338, hl331, hD332, ho330, hReg340, hI339⟩ | ⟨hd1, g322, A325, c326, G337, hG338, hl331, hD332, ho330, hReg340, hI339⟩) hDi hpre hpost
 cases (hpre 6 rfl).symm.trans hd2
 cases (hpre 7 rfl).symm.trans hd2
 obtain ⟨r0, rfl⟩ := Has.ex (cC (hReg340.get 0 rfl (hpre 0 rfl)) cN)
 exact q_nc z<|nl ⟨z, (.inr (.inr (.inl ⟨hd1, hd2, g322, A325, c326, _, hG338, hl331, hD332, ho330, (Regs.step hReg340 hDi z z z z), hI339⟩)))⟩
 cases (hpost 10 rfl).symm.trans hd1
 rintro D r wd341 (⟨hd2, G337, hG338, hReg340, hI339⟩ | ⟨hd1, hd2, g322, G337, hG338, hReg340, hI339⟩ | ⟨hd1, hd2, g322, A325, c326, G337, hG338, hl331, hD332, ho330, hReg340, hI339⟩ | ⟨hd1, g322, A325, c326, G337, hG338, hl331, hD332, ho330, hReg340, hI339⟩) hDi hpre hpost
 cases (hpre 6 rfl).symm.trans hd2
 cases (hpre 7 rfl).symm.trans hd2
 obtain ⟨r0, rfl⟩ := Has.ex (cC (hReg340.get 8 rfl (hpre 8 rfl)) cN)
 exact fa fl67_1 z<|nl ⟨z, (.inr (.inr (.inl ⟨hd1, hd2, g322, A325, c326, _, hG338, hl331, hD332, ho330, (Regs.step hReg340 hDi z z z z), hI339⟩)))⟩
 cases (hpost 10 rfl).symm.trans hd1
 rintro D r wd341 (⟨hd2, G337, hG338, hReg340, hI339⟩ | ⟨hd1, hd2, g322, G337, hG338, hReg340, hI339⟩ | ⟨hd1, hd2, g322, A325, c326, G337, hG338, hl331, hD332, ho330, hReg340, hI339⟩ | ⟨hd1, g322, A325, c326, G337, hG338, hl331, hD332, ho330, hReg340, hI339⟩) hDi hpre hpost
 cases (hpre 6 rfl).symm.trans hd2
 cases (hpre 7 rfl).symm.trans hd2
 obtain ⟨r0, rfl⟩ := Has.ex (cC (hReg340.get 7 rfl (hpre 7 rfl)) (cC (hReg340.get 9 rfl (hpre 9 rfl)) cN))
 exact stk hI339 2 ag24 z z z z z z z fun wd335 hI336=>nl ⟨z, (.inr (.inr (.inr ⟨z, g322, A325, c326, _, hG338, hl331, hD332, ho330, (Regs.stepN hReg340 z z), hI336⟩)))⟩
 cases hDi.symm.trans hd1
 intro D r wd341 hall hR
 rcases hR with ⟨hd2, G337, hG338, hReg340, hI339⟩ | ⟨hd1, hd2, g322, G337, hG338, hReg340, hI339⟩ | ⟨hd1, hd2, g322, A325, c326, G337, hG338, hl331, hD332, ho330, hReg340, hI339⟩ | ⟨hd1, g322, A325, c326, G337, hG338, hl331, hD332, ho330, hReg340, hI339⟩
 cases (hall 6 (Nat.le_of_ble_eq_true rfl)).symm.trans hd2
 cases (hall 7 (Nat.le_of_ble_eq_true rfl)).symm.trans hd2
 cases (hall 10 (Nat.le_of_ble_eq_true rfl)).symm.trans hd2
 obtain ⟨r0, rfl⟩ := Has.ex (cC (hReg340.ins.get 0 rfl) (cC (hReg340.ins.get 1 rfl) (cC (hReg340.ins.get 2 rfl) (cC (hReg340.ins.get 3 rfl) (cC (hReg340.ins.get 5 rfl) (cC (hReg340.ins.get 6 rfl) (cC (hReg340.ins.get 7 rfl) cN)))))))
 exact hK294 _ _ _<|wpc_region<|q_add z z<|mv z<|nl<|have hI346:=Hp.pick 6 [2, 3, 4, 5] hI339 z;ih _ _ _ H A325 c326 _ _ _ (gT hG285 hG338) ⟨z, z, z, z, z, z, z, tv⟩ hI346 hl331 hD332 ho330 z
 refine nK h292 H fun H=>wf (bN h292)<|wx<|?_
 cases H
 exact ⟨z, A253, c254, _, z, hG285, trivial, hI287, hl255, hD256, ho257, tv⟩
 rintro e r ds wd281 ⟨rfl, A273, c274, G279, rfl, hG280, hHas, hI282, hl275, hD276, ho277, _⟩
 rw [hHas.eq]; clear hHas
 refine have hI351:=Hp.rwUp hI282 2 z (gT hG241 hG280);have hI355:=Hp.pick 4 [0, 3, 1, 2] hI351 z;?_
 cases H
 exact ⟨.inl z, z, _, z, A273, c274, A8, c9, A20, n21, c22, _, (gT hG241 hG280), hI355, hl275, hD276, ho277, hl10, (Dat.mono (gT hG241 hG280) hD11), ho18, hn23, hM24, z⟩
theorem pages_open_add_k3_spec {a3 : pages_open} {a26 : pages_band} {a35 g2 A4 c5 A8 c9 A20 n21 c22 A27 c28 A31 c32} {q1036 : pages_open} {G L w} (H : pages_open_add_k3 a3 a26 a35 = some q1036) (hI : Hp G (bx g2 [int .i64 a3.sheet.Paper.Width, int .i64 a3.sheet.Paper.Height, int .i64 a3.sheet.Paper.Columns, int .i64 a3.sheet.Paper.Gap, int .i64 a3.sheet.Paper.Scale, int .i64 a3.sheet.Paper.Lang, slice A4 a3.placed.length c5, slice A8 a3.notes.length c9, slice A20 n21 c22] 67 :: tk (slice A4 a3.placed.length c5) 8 36 :: tk (slice A8 a3.notes.length c9) 8 36 :: rwI G (Kd.int .i64) A20 [] a3.fills [] c22 3 :: L) w) (hl6 : a3.placed.length ≤ c5) (hD7 : Dat k_api_Slice G A4 a3.placed) (ho16 : Own A4 c5) (hl10 : a3.notes.length ≤ c9) (hD11 : Dat k_api_Slice G A8 a3.notes) (ho18 : Own A8 c9) (hn23 : a3.fills.length = n21) (hM24 : Mw A20 A20 ([] : List Int).length n21 c22 c22 1) (hl29 : a26.slices.length ≤ c28) (hD30 : Dat k_api_Slice G A27 a26.slices) (hl33 : a26.notes.length ≤ c32) (hD34 : Dat k_api_Slice G A31 a26.notes) :
    Calls Try.prog 45 [pointer (some ⟨g2, 0, none⟩), agg [slice A27 a26.slices.length c28, slice A31 a26.notes.length c32, int .i64 a26.end_].toArray, int .i64 a35].toArray w fun e w' => ∃ (A1037 : Option Addr) (c1038 : Nat) (A1041 : Option Addr) (c1042 : Nat) (A1053 : Option Addr) (n1054 : Nat) (c1055 : Nat) (G' : Gh), G ≤ G' ∧ Hp G' (bx g2 [int .i64 q1036.sheet.Paper.Width, int .i64 q1036.sheet.Paper.Height, int .i64 q1036.sheet.Paper.Columns, int .i64 q1036.sheet.Paper.Gap, int .i64 q1036.sheet.Paper.Scale, int .i64 q1036.sheet.Paper.Lang, slice A1037 q1036.placed.length c1038, slice A1041 q1036.notes.length c1042, slice A1053 n1054 c1055] 67 :: tk (slice A1037 q1036.placed.length c1038) 8 36 :: tk (slice A1041 q1036.notes.length c1042) 8 36 :: rwI G' (Kd.int .i64) A1053 [] q1036.fills [] c1055 3 :: L) w' ∧ q1036.placed.length ≤ c1038 ∧ Dat k_api_Slice G' A1037 q1036.placed ∧ Own A1037 c1038 ∧ q1036.notes.length ≤ c1042 ∧ Dat k_api_Slice G' A1041 q1036.notes ∧ Own A1041 c1042 ∧ q1036.fills.length = n1054 ∧ Mw A1053 A1053 ([] : List Int).length n1054 c1055 c1055 1 ∧ e = .returned (tuple [].toArray) := by
 refine calls_intro (N := 38) Try.func45 z z (Nat.le_of_ble_eq_true z)<|?_
 unfold pages_open_add_k3 at H
 refine sr fun K36 hK37=>bxk hI z z fun g39 wd40 hI41=>nl<|hK37 _ _ _<|sQ fun K42 hK43=>bK H fun y55 hy240 H=>bK H fun y255 hy440 H=>?_
 refine wpc_drawL [0, 0, 2, 0, 8, 0, 63] (fun D r w => (D 6 = false ∧ ∃ (G' : Gh), G ≤ G' ∧ Regs [(0, pointer (some ⟨g2, 0, none⟩)), (2, int .i64 a35), (4, pointer (some ⟨g39, 0, none⟩))] [] [(0, 6, pointer (some ⟨g2, 0, none⟩)), (1, 7, pointer (some ⟨g39, 0, none⟩)), (2, 8, slice A27 a26.slices.length c28), (3, 9, agg [slice A27 a26.slices.length c28, slice A31 a26.notes.length c32, int .i64 a26.end_].toArray), (4, 10, int .i64 y55), (5, 11, int .i64 a35)] D r ∧ Hp G' (bx g39 [slice A27 a26.slices.length c28, slice A31 a26.notes.length c32, int .i64 a26.end_] 64 :: bx g2 [int .i64 a3.sheet.Paper.Width, int .i64 a3.sheet.Paper.Height, int .i64 a3.sheet.Paper.Columns, int .i64 a3.sheet.Paper.Gap, int .i64 a3.sheet.Paper.Scale, int .i64 a3.sheet.Paper.Lang, slice A4 a3.placed.length c5, slice A8 a3.notes.length c9, slice A20 n21 c22] 67 :: tk (slice A4 a3.placed.length c5) 8 36 :: tk (slice A8 a3.notes.length c9) 8 36 :: rwI G (Kd.int .i64) A20 [] a3.fills [] c22 3 :: L) w) ∨ (D 6 = true ∧ ∃ (A256 : Option Addr) (c257 : Nat) (A260 : Option Addr) (c261 : Nat) (A272 : Option Addr) (n273 : Nat) (c274 : Nat) (G251 : Gh) (G' : Gh), G ≤ G' ∧ y255.placed.length ≤ c257 ∧ Dat k_api_Slice G' A256 y255.placed ∧ Own A256 c257 ∧ y255.notes.length ≤ c261 ∧ Dat k_api_Slice G' A260 y255.notes ∧ Own A260 c261 ∧ y255.fills.length = n273 ∧ Mw A272 A272 ([] : List Int).length n273 c274 c274 1 ∧ G251 ≤ G' ∧ Regs [(0, pointer (some ⟨g2, 0, none⟩)), (2, int .i64 a35), (4, pointer (some ⟨g39, 0, none⟩))] [] [(0, 6, pointer (some ⟨g2, 0, none⟩)), (1, 7, pointer (some ⟨g39, 0, none⟩)), (2, 8, slice A27 a26.slices.length c28), (3, 9, agg [slice A27 a26.slices.length c28, slice A31 a26.notes.length c32, int .i64 a26.end_].toArray), (4, 10, int .i64 y55), (5, 11, int .i64 a35), (6, 12, tuple [].toArray)] D r ∧ Hp G' (bx g2 [int .i64 y255.sheet.Paper.Width, int .i64 y255.sheet.Paper.Height, int .i64 y255.sheet.Paper.Columns, int .i64 y255.sheet.Paper.Gap, int .i64 y255.sheet.Paper.Scale, int .i64 y255.sheet.Paper.Lang, slice A256 y255.placed.length c257, slice A260 y255.notes.length c261, slice A272 n273 c274] 67 :: tk (slice A256 y255.placed.length c257) 8 36 :: tk (slice A260 y255.notes.length c261) 8 36 :: rwI G251 (Kd.int .i64) A272 [] y255.fills [] c274 3 :: bx g39 [slice A27 a26.slices.length c28, slice A31 a26.notes.length c32, int .i64 a26.end_] 64 :: L) w)) mixo z z ?_ ?_ ?_
 exact (.inl ⟨z, _, Gh.le_refl _, Regs.start ⟨z, z, z, tv⟩ trivial, hI41.drew⟩)
 refine ⟨?_, ?_, ?_, ?_, ?_, ?_, ?_, tv⟩
 rintro D r wd461 (⟨hd2, G457, hG458, hReg460, hI459⟩ | ⟨hd1, A256, c257, A260, c261, A272, n273, c274, G251, G457, hG458, hl258, hD259, ho268, hl262, hD263, ho270, hn275, hM276, hGr456, hReg460, hI459⟩) hDi hpre hpost
 obtain ⟨r0, rfl⟩ := Has.ex (cC (hReg460.ins.get 0 rfl) cN)
 exact mv z<|nl ⟨z, (.inl ⟨hd2, _, hG458, (Regs.step hReg460 hDi z z z z), hI459⟩)⟩
 cases (hpost 6 rfl).symm.trans hd1
 rintro D r wd461 (⟨hd2, G457, hG458, hReg460, hI459⟩ | ⟨hd1, A256, c257, A260, c261, A272, n273, c274, G251, G457, hG458, hl258, hD259, ho268, hl262, hD263, ho270, hn275, hM276, hGr456, hReg460, hI459⟩) hDi hpre hpost
 obtain ⟨r0, rfl⟩ := Has.ex (cC (hReg460.ins.get 2 rfl) cN)
 exact fa fl64_0 z<|nl ⟨z, (.inl ⟨hd2, _, hG458, (Regs.step hReg460 hDi z z z z), hI459⟩)⟩
 cases (hpost 6 rfl).symm.trans hd1
 rintro D r wd461 (⟨hd2, G457, hG458, hReg460, hI459⟩ | ⟨hd1, A256, c257, A260, c261, A272, n273, c274, G251, G457, hG458, hl258, hD259, ho268, hl262, hD263, ho270, hn275, hM276, hGr456, hReg460, hI459⟩) hDi hpre hpost
 obtain ⟨r0, rfl⟩ := Has.ex (cC (hReg460.get 1 rfl (hpre 1 rfl)) cN)
 exact ld hI459 0 ag24 z z z<|nl ⟨z, (.inl ⟨hd2, _, hG458, (Regs.step hReg460 hDi z z z z), hI459⟩)⟩
 cases (hpost 6 rfl).symm.trans hd1
 rintro D r wd461 (⟨hd2, G457, hG458, hReg460, hI459⟩ | ⟨hd1, A256, c257, A260, c261, A272, n273, c274, G251, G457, hG458, hl258, hD259, ho268, hl262, hD263, ho270, hn275, hM276, hGr456, hReg460, hI459⟩) hDi hpre hpost
 obtain ⟨r0, rfl⟩ := Has.ex (cC (hReg460.ins.get 2 rfl) cN)
 exact lda hI459 0 ag64 z z z z<|nl ⟨z, (.inl ⟨hd2, _, hG458, (Regs.step hReg460 hDi z z z z), hI459⟩)⟩
 cases (hpost 6 rfl).symm.trans hd1
 rintro D r wd461 (⟨hd2, G457, hG458, hReg460, hI459⟩ | ⟨hd1, A256, c257, A260, c261, A272, n273, c274, G251, G457, hG458, hl258, hD259, ho268, hl262, hD263, ho270, hn275, hM276, hGr456, hReg460, hI459⟩) hDi hpre hpost
 obtain ⟨r0, rfl⟩ := Has.ex (cC (hReg460.get 3 rfl (hpre 3 rfl)) cN)
 exact cv bo26 (pages_band_top_spec hy240 hI459 hl29 (Dat.mono hG458 hD30) hl33 (Dat.mono hG458 hD34)) z z fun wd53 hI54=>nl ⟨z, (.inl ⟨hd2, _, hG458, (Regs.step hReg460 hDi z z z z), hI54⟩)⟩
 cases (hpost 6 rfl).symm.trans hd1
 rintro D r wd461 (⟨hd2, G457, hG458, hReg460, hI459⟩ | ⟨hd1, A256, c257, A260, c261, A272, n273, c274, G251, G457, hG458, hl258, hD259, ho268, hl262, hD263, ho270, hn275, hM276, hGr456, hReg460, hI459⟩) hDi hpre hpost
 obtain ⟨r0, rfl⟩ := Has.ex (cC (hReg460.ins.get 1 rfl) cN)
 exact mv z<|nl ⟨z, (.inl ⟨hd2, _, hG458, (Regs.step hReg460 hDi z z z z), hI459⟩)⟩
 cases (hpost 6 rfl).symm.trans hd1
 rintro D r wd461 (⟨hd2, G457, hG458, hReg460, hI459⟩ | ⟨hd1, A256, c257, A260, c261, A272, n273, c274, G251, G457, hG458, hl258, hD259, ho268, hl262, hD263, ho270, hn275, hM276, hGr456, hReg460, hI459⟩) hDi hpre hpost
 obtain ⟨r0, rfl⟩ := Has.ex (cC (hReg460.get 0 rfl (hpre 0 rfl)) (cC (hReg460.get 2 rfl (hpre 2 rfl)) (cC (hReg460.get 4 rfl (hpre 4 rfl)) (cC (hReg460.get 5 rfl (hpre 5 rfl)) cN))))
 refine have hI451:=Hp.rwUp hI459 4 z hG458;have hI455:=Hp.pick 5 [1, 2, 3, 4, 0] hI451 z;q_cv (vs := [pointer (some ⟨g2, 0, none⟩), slice A27 a26.slices.length c28, int .i64 y55, int .i64 a35]) bo46 z z (pages_open_put_k2_spec hy440 hI455 hl6 (Dat.mono hG458 hD7) ho16 hl10 (Dat.mono hG458 hD11) ho18 hn23 hM24 hl29 (Dat.mono hG458 hD30))<|?_
 rintro _ wd253 ⟨A256, c257, A260, c261, A272, n273, c274, G251, hG252, hI254, hl258, hD259, ho268, hl262, hD263, ho270, hn275, hM276, rfl⟩
 refine ⟨_, rfl, ?_⟩
 exact nl ⟨z, (.inr ⟨z, A256, c257, A260, c261, A272, n273, c274, G251, _, (gT hG458 hG252), hl258, hD259, ho268, hl262, hD263, ho270, hn275, hM276, gR, (Regs.step (Regs.more (new := [(6, 12, tuple [].toArray)]) hReg460 (List.forall_mem_cons.2 ⟨hDi, (fun _ h => nomatch h)⟩)) hDi z z z z), hI254⟩)⟩
 cases hDi.symm.trans hd1
 intro D r wd461 hall hR
 rcases hR with ⟨hd2, G457, hG458, hReg460, hI459⟩ | ⟨hd1, A256, c257, A260, c261, A272, n273, c274, G251, G457, hG458, hl258, hD259, ho268, hl262, hD263, ho270, hn275, hM276, hGr456, hReg460, hI459⟩
 cases (hall 6 (Nat.le_of_ble_eq_true rfl)).symm.trans hd2
 obtain ⟨r0, rfl⟩ := Has.ex (cC (hReg460.ins.get 0 rfl) (cC (hReg460.ins.get 1 rfl) (cC (hReg460.ins.get 2 rfl) cN)))
 refine hK43 _ _ _<|sQ fun K462 hK463=>bK H fun y473 hy658 H=>iK H fun⟨h669, h669'⟩H=>have hb670:=lt_n hn275 h669';?_
 obtain ⟨ad671, hA672⟩ := Mw.ad hM276 h669 hb670
 refine wpc_drawL [0, 1, 3, 7, 0, 16, 48, 112, 240, 496, 0, 0, 2048, 7168, 16383, 32767] (fun D r w => (D 15 = false ∧ ∃ (G' : Gh), G457 ≤ G' ∧ Regs [(0, pointer (some ⟨g2, 0, none⟩)), (2, int .i64 a35), (4, pointer (some ⟨g39, 0, none⟩))] [] [(0, 13, pointer (some ⟨g2, 0, none⟩)), (1, 14, pointer (some ⟨g2, 0, none⟩)), (2, 15, pointer (some ⟨g2, 8, none⟩)), (3, 16, slice A272 n273 c274), (4, 17, pointer (some ⟨g2, 0, none⟩)), (5, 18, pointer (some ⟨g2, 0, none⟩)), (6, 19, pointer (some ⟨g2, 8, none⟩)), (7, 20, slice A272 n273 c274), (8, 21, int .i64 (y255.fills.length : Int)), (9, 22, int .i64 (w64 ((y255.fills.length : Int) - 1))), (10, 23, int .i64 a35), (11, 24, agg [slice A27 a26.slices.length c28, slice A31 a26.notes.length c32, int .i64 a26.end_].toArray), (12, 25, int .i64 y473), (13, 26, int .i64 (w64 (a35 + y473))), (14, 27, pointer (some (ad671.add (Int.toNat (w64 ((y255.fills.length : Int) - 1)) * 1))))] D r ∧ Hp G' (bx g2 [int .i64 y255.sheet.Paper.Width, int .i64 y255.sheet.Paper.Height, int .i64 y255.sheet.Paper.Columns, int .i64 y255.sheet.Paper.Gap, int .i64 y255.sheet.Paper.Scale, int .i64 y255.sheet.Paper.Lang, slice A256 y255.placed.length c257, slice A260 y255.notes.length c261, slice A272 n273 c274] 67 :: tk (slice A256 y255.placed.length c257) 8 36 :: tk (slice A260 y255.notes.length c261) 8 36 :: rwI G251 (Kd.int .i64) A272 [] y255.fills [] c274 3 :: bx g39 [slice A27 a26.slices.length c28, slice A31 a26.notes.length c32, int .i64 a26.end_] 64 :: L) w) ∨ (D 15 = true ∧ ∃ (G' : Gh), G457 ≤ G' ∧ Regs [(0, pointer (some ⟨g2, 0, none⟩)), (2, int .i64 a35), (4, pointer (some ⟨g39, 0, none⟩))] [] [(0, 13, pointer (some ⟨g2, 0, none⟩)), (1, 14, pointer (some ⟨g2, 0, none⟩)), (2, 15, pointer (some ⟨g2, 8, none⟩)), (3, 16, slice A272 n273 c274), (4, 17, pointer (some ⟨g2, 0, none⟩)), (5, 18, pointer (some ⟨g2, 0, none⟩)), (6, 19, pointer (some ⟨g2, 8, none⟩)), (7, 20, slice A272 n273 c274), (8, 21, int .i64 (y255.fills.length : Int)), (9, 22, int .i64 (w64 ((y255.fills.length : Int) - 1))), (10, 23, int .i64 a35), (11, 24, agg [slice A27 a26.slices.length c28, slice A31 a26.notes.length c32, int .i64 a26.end_].toArray), (12, 25, int .i64 y473), (13, 26, int .i64 (w64 (a35 + y473))), (14, 27, pointer (some (ad671.add (Int.toNat (w64 ((y255.fills.length : Int) - 1)) * 1))))] D r ∧ Hp G' (bx g2 [int .i64 y255.sheet.Paper.Width, int .i64 y255.sheet.Paper.Height, int .i64 y255.sheet.Paper.Columns, int .i64 y255.sheet.Paper.Gap, int .i64 y255.sheet.Paper.Scale, int .i64 y255.sheet.Paper.Lang, slice A256 y255.placed.length c257, slice A260 y255.notes.length c261, slice A272 n273 c274] 67 :: tk (slice A256 y255.placed.length c257) 8 36 :: tk (slice A260 y255.notes.length c261) 8 36 :: rwI G251 (Kd.int .i64) A272 [] (List.set y255.fills (Int.toNat (w64 ((y255.fills.length : Int) - 1))) (w64 (a35 + y473))) [] c274 3 :: bx g39 [slice A27 a26.slices.length c28, slice A31 a26.notes.length c32, int .i64 a26.end_] 64 :: L) w)) mixo z z ?_ ?_ ?_
 exact (.inl ⟨z, _, Gh.le_refl _, Regs.start ⟨z, z, z, tv⟩ trivial, hI459.drew⟩)
 refine ⟨?_, ?_, ?_, ?_, ?_, ?_, ?_, ?_, ?_, ?_, ?_, ?_, ?_, ?_, ?_, ?_, tv⟩
 rintro D r wd679 (⟨hd2, G675, hG676, hReg678, hI677⟩ | ⟨hd1, G675, hG676, hReg678, hI677⟩) hDi hpre hpost
 obtain ⟨r0, rfl⟩ := Has.ex (cC (hReg678.ins.get 0 rfl) cN)
 exact mv z<|nl ⟨z, (.inl ⟨hd2, _, hG676, (Regs.step hReg678 hDi z z z z), hI677⟩)⟩
 cases (hpost 15 rfl).symm.trans hd1
 rintro D r wd679 (⟨hd2, G675, hG676, hReg678, hI677⟩ | ⟨hd1, G675, hG676, hReg678, hI677⟩) hDi hpre hpost
 obtain ⟨r0, rfl⟩ := Has.ex (cC (hReg678.get 0 rfl (hpre 0 rfl)) cN)
 exact q_nc z<|nl ⟨z, (.inl ⟨hd2, _, hG676, (Regs.step hReg678 hDi z z z z), hI677⟩)⟩
 cases (hpost 15 rfl).symm.trans hd1
 rintro D r wd679 (⟨hd2, G675, hG676, hReg678, hI677⟩ | ⟨hd1, G675, hG676, hReg678, hI677⟩) hDi hpre hpost
 obtain ⟨r0, rfl⟩ := Has.ex (cC (hReg678.get 1 rfl (hpre 1 rfl)) cN)
 exact fa fl67_3 z<|nl ⟨z, (.inl ⟨hd2, _, hG676, (Regs.step hReg678 hDi z z z z), hI677⟩)⟩
 cases (hpost 15 rfl).symm.trans hd1
 rintro D r wd679 (⟨hd2, G675, hG676, hReg678, hI677⟩ | ⟨hd1, G675, hG676, hReg678, hI677⟩) hDi hpre hpost
 obtain ⟨r0, rfl⟩ := Has.ex (cC (hReg678.get 2 rfl (hpre 2 rfl)) cN)
 exact ld hI677 0 ag65 z z z<|nl ⟨z, (.inl ⟨hd2, _, hG676, (Regs.step hReg678 hDi z z z z), hI677⟩)⟩
 cases (hpost 15 rfl).symm.trans hd1
 rintro D r wd679 (⟨hd2, G675, hG676, hReg678, hI677⟩ | ⟨hd1, G675, hG676, hReg678, hI677⟩) hDi hpre hpost
 obtain ⟨r0, rfl⟩ := Has.ex (cC (hReg678.ins.get 0 rfl) cN)
 exact mv z<|nl ⟨z, (.inl ⟨hd2, _, hG676, (Regs.step hReg678 hDi z z z z), hI677⟩)⟩
 cases (hpost 15 rfl).symm.trans hd1
 rintro D r wd679 (⟨hd2, G675, hG676, hReg678, hI677⟩ | ⟨hd1, G675, hG676, hReg678, hI677⟩) hDi hpre hpost
 obtain ⟨r0, rfl⟩ := Has.ex (cC (hReg678.get 4 rfl (hpre 4 rfl)) cN)
 exact q_nc z<|nl ⟨z, (.inl ⟨hd2, _, hG676, (Regs.step hReg678 hDi z z z z), hI677⟩)⟩
 cases (hpost 15 rfl).symm.trans hd1
 rintro D r wd679 (⟨hd2, G675, hG676, hReg678, hI677⟩ | ⟨hd1, G675, hG676, hReg678, hI677⟩) hDi hpre hpost
 obtain ⟨r0, rfl⟩ := Has.ex (cC (hReg678.get 5 rfl (hpre 5 rfl)) cN)
 exact fa fl67_3 z<|nl ⟨z, (.inl ⟨hd2, _, hG676, (Regs.step hReg678 hDi z z z z), hI677⟩)⟩
 cases (hpost 15 rfl).symm.trans hd1
 rintro D r wd679 (⟨hd2, G675, hG676, hReg678, hI677⟩ | ⟨hd1, G675, hG676, hReg678, hI677⟩) hDi hpre hpost
 obtain ⟨r0, rfl⟩ := Has.ex (cC (hReg678.get 6 rfl (hpre 6 rfl)) cN)
 exact ld hI677 0 ag65 z z z<|nl ⟨z, (.inl ⟨hd2, _, hG676, (Regs.step hReg678 hDi z z z z), hI677⟩)⟩
 cases (hpost 15 rfl).symm.trans hd1
 rintro D r wd679 (⟨hd2, G675, hG676, hReg678, hI677⟩ | ⟨hd1, G675, hG676, hReg678, hI677⟩) hDi hpre hpost
 obtain ⟨r0, rfl⟩ := Has.ex (cC (hReg678.get 7 rfl (hpre 7 rfl)) cN)
 exact q_lenm so65 z hn275<|nl ⟨z, (.inl ⟨hd2, _, hG676, (Regs.step hReg678 hDi z z z z), hI677⟩)⟩
 cases (hpost 15 rfl).symm.trans hd1
 rintro D r wd679 (⟨hd2, G675, hG676, hReg678, hI677⟩ | ⟨hd1, G675, hG676, hReg678, hI677⟩) hDi hpre hpost
 obtain ⟨r0, rfl⟩ := Has.ex (cC (hReg678.get 8 rfl (hpre 8 rfl)) cN)
 exact q_sub z z<|nl ⟨z, (.inl ⟨hd2, _, hG676, (Regs.step hReg678 hDi z z z z), hI677⟩)⟩
 cases (hpost 15 rfl).symm.trans hd1
 rintro D r wd679 (⟨hd2, G675, hG676, hReg678, hI677⟩ | ⟨hd1, G675, hG676, hReg678, hI677⟩) hDi hpre hpost
 obtain ⟨r0, rfl⟩ := Has.ex (cC (hReg678.ins.get 1 rfl) cN)
 exact mv z<|nl ⟨z, (.inl ⟨hd2, _, hG676, (Regs.step hReg678 hDi z z z z), hI677⟩)⟩
 cases (hpost 15 rfl).symm.trans hd1
 rintro D r wd679 (⟨hd2, G675, hG676, hReg678, hI677⟩ | ⟨hd1, G675, hG676, hReg678, hI677⟩) hDi hpre hpost
 obtain ⟨r0, rfl⟩ := Has.ex (cC (hReg678.ins.get 2 rfl) cN)
 exact lda hI677 4 ag64 z z z z<|nl ⟨z, (.inl ⟨hd2, _, hG676, (Regs.step hReg678 hDi z z z z), hI677⟩)⟩
 cases (hpost 15 rfl).symm.trans hd1
 rintro D r wd679 (⟨hd2, G675, hG676, hReg678, hI677⟩ | ⟨hd1, G675, hG676, hReg678, hI677⟩) hDi hpre hpost
 obtain ⟨r0, rfl⟩ := Has.ex (cC (hReg678.get 11 rfl (hpre 11 rfl)) cN)
 exact cv bo44 (pages_band_height_spec hy658 hI677 hl29 (Dat.mono (gT hG458 hG676) hD30) hl33 (Dat.mono (gT hG458 hG676) hD34)) z z fun wd471 hI472=>nl ⟨z, (.inl ⟨hd2, _, hG676, (Regs.step hReg678 hDi z z z z), hI472⟩)⟩
 cases (hpost 15 rfl).symm.trans hd1
 rintro D r wd679 (⟨hd2, G675, hG676, hReg678, hI677⟩ | ⟨hd1, G675, hG676, hReg678, hI677⟩) hDi hpre hpost
 obtain ⟨r0, rfl⟩ := Has.ex (cC (hReg678.get 10 rfl (hpre 10 rfl)) (cC (hReg678.get 12 rfl (hpre 12 rfl)) cN))
 exact q_add z z<|nl ⟨z, (.inl ⟨hd2, _, hG676, (Regs.step hReg678 hDi z z z z), hI677⟩)⟩
 cases (hpost 15 rfl).symm.trans hd1
 rintro D r wd679 (⟨hd2, G675, hG676, hReg678, hI677⟩ | ⟨hd1, G675, hG676, hReg678, hI677⟩) hDi hpre hpost
 obtain ⟨r0, rfl⟩ := Has.ex (cC (hReg678.get 3 rfl (hpre 3 rfl)) (cC (hReg678.get 9 rfl (hpre 9 rfl)) cN))
 exact q_ia el65 z hA672 z h669 hb670<|nl ⟨z, (.inl ⟨hd2, _, hG676, (Regs.step hReg678 hDi z z z z), hI677⟩)⟩
 cases (hpost 15 rfl).symm.trans hd1
 rintro D r wd679 (⟨hd2, G675, hG676, hReg678, hI677⟩ | ⟨hd1, G675, hG676, hReg678, hI677⟩) hDi hpre hpost
 obtain ⟨r0, rfl⟩ := Has.ex (cC (hReg678.get 13 rfl (hpre 13 rfl)) (cC (hReg678.get 14 rfl (hpre 14 rfl)) cN))
 exact q_stm (kd := (Kd.int .i64)) hI677 3 (v := int .i64 (w64 (a35 + y473))) (news := [int .i64 (w64 (a35 + y473))]) (0 : Int) (w64 (a35 + y473)) ag3 z hM276 hn275 hA672 h669 hb670 (add_zero' _) z z z z z (Nat.le_of_ble_eq_true z) gR (fun _ ho => setAll_K ho z z) fun wd673 hI674=>nl ⟨z, (.inr ⟨z, _, hG676, (Regs.stepN hReg678 z z), hI674⟩)⟩
 cases hDi.symm.trans hd1
 intro D r wd679 hall hR
 rcases hR with ⟨hd2, G675, hG676, hReg678, hI677⟩ | ⟨hd1, G675, hG676, hReg678, hI677⟩
 cases (hall 15 (Nat.le_of_ble_eq_true rfl)).symm.trans hd2
 obtain ⟨r0, rfl⟩ := Has.ex (cC (hReg678.ins.get 0 rfl) (cC (hReg678.ins.get 2 rfl) cN))
 refine hK463 _ _ _<|iK H fun h694 H=>?_
 refine wpc_drawL [0, 0, 2, 6, 14, 0, 32, 126, 255, 511, 1023] (fun D r w => (D 7 = false ∧ ∃ (G' : Gh), G675 ≤ G' ∧ Regs [(0, pointer (some ⟨g2, 0, none⟩)), (4, pointer (some ⟨g39, 0, none⟩))] [] [(0, 28, pointer (some ⟨g2, 0, none⟩)), (1, 29, pointer (some ⟨g2, 0, none⟩)), (2, 30, pointer (some ⟨g2, 0, none⟩)), (3, 31, pointer (some ⟨g2, 7, none⟩)), (4, 32, slice A260 y255.notes.length c261), (5, 33, pointer (some ⟨g39, 1, none⟩)), (6, 34, slice A31 a26.notes.length c32)] D r ∧ Hp G' (bx g2 [int .i64 y255.sheet.Paper.Width, int .i64 y255.sheet.Paper.Height, int .i64 y255.sheet.Paper.Columns, int .i64 y255.sheet.Paper.Gap, int .i64 y255.sheet.Paper.Scale, int .i64 y255.sheet.Paper.Lang, slice A256 y255.placed.length c257, slice A260 y255.notes.length c261, slice A272 n273 c274] 67 :: tk (slice A256 y255.placed.length c257) 8 36 :: tk (slice A260 y255.notes.length c261) 8 36 :: rwI G251 (Kd.int .i64) A272 [] (List.set y255.fills (Int.toNat (w64 ((y255.fills.length : Int) - 1))) (w64 (a35 + y473))) [] c274 3 :: bx g39 [slice A27 a26.slices.length c28, slice A31 a26.notes.length c32, int .i64 a26.end_] 64 :: L) w) ∨ (D 7 = true ∧ D 10 = false ∧ ∃ (A685 : Option Addr) (c686 : Nat) (G' : Gh), G675 ≤ G' ∧ (y255.notes ++ a26.notes).length ≤ c686 ∧ Dat k_api_Slice G' A685 (y255.notes ++ a26.notes) ∧ Own A685 c686 ∧ Regs [(0, pointer (some ⟨g2, 0, none⟩)), (4, pointer (some ⟨g39, 0, none⟩))] [] [(0, 28, pointer (some ⟨g2, 0, none⟩)), (1, 29, pointer (some ⟨g2, 0, none⟩)), (2, 30, pointer (some ⟨g2, 0, none⟩)), (3, 31, pointer (some ⟨g2, 7, none⟩)), (4, 32, slice A260 y255.notes.length c261), (5, 33, pointer (some ⟨g39, 1, none⟩)), (6, 34, slice A31 a26.notes.length c32), (7, 35, slice A685 (y255.notes ++ a26.notes).length c686), (8, 36, pointer (some ⟨g2, 0, none⟩)), (9, 37, pointer (some ⟨g2, 7, none⟩))] D r ∧ Hp G' (bx g2 [int .i64 y255.sheet.Paper.Width, int .i64 y255.sheet.Paper.Height, int .i64 y255.sheet.Paper.Columns, int .i64 y255.sheet.Paper.Gap, int .i64 y255.sheet.Paper.Scale, int .i64 y255.sheet.Paper.Lang, slice A256 y255.placed.length c257, slice A260 y255.notes.length c261, slice A272 n273 c274] 67 :: tk (slice A256 y255.placed.length c257) 8 36 :: tk (slice A685 (y255.notes ++ a26.notes).length c686) 8 36 :: rwI G251 (Kd.int .i64) A272 [] (List.set y255.fills (Int.toNat (w64 ((y255.fills.length : Int) - 1))) (w64 (a35 + y473))) [] c274 3 :: bx g39 [slice A27 a26.slices.length c28, slice A31 a26.notes.length c32, int .i64 a26.end_] 64 :: L) w) ∨ (D 10 = true ∧ ∃ (A685 : Option Addr) (c686 : Nat) (G' : Gh), G675 ≤ G' ∧ (y255.notes ++ a26.notes).length ≤ c686 ∧ Dat k_api_Slice G' A685 (y255.notes ++ a26.notes) ∧ Own A685 c686 ∧ Regs [(0, pointer (some ⟨g2, 0, none⟩)), (4, pointer (some ⟨g39, 0, none⟩))] [] [(0, 28, pointer (some ⟨g2, 0, none⟩)), (1, 29, pointer (some ⟨g2, 0, none⟩)), (2, 30, pointer (some ⟨g2, 0, none⟩)), (3, 31, pointer (some ⟨g2, 7, none⟩)), (4, 32, slice A260 y255.notes.length c261), (5, 33, pointer (some ⟨g39, 1, none⟩)), (6, 34, slice A31 a26.notes.length c32), (7, 35, slice A685 (y255.notes ++ a26.notes).length c686), (8, 36, pointer (some ⟨g2, 0, none⟩)), (9, 37, pointer (some ⟨g2, 7, none⟩))] D r ∧ Hp G' (bx g2 [int .i64 y255.sheet.Paper.Width, int .i64 y255.sheet.Paper.Height, int .i64 y255.sheet.Paper.Columns, int .i64 y255.sheet.Paper.Gap, int .i64 y255.sheet.Paper.Scale, int .i64 y255.sheet.Paper.Lang, slice A256 y255.placed.length c257, slice A685 (y255.notes ++ a26.notes).length c686, slice A272 n273 c274] 67 :: tk (slice A256 y255.placed.length c257) 8 36 :: tk (slice A685 (y255.notes ++ a26.notes).length c686) 8 36 :: rwI G251 (Kd.int .i64) A272 [] (List.set y255.fills (Int.toNat (w64 ((y255.fills.length : Int) - 1))) (w64 (a35 + y473))) [] c274 3 :: bx g39 [slice A27 a26.slices.length c28, slice A31 a26.notes.length c32, int .i64 a26.end_] 64 :: L) w)) mixo z z ?_ ?_ ?_
 exact (.inl ⟨z, _, Gh.le_refl _, Regs.start ⟨z, z, tv⟩ trivial, hI677.drew⟩)
 refine ⟨?_, ?_, ?_, ?_, ?_, ?_, ?_, ?_, ?_, ?_, ?_, tv⟩
 rintro D r wd704 (⟨hd2, G700, hG701, hReg703, hI702⟩ | ⟨hd1, hd2, A685, c686, G700, hG701, hl691, hD692, ho690, hReg703, hI702⟩ | ⟨hd1, A685, c686, G700, hG701, hl691, hD692, ho690, hReg703, hI702⟩) hDi hpre hpost
 obtain ⟨r0, rfl⟩ := Has.ex (cC (hReg703.ins.get 0 rfl) cN)
 exact mv z<|nl ⟨z, (.inl ⟨hd2, _, hG701, (Regs.step hReg703 hDi z z z z), hI702⟩)⟩
 obtain ⟨r0, rfl⟩ := Has.ex (cC (hReg703.ins.get 0 rfl) cN)
 exact mv z<|nl ⟨z, (.inr (.inl ⟨hd1, hd2, A685, c686, _, hG701, hl691, hD692, ho690, (Regs.step hReg703 hDi z z z z), hI702⟩))⟩
 cases (hpost 10 rfl).symm.trans hd1
 rintro D r wd704 (⟨hd2, G700, hG701, hReg703, hI702⟩ | ⟨hd1, hd2, A685, c686, G700, hG701, hl691, hD692, ho690, hReg703, hI702⟩ | ⟨hd1, A685, c686, G700, hG701, hl691, hD692, ho690, hReg703, hI702⟩) hDi hpre hpost
 obtain ⟨r0, rfl⟩ := Has.ex (cC (hReg703.ins.get 0 rfl) cN)
 exact mv z<|nl ⟨z, (.inl ⟨hd2, _, hG701, (Regs.step hReg703 hDi z z z z), hI702⟩)⟩
 cases (hpost 7 rfl).symm.trans hd1
 cases (hpost 10 rfl).symm.trans hd1
 rintro D r wd704 (⟨hd2, G700, hG701, hReg703, hI702⟩ | ⟨hd1, hd2, A685, c686, G700, hG701, hl691, hD692, ho690, hReg703, hI702⟩ | ⟨hd1, A685, c686, G700, hG701, hl691, hD692, ho690, hReg703, hI702⟩) hDi hpre hpost
 obtain ⟨r0, rfl⟩ := Has.ex (cC (hReg703.get 1 rfl (hpre 1 rfl)) cN)
 exact q_nc z<|nl ⟨z, (.inl ⟨hd2, _, hG701, (Regs.step hReg703 hDi z z z z), hI702⟩)⟩
 cases (hpost 7 rfl).symm.trans hd1
 cases (hpost 10 rfl).symm.trans hd1
 rintro D r wd704 (⟨hd2, G700, hG701, hReg703, hI702⟩ | ⟨hd1, hd2, A685, c686, G700, hG701, hl691, hD692, ho690, hReg703, hI702⟩ | ⟨hd1, A685, c686, G700, hG701, hl691, hD692, ho690, hReg703, hI702⟩) hDi hpre hpost
 obtain ⟨r0, rfl⟩ := Has.ex (cC (hReg703.get 2 rfl (hpre 2 rfl)) cN)
 exact fa fl67_2 z<|nl ⟨z, (.inl ⟨hd2, _, hG701, (Regs.step hReg703 hDi z z z z), hI702⟩)⟩
 cases (hpost 7 rfl).symm.trans hd1
 cases (hpost 10 rfl).symm.trans hd1
 rintro D r wd704 (⟨hd2, G700, hG701, hReg703, hI702⟩ | ⟨hd1, hd2, A685, c686, G700, hG701, hl691, hD692, ho690, hReg703, hI702⟩ | ⟨hd1, A685, c686, G700, hG701, hl691, hD692, ho690, hReg703, hI702⟩) hDi hpre hpost
 obtain ⟨r0, rfl⟩ := Has.ex (cC (hReg703.get 3 rfl (hpre 3 rfl)) cN)
 exact ld hI702 0 ag24 z z z<|nl ⟨z, (.inl ⟨hd2, _, hG701, (Regs.step hReg703 hDi z z z z), hI702⟩)⟩
 cases (hpost 7 rfl).symm.trans hd1
 cases (hpost 10 rfl).symm.trans hd1
 rintro D r wd704 (⟨hd2, G700, hG701, hReg703, hI702⟩ | ⟨hd1, hd2, A685, c686, G700, hG701, hl691, hD692, ho690, hReg703, hI702⟩ | ⟨hd1, A685, c686, G700, hG701, hl691, hD692, ho690, hReg703, hI702⟩) hDi hpre hpost
 obtain ⟨r0, rfl⟩ := Has.ex (cC (hReg703.ins.get 1 rfl) cN)
 exact fa fl64_1 z<|nl ⟨z, (.inl ⟨hd2, _, hG701, (Regs.step hReg703 hDi z z z z), hI702⟩)⟩
 cases (hpost 7 rfl).symm.trans hd1
 cases (hpost 10 rfl).symm.trans hd1
 rintro D r wd704 (⟨hd2, G700, hG701, hReg703, hI702⟩ | ⟨hd1, hd2, A685, c686, G700, hG701, hl691, hD692, ho690, hReg703, hI702⟩ | ⟨hd1, A685, c686, G700, hG701, hl691, hD692, ho690, hReg703, hI702⟩) hDi hpre hpost
 obtain ⟨r0, rfl⟩ := Has.ex (cC (hReg703.get 5 rfl (hpre 5 rfl)) cN)
 exact ld hI702 4 ag24 z z z<|nl ⟨z, (.inl ⟨hd2, _, hG701, (Regs.step hReg703 hDi z z z z), hI702⟩)⟩
 cases (hpost 7 rfl).symm.trans hd1
 cases (hpost 10 rfl).symm.trans hd1
 rintro D r wd704 (⟨hd2, G700, hG701, hReg703, hI702⟩ | ⟨hd1, hd2, A685, c686, G700, hG701, hl691, hD692, ho690, hReg703, hI702⟩ | ⟨hd1, A685, c686, G700, hG701, hl691, hD692, ho690, hReg703, hI702⟩) hDi hpre hpost
 obtain ⟨r0, rfl⟩ := Has.ex (cC (hReg703.get 4 rfl (hpre 4 rfl)) (cC (hReg703.get 6 rfl (hpre 6 rfl)) cN))
 obtain ⟨nw695, hs696, hf697⟩ := src_dat (u := 24) hI702 so24 (Dat.mono (gT (gT hG458 hG676) hG701) hD34)
 refine q_app (xs := y255.notes) (ys := a26.notes) k_api_Slice hI702 2 el24 ze36 rfl rfl rfl rfl ho270 hl262 (Dat.mono (gT hG676 hG701) hD263) hs696 hf697 rfl (by (try simp only [List.length_cons, List.length_nil]); omega) (by (try simp only [List.length_cons, List.length_nil]); omega) (fun A685 c686 G687 wd688 hG689 ho690 hl691 hD692 hI693 => ?_)
 exact nl ⟨z, (.inr (.inl ⟨z, (hpost 10 z), A685, c686, _, (gT hG701 hG689), hl691, hD692, ho690, (Regs.step (Regs.more (new := [(7, 35, slice A685 (y255.notes ++ a26.notes).length c686), (8, 36, pointer (some ⟨g2, 0, none⟩)), (9, 37, pointer (some ⟨g2, 7, none⟩))]) hReg703 (List.forall_mem_cons.2 ⟨hDi, (List.forall_mem_cons.2 ⟨hpost 8 z, (List.forall_mem_cons.2 ⟨hpost 9 z, (fun _ h => nomatch h)⟩)⟩)⟩)) hDi z z z z), hI693⟩))⟩
 cases hDi.symm.trans hd1
 cases (hpost 10 rfl).symm.trans hd1
 rintro D r wd704 (⟨hd2, G700, hG701, hReg703, hI702⟩ | ⟨hd1, hd2, A685, c686, G700, hG701, hl691, hD692, ho690, hReg703, hI702⟩ | ⟨hd1, A685, c686, G700, hG701, hl691, hD692, ho690, hReg703, hI702⟩) hDi hpre hpost
 cases (hpre 7 rfl).symm.trans hd2
 obtain ⟨r0, rfl⟩ := Has.ex (cC (hReg703.get 0 rfl (hpre 0 rfl)) cN)
 exact q_nc z<|nl ⟨z, (.inr (.inl ⟨hd1, hd2, A685, c686, _, hG701, hl691, hD692, ho690, (Regs.step hReg703 hDi z z z z), hI702⟩))⟩
 cases (hpost 10 rfl).symm.trans hd1
 rintro D r wd704 (⟨hd2, G700, hG701, hReg703, hI702⟩ | ⟨hd1, hd2, A685, c686, G700, hG701, hl691, hD692, ho690, hReg703, hI702⟩ | ⟨hd1, A685, c686, G700, hG701, hl691, hD692, ho690, hReg703, hI702⟩) hDi hpre hpost
 cases (hpre 7 rfl).symm.trans hd2
 obtain ⟨r0, rfl⟩ := Has.ex (cC (hReg703.get 8 rfl (hpre 8 rfl)) cN)
 exact fa fl67_2 z<|nl ⟨z, (.inr (.inl ⟨hd1, hd2, A685, c686, _, hG701, hl691, hD692, ho690, (Regs.step hReg703 hDi z z z z), hI702⟩))⟩
 cases (hpost 10 rfl).symm.trans hd1
 rintro D r wd704 (⟨hd2, G700, hG701, hReg703, hI702⟩ | ⟨hd1, hd2, A685, c686, G700, hG701, hl691, hD692, ho690, hReg703, hI702⟩ | ⟨hd1, A685, c686, G700, hG701, hl691, hD692, ho690, hReg703, hI702⟩) hDi hpre hpost
 cases (hpre 7 rfl).symm.trans hd2
 obtain ⟨r0, rfl⟩ := Has.ex (cC (hReg703.get 7 rfl (hpre 7 rfl)) (cC (hReg703.get 9 rfl (hpre 9 rfl)) cN))
 exact stk hI702 0 ag24 z z z z z z z fun wd698 hI699=>nl ⟨z, (.inr (.inr ⟨z, A685, c686, _, hG701, hl691, hD692, ho690, (Regs.stepN hReg703 z z), hI699⟩))⟩
 cases hDi.symm.trans hd1
 intro D r wd704 hall hR
 rcases hR with ⟨hd2, G700, hG701, hReg703, hI702⟩ | ⟨hd1, hd2, A685, c686, G700, hG701, hl691, hD692, ho690, hReg703, hI702⟩ | ⟨hd1, A685, c686, G700, hG701, hl691, hD692, ho690, hReg703, hI702⟩
 cases (hall 7 (Nat.le_of_ble_eq_true rfl)).symm.trans hd2
 cases (hall 10 (Nat.le_of_ble_eq_true rfl)).symm.trans hd2
 obtain ⟨r0, rfl⟩ := Has.ex (r := r) cN
 refine have hI705:=Hp.rwUp hI702 3 z (gT hGr456 (gT hG676 hG701));have hI706:=Hp.pick 5 [0, 1, 2, 3] hI705 z;?_
 cases H
 exact ⟨.inl z, z, _, z, A256, c257, A685, c686, A272, n273, c274, _, (gT (gT hG458 hG676) hG701), hI706, hl258, (Dat.mono (gT hG676 hG701) hD259), ho268, hl691, hD692, ho690, (set_len hn275), hM276, z⟩
theorem pages_begin_spec {a1 : pages_sheet} {a2 : pages_band} {a11 : List pages_band} {A3 c4 A7 c8 A12 c13} {r1018 : pages_open} {G L w} (H : pages_begin a1 a2 a11 = some r1018) (hI : Hp G L w) (hl5 : a2.slices.length ≤ c4) (hD6 : Dat k_api_Slice G A3 a2.slices) (hl9 : a2.notes.length ≤ c8) (hD10 : Dat k_api_Slice G A7 a2.notes) (hl14 : a11.length ≤ c13) (hD15 : Dat k_pages_band G A12 a11) :
    Calls Try.prog 27 [agg [int .i64 a1.Paper.Width, int .i64 a1.Paper.Height, int .i64 a1.Paper.Columns, int .i64 a1.Paper.Gap, int .i64 a1.Paper.Scale, int .i64 a1.Paper.Lang].toArray, agg [slice A3 a2.slices.length c4, slice A7 a2.notes.length c8, int .i64 a2.end_].toArray, slice A12 a11.length c13].toArray w fun e w' => ∃ (g1017 : Nat) (A1019 : Option Addr) (c1020 : Nat) (A1023 : Option Addr) (c1024 : Nat) (A1035 : Option Addr) (n1036 : Nat) (c1037 : Nat) (G' : Gh), G ≤ G' ∧ Hp G' (bx g1017 [int .i64 r1018.sheet.Paper.Width, int .i64 r1018.sheet.Paper.Height, int .i64 r1018.sheet.Paper.Columns, int .i64 r1018.sheet.Paper.Gap, int .i64 r1018.sheet.Paper.Scale, int .i64 r1018.sheet.Paper.Lang, slice A1019 r1018.placed.length c1020, slice A1023 r1018.notes.length c1024, slice A1035 n1036 c1037] 67 :: tk (slice A1019 r1018.placed.length c1020) 8 36 :: tk (slice A1023 r1018.notes.length c1024) 8 36 :: rwI G' (Kd.int .i64) A1035 [] r1018.fills [] c1037 3 :: L) w' ∧ r1018.placed.length ≤ c1020 ∧ Dat k_api_Slice G' A1019 r1018.placed ∧ Own A1019 c1020 ∧ r1018.notes.length ≤ c1024 ∧ Dat k_api_Slice G' A1023 r1018.notes ∧ Own A1023 c1024 ∧ r1018.fills.length = n1036 ∧ Mw A1035 A1035 ([] : List Int).length n1036 c1037 c1037 1 ∧ e = .returned (pointer (some ⟨g1017, 0, none⟩)) := by
 refine calls_intro (N := 112) Try.func27 z z (Nat.le_of_ble_eq_true z)<|?_
 unfold pages_begin at H
 refine sr fun K16 hK17=>bxk hI z z fun g19 wd20 hI21=>bxk hI21 z z fun g23 wd24 hI25=>asn z<|nl<|hK17 _ _ _<|wpc_scope<|sr fun K26 hK27=>lda hI25 1 ag56 z z z z<|?_
 refine q_bs hI25 (vs := [(0, int .i64 0)]) (cs := [int .i64 0]) el65 ze3 rfl (by decide) rfl (by kernel_rfl) (fun g29 wd30 hI31 => ?_)
 refine have hI32:=Hp.rowLit (kd := (Kd.int .i64)) (t := ([0] : List Int)) (n := 1) hI31 ⟨[int .i64 0], _, z, z, z⟩ z;q_build (vs := [(0, agg [int .i64 a1.Paper.Width, int .i64 a1.Paper.Height, int .i64 a1.Paper.Columns, int .i64 a1.Paper.Gap, int .i64 a1.Paper.Scale, int .i64 a1.Paper.Lang].toArray), (3, slice (some ⟨g29, 0, none⟩) 1 1)]) (cs := [int .i64 a1.Paper.Width, int .i64 a1.Paper.Height, int .i64 a1.Paper.Columns, int .i64 a1.Paper.Gap, int .i64 a1.Paper.Scale, int .i64 a1.Paper.Lang, slice none 0 0, slice none 0 0, slice (some ⟨g29, 0, none⟩) 1 1]) ze67 pl67 z z<|bxk hI32 z z fun g34 wd35 hI36=>asn z<|nl<|hK27 _ _ _<|sr fun K37 hK38=>fa fl64_0 z<|ld hI36 2 ag24 z z z<|iK H fun⟨h39, h39'⟩H=>?_
 obtain ⟨ad40, cs41, hA42, hK43, hn44, hc45⟩ := Dat.get hD6 z_api_Slice (0) h39 h39'
 obtain ⟨rfl⟩ := open_api_Slice hK43
 refine q_ia el24 z hA42 z h39 h39'<|q_fa fl36_1 z z<|q_lf hI36 ag3 z (gR.cel _ _ (hc45 1 _ z))<|asn z<|nl<|hK38 _ _ _<|sr fun K46 hK47=>asn z<|nl<|hK47 _ _ _<|sr fun K48 hK49=>asn z<|nl<|hK49 _ _ _<|?_
 refine sQ fun K50 hK51=>wpc_label<|hK51 _ _ _<|sQ fun K52 hK53=>sr fun K54 hK55=>asn z<|nl<|hK55 _ _ _<|wb<|bK2 H fun v83 v90 hC H=>?_
 refine wpc_mono (Q := fun e r ds w => e = .exit 0 ∧ ∃ (A84 : Option Addr) (c85 : Nat) (G91 : Gh), ds = [] ∧ G ≤ G91 ∧ Has [(3, pointer (some ⟨g19, 0, none⟩)), (4, pointer (some ⟨g23, 0, none⟩)), (7, pointer (some ⟨g34, 0, none⟩)), (9, slice A84 v83.length c85), (10, int .i64 v90)] r ∧ Hp G91 (bx g34 [int .i64 a1.Paper.Width, int .i64 a1.Paper.Height, int .i64 a1.Paper.Columns, int .i64 a1.Paper.Gap, int .i64 a1.Paper.Scale, int .i64 a1.Paper.Lang, slice none 0 0, slice none 0 0, slice (some ⟨g29, 0, none⟩) 1 1] 67 :: bx g23 [slice A3 a2.slices.length c4, slice A7 a2.notes.length c8, int .i64 a2.end_] 64 :: bx g19 [int .i64 a1.Paper.Width, int .i64 a1.Paper.Height, int .i64 a1.Paper.Columns, int .i64 a1.Paper.Gap, int .i64 a1.Paper.Scale, int .i64 a1.Paper.Lang] 56 :: rwI G (Kd.int .i64) (some ⟨g29, 0, none⟩) [] ([0] : List Int) [] 1 3 :: tk (slice A84 v83.length c85) 8 36 :: L) w ∧ v83.length ≤ c85 ∧ Dat k_api_Slice G91 A84 v83 ∧ Own A84 c85 ∧ True) ?_ ?_
 refine have hI538:=Hp.emp hI36;have hI543:=Hp.pick 5 [1, 3, 4, 2, 0] hI538 z;wpc_loop fun I hLp=>?_
 refine pages_begin_l82.partial_correctness a2 a11 (fun v60 v67 v68 o => ∀ (A61 : Option Addr) (c62 : Nat) (G96 : Gh) (r : Rg) (w : World), G ≤ G96 → Has [(2, slice A12 a11.length c13), (3, pointer (some ⟨g19, 0, none⟩)), (4, pointer (some ⟨g23, 0, none⟩)), (7, pointer (some ⟨g34, 0, none⟩)), (8, int .i64 ((a2.slices.getD (Int.toNat 0) z_api_Slice).Table)), (9, slice A61 v60.length c62), (10, int .i64 v67), (11, int .i64 v68)] r → Hp G96 (bx g34 [int .i64 a1.Paper.Width, int .i64 a1.Paper.Height, int .i64 a1.Paper.Columns, int .i64 a1.Paper.Gap, int .i64 a1.Paper.Scale, int .i64 a1.Paper.Lang, slice none 0 0, slice none 0 0, slice (some ⟨g29, 0, none⟩) 1 1] 67 :: bx g23 [slice A3 a2.slices.length c4, slice A7 a2.notes.length c8, int .i64 a2.end_] 64 :: bx g19 [int .i64 a1.Paper.Width, int .i64 a1.Paper.Height, int .i64 a1.Paper.Columns, int .i64 a1.Paper.Gap, int .i64 a1.Paper.Scale, int .i64 a1.Paper.Lang] 56 :: rwI G (Kd.int .i64) (some ⟨g29, 0, none⟩) [] ([0] : List Int) [] 1 3 :: tk (slice A61 v60.length c62) 8 36 :: L) w → v60.length ≤ c62 → Dat k_api_Slice G96 A61 v60 → Own A61 c62 → o = (v83, v90) → I r [] w) ?_ ([] : List api_Slice) 0 0 _ hC none 0 _ _ _ gR ⟨rfl, rfl, rfl, rfl, rfl, rfl, rfl, rfl, tv⟩ hI543 (show ([] : List api_Slice).length ≤ 0 from Nat.le_refl 0) (Dat.nil _ _ _) Own.nil rfl
 intro _ ih v60 v67 v68 o H A61 c62 G96 r wd98 hG97 hHas hI99 hl63 hD64 ho65 ho
 rw [ho] at H; clear ho
 rw [hHas.eq]; clear hHas
 refine hLp _ _ _<|sQ fun K100 hK101=>sr fun K102 hK103=>mv z<|mv z<|q_len so57 z<|q_leq z z<|mv z<|bK H fun v104 hC H=>?_
 refine jS 3 G96 [(2, slice A12 a11.length c13), (3, pointer (some ⟨g19, 0, none⟩)), (4, pointer (some ⟨g23, 0, none⟩)), (7, pointer (some ⟨g34, 0, none⟩)), (8, int .i64 ((a2.slices.getD (Int.toNat 0) z_api_Slice).Table)), (9, slice A61 v60.length c62), (10, int .i64 v67), (11, int .i64 v68), (31, bool v104)] (bx g34 [int .i64 a1.Paper.Width, int .i64 a1.Paper.Height, int .i64 a1.Paper.Columns, int .i64 a1.Paper.Gap, int .i64 a1.Paper.Scale, int .i64 a1.Paper.Lang, slice none 0 0, slice none 0 0, slice (some ⟨g29, 0, none⟩) 1 1] 67 :: bx g23 [slice A3 a2.slices.length c4, slice A7 a2.notes.length c8, int .i64 a2.end_] 64 :: bx g19 [int .i64 a1.Paper.Width, int .i64 a1.Paper.Height, int .i64 a1.Paper.Columns, int .i64 a1.Paper.Gap, int .i64 a1.Paper.Scale, int .i64 a1.Paper.Lang] 56 :: tk (slice A61 v60.length c62) 8 36 :: rwI G (Kd.int .i64) (some ⟨g29, 0, none⟩) [] ([0] : List Int) [] 1 3 :: L) ?_ fun _ wd107 hI108=>?_
 refine have H:=hC;dC (v68 ≤ (a11.length : Int)) (fun h110=>?_) fun h110=>?_
 refine yK h110 H fun H=>mv (hw:=gY z z z (bY h110)) z<|q_neq (hw:=gY z z z (bY h110)) z z<|pkt (bY h110) z<|nl<|have hI115:=Hp.pick 5 [0, 1, 2, 4, 3] hI99 z;?_
 cases H
 exact je ⟨z, z, z, z, z, z, z, z, z, tv⟩ hI115
 refine nK h110 H fun H=>Sk 2 z z (bN h110) z<|pkf (bN h110) z<|nl<|have hI120:=Hp.pick 5 [0, 1, 2, 4, 3] hI99 z;?_
 cases H
 exact je ⟨z, z, z, z, z, z, z, z, z, tv⟩ hI120
 refine nl<|hK103 _ _ _<|dC (v104 = true) (fun h121=>?_) fun h121=>?_
 refine yK h121 H fun H=>wt (vY h121)<|ws<|hK101 _ _ _<|sQ fun K122 hK123=>bK H fun o148 hC H=>?_
 refine wpc_mono (Q := fun e r ds w => match (generalizing := false) o148 with | (Sum.inl (v124, v131)) => e = .exit 0 ∧ ∃ (A125 : Option Addr) (c126 : Nat) (G140 : Gh), ds = [] ∧ G96 ≤ G140 ∧ Has [(3, pointer (some ⟨g19, 0, none⟩)), (4, pointer (some ⟨g23, 0, none⟩)), (7, pointer (some ⟨g34, 0, none⟩)), (9, slice A125 v124.length c126), (10, int .i64 v131)] r ∧ Hp G140 (bx g34 [int .i64 a1.Paper.Width, int .i64 a1.Paper.Height, int .i64 a1.Paper.Columns, int .i64 a1.Paper.Gap, int .i64 a1.Paper.Scale, int .i64 a1.Paper.Lang, slice none 0 0, slice none 0 0, slice (some ⟨g29, 0, none⟩) 1 1] 67 :: bx g23 [slice A3 a2.slices.length c4, slice A7 a2.notes.length c8, int .i64 a2.end_] 64 :: bx g19 [int .i64 a1.Paper.Width, int .i64 a1.Paper.Height, int .i64 a1.Paper.Columns, int .i64 a1.Paper.Gap, int .i64 a1.Paper.Scale, int .i64 a1.Paper.Lang] 56 :: rwI G (Kd.int .i64) (some ⟨g29, 0, none⟩) [] ([0] : List Int) [] 1 3 :: tk (slice A125 v124.length c126) 8 36 :: L) w ∧ v124.length ≤ c126 ∧ Dat k_api_Slice G140 A125 v124 ∧ Own A125 c126 ∧ True | (Sum.inr (v132, v139)) => e = .normal ∧ ∃ (A133 : Option Addr) (c134 : Nat) (G144 : Gh), ds = [] ∧ G96 ≤ G144 ∧ Has [(2, slice A12 a11.length c13), (3, pointer (some ⟨g19, 0, none⟩)), (4, pointer (some ⟨g23, 0, none⟩)), (7, pointer (some ⟨g34, 0, none⟩)), (8, int .i64 ((a2.slices.getD (Int.toNat 0) z_api_Slice).Table)), (9, slice A133 v132.length c134), (10, int .i64 v139), (11, int .i64 v68)] r ∧ Hp G144 (bx g34 [int .i64 a1.Paper.Width, int .i64 a1.Paper.Height, int .i64 a1.Paper.Columns, int .i64 a1.Paper.Gap, int .i64 a1.Paper.Scale, int .i64 a1.Paper.Lang, slice none 0 0, slice none 0 0, slice (some ⟨g29, 0, none⟩) 1 1] 67 :: bx g23 [slice A3 a2.slices.length c4, slice A7 a2.notes.length c8, int .i64 a2.end_] 64 :: bx g19 [int .i64 a1.Paper.Width, int .i64 a1.Paper.Height, int .i64 a1.Paper.Columns, int .i64 a1.Paper.Gap, int .i64 a1.Paper.Scale, int .i64 a1.Paper.Lang] 56 :: rwI G (Kd.int .i64) (some ⟨g29, 0, none⟩) [] ([0] : List Int) [] 1 3 :: tk (slice A133 v132.length c134) 8 36 :: L) w ∧ v132.length ≤ c134 ∧ Dat k_api_Slice G144 A133 v132 ∧ Own A133 c134 ∧ True) ?_ ?_
 refine have H:=hC;wb<|sr fun K149 hK150=>fa fl64_0 z<|ld hI108 1 ag24 z z z<|asn z<|nl<|hK150 _ _ _<|sQ fun K151 hK152=>sr fun K153 hK154=>mv z<|q_gtr z z<|nl<|hK154 _ _ _<|?_
 refine dC (0 < v68) (fun h155=>?_) fun h155=>?_
 refine yK h155 H fun H=>wt (bY h155)<|wpc_region<|mv z<|mv z<|q_sub z z<|iK H fun⟨h156, h156'⟩H=>?_
 obtain ⟨ad157, cs158, hA159, hK160, hn161, hc162⟩ := Dat.get (Dat.mono hG97 hD15) z_pages_band (w64 (v68 - 1)) h156 h156'
 obtain ⟨A163, c164, hl165, hD166, A167, c168, hl169, hD170, rfl⟩ := open_pages_band hK160
 refine q_ia el57 z hA159 z h156 h156'<|q_fa fl64_0 z z<|q_lf hI108 ag24 z (gR.cel _ _ (hc162 0 _ z))<|asn z<|nl<|hK152 _ _ _<|sr fun K171 hK172=>mv z<|q_len so24 z<|mv z<|nl<|hK172 _ _ _<|wb<|bK H fun o224 hC H=>?_
 refine wpc_mono (Q := fun e r ds w => match (generalizing := false) o224 with | (Sum.inl (v200, v207)) => e = .exit 0 ∧ ∃ (A201 : Option Addr) (c202 : Nat) (G216 : Gh), ds = [] ∧ G96 ≤ G216 ∧ Has [(3, pointer (some ⟨g19, 0, none⟩)), (4, pointer (some ⟨g23, 0, none⟩)), (7, pointer (some ⟨g34, 0, none⟩)), (9, slice A201 v200.length c202), (10, int .i64 v207)] r ∧ Hp G216 (bx g34 [int .i64 a1.Paper.Width, int .i64 a1.Paper.Height, int .i64 a1.Paper.Columns, int .i64 a1.Paper.Gap, int .i64 a1.Paper.Scale, int .i64 a1.Paper.Lang, slice none 0 0, slice none 0 0, slice (some ⟨g29, 0, none⟩) 1 1] 67 :: bx g23 [slice A3 a2.slices.length c4, slice A7 a2.notes.length c8, int .i64 a2.end_] 64 :: bx g19 [int .i64 a1.Paper.Width, int .i64 a1.Paper.Height, int .i64 a1.Paper.Columns, int .i64 a1.Paper.Gap, int .i64 a1.Paper.Scale, int .i64 a1.Paper.Lang] 56 :: rwI G (Kd.int .i64) (some ⟨g29, 0, none⟩) [] ([0] : List Int) [] 1 3 :: tk (slice A201 v200.length c202) 8 36 :: L) w ∧ v200.length ≤ c202 ∧ Dat k_api_Slice G216 A201 v200 ∧ Own A201 c202 ∧ True | (Sum.inr (v208, v215)) => e = .exit 2 ∧ ∃ (A209 : Option Addr) (c210 : Nat) (G220 : Gh), ds = [] ∧ G96 ≤ G220 ∧ Has [(2, slice A12 a11.length c13), (3, pointer (some ⟨g19, 0, none⟩)), (4, pointer (some ⟨g23, 0, none⟩)), (7, pointer (some ⟨g34, 0, none⟩)), (8, int .i64 ((a2.slices.getD (Int.toNat 0) z_api_Slice).Table)), (9, slice A209 v208.length c210), (10, int .i64 v215), (11, int .i64 v68)] r ∧ Hp G220 (bx g34 [int .i64 a1.Paper.Width, int .i64 a1.Paper.Height, int .i64 a1.Paper.Columns, int .i64 a1.Paper.Gap, int .i64 a1.Paper.Scale, int .i64 a1.Paper.Lang, slice none 0 0, slice none 0 0, slice (some ⟨g29, 0, none⟩) 1 1] 67 :: bx g23 [slice A3 a2.slices.length c4, slice A7 a2.notes.length c8, int .i64 a2.end_] 64 :: bx g19 [int .i64 a1.Paper.Width, int .i64 a1.Paper.Height, int .i64 a1.Paper.Columns, int .i64 a1.Paper.Gap, int .i64 a1.Paper.Scale, int .i64 a1.Paper.Lang] 56 :: rwI G (Kd.int .i64) (some ⟨g29, 0, none⟩) [] ([0] : List Int) [] 1 3 :: tk (slice A209 v208.length c210) 8 36 :: L) w ∧ v208.length ≤ c210 ∧ Dat k_api_Slice G220 A209 v208 ∧ Own A209 c210 ∧ True) ?_ ?_
 refine have hI351:=Hp.pick 5 [0, 1, 2, 4, 3] hI108 z;wpc_loop fun I hLp=>?_
 refine pages_begin_l199.partial_correctness a2 a11 v68 (fun v177 v184 v185 o => ∀ (A178 : Option Addr) (c179 : Nat) (G225 : Gh) (r : Rg) (w : World), G96 ≤ G225 → Has [(2, slice A12 a11.length c13), (3, pointer (some ⟨g19, 0, none⟩)), (4, pointer (some ⟨g23, 0, none⟩)), (7, pointer (some ⟨g34, 0, none⟩)), (8, int .i64 ((a2.slices.getD (Int.toNat 0) z_api_Slice).Table)), (9, slice A178 v177.length c179), (10, int .i64 v184), (11, int .i64 v68), (44, slice A163 ((a11.getD (Int.toNat (w64 (v68 - 1))) z_pages_band).slices).length c164), (45, int .i64 (((a11.getD (Int.toNat (w64 (v68 - 1))) z_pages_band).slices).length : Int)), (46, int .i64 v185)] r → Hp G225 (bx g34 [int .i64 a1.Paper.Width, int .i64 a1.Paper.Height, int .i64 a1.Paper.Columns, int .i64 a1.Paper.Gap, int .i64 a1.Paper.Scale, int .i64 a1.Paper.Lang, slice none 0 0, slice none 0 0, slice (some ⟨g29, 0, none⟩) 1 1] 67 :: bx g23 [slice A3 a2.slices.length c4, slice A7 a2.notes.length c8, int .i64 a2.end_] 64 :: bx g19 [int .i64 a1.Paper.Width, int .i64 a1.Paper.Height, int .i64 a1.Paper.Columns, int .i64 a1.Paper.Gap, int .i64 a1.Paper.Scale, int .i64 a1.Paper.Lang] 56 :: rwI G (Kd.int .i64) (some ⟨g29, 0, none⟩) [] ([0] : List Int) [] 1 3 :: tk (slice A178 v177.length c179) 8 36 :: L) w → v177.length ≤ c179 → Dat k_api_Slice G225 A178 v177 → Own A178 c179 → o = o224 → I r [] w) ?_ v60 v67 0 _ hC A61 c62 _ _ _ gR ⟨rfl, rfl, rfl, rfl, rfl, rfl, rfl, rfl, rfl, rfl, rfl, tv⟩ hI351 hl63 hD64 ho65 rfl
 intro _ ih v177 v184 v185 o H A178 c179 G225 r wd227 hG226 hHas hI228 hl180 hD181 ho182 ho
 rw [ho] at H; clear ho
 rw [hHas.eq]; clear hHas
 refine hLp _ _ _<|sr fun K229 hK230=>q_lss z z<|nl<|hK230 _ _ _<|sQ fun K231 hK232=>dC (v185 < (((a11.getD (Int.toNat (w64 (v68 - 1))) z_pages_band).slices).length : Int)) (fun h233=>?_) fun h233=>?_
 refine yK h233 H fun H=>wt (bY h233)<|ws<|hK232 _ _ _<|sQ fun K234 hK235=>bK H fun o252 hC H=>?_
 refine wpc_mono (Q := fun e r ds w => match (generalizing := false) o252 with | (Sum.inl _) => e = .exit 0 ∧ ds = [] ∧ Has [(3, pointer (some ⟨g19, 0, none⟩)), (4, pointer (some ⟨g23, 0, none⟩)), (7, pointer (some ⟨g34, 0, none⟩)), (9, slice A178 v177.length c179), (10, int .i64 v184)] r ∧ Hp G225 (bx g34 [int .i64 a1.Paper.Width, int .i64 a1.Paper.Height, int .i64 a1.Paper.Columns, int .i64 a1.Paper.Gap, int .i64 a1.Paper.Scale, int .i64 a1.Paper.Lang, slice none 0 0, slice none 0 0, slice (some ⟨g29, 0, none⟩) 1 1] 67 :: bx g23 [slice A3 a2.slices.length c4, slice A7 a2.notes.length c8, int .i64 a2.end_] 64 :: bx g19 [int .i64 a1.Paper.Width, int .i64 a1.Paper.Height, int .i64 a1.Paper.Columns, int .i64 a1.Paper.Gap, int .i64 a1.Paper.Scale, int .i64 a1.Paper.Lang] 56 :: tk (slice A178 v177.length c179) 8 36 :: rwI G (Kd.int .i64) (some ⟨g29, 0, none⟩) [] ([0] : List Int) [] 1 3 :: L) w ∧ True | (Sum.inr (v236, v243)) => e = .normal ∧ ∃ (A237 : Option Addr) (c238 : Nat) (G248 : Gh), ds = [] ∧ G225 ≤ G248 ∧ Has [(2, slice A12 a11.length c13), (3, pointer (some ⟨g19, 0, none⟩)), (4, pointer (some ⟨g23, 0, none⟩)), (7, pointer (some ⟨g34, 0, none⟩)), (8, int .i64 ((a2.slices.getD (Int.toNat 0) z_api_Slice).Table)), (9, slice A237 v236.length c238), (10, int .i64 v243), (11, int .i64 v68), (44, slice A163 ((a11.getD (Int.toNat (w64 (v68 - 1))) z_pages_band).slices).length c164), (45, int .i64 (((a11.getD (Int.toNat (w64 (v68 - 1))) z_pages_band).slices).length : Int)), (46, int .i64 v185)] r ∧ Hp G248 (bx g34 [int .i64 a1.Paper.Width, int .i64 a1.Paper.Height, int .i64 a1.Paper.Columns, int .i64 a1.Paper.Gap, int .i64 a1.Paper.Scale, int .i64 a1.Paper.Lang, slice none 0 0, slice none 0 0, slice (some ⟨g29, 0, none⟩) 1 1] 67 :: bx g23 [slice A3 a2.slices.length c4, slice A7 a2.notes.length c8, int .i64 a2.end_] 64 :: bx g19 [int .i64 a1.Paper.Width, int .i64 a1.Paper.Height, int .i64 a1.Paper.Columns, int .i64 a1.Paper.Gap, int .i64 a1.Paper.Scale, int .i64 a1.Paper.Lang] 56 :: rwI G (Kd.int .i64) (some ⟨g29, 0, none⟩) [] ([0] : List Int) [] 1 3 :: tk (slice A237 v236.length c238) 8 36 :: L) w ∧ v236.length ≤ c238 ∧ Dat k_api_Slice G248 A237 v236 ∧ Own A237 c238 ∧ True) ?_ ?_
 refine have H:=hC;wb<|sr fun K253 hK254=>iK H fun⟨h255, h255'⟩H=>?_
 obtain ⟨ad256, cs257, hA258, hK259, hn260, hc261⟩ := Dat.get (Dat.mono hG226 hD166) z_api_Slice (v185) h255 h255'
 obtain ⟨rfl⟩ := open_api_Slice hK259
 refine q_ia el24 z hA258 z h255 h255'<|q_lfA hI228 ag36 z (cs := [int .i64 ((((a11.getD (Int.toNat (w64 (v68 - 1))) z_pages_band).slices).getD (Int.toNat v185) z_api_Slice).Node), int .i64 ((((a11.getD (Int.toNat (w64 (v68 - 1))) z_pages_band).slices).getD (Int.toNat v185) z_api_Slice).Table), int .i64 ((((a11.getD (Int.toNat (w64 (v68 - 1))) z_pages_band).slices).getD (Int.toNat v185) z_api_Slice).X), int .i64 ((((a11.getD (Int.toNat (w64 (v68 - 1))) z_pages_band).slices).getD (Int.toNat v185) z_api_Slice).Y), int .i64 ((((a11.getD (Int.toNat (w64 (v68 - 1))) z_pages_band).slices).getD (Int.toNat v185) z_api_Slice).H), string ((((a11.getD (Int.toNat (w64 (v68 - 1))) z_pages_band).slices).getD (Int.toNat v185) z_api_Slice).Text), bool ((((a11.getD (Int.toNat (w64 (v68 - 1))) z_pages_band).slices).getD (Int.toNat v185) z_api_Slice).Head), bool ((((a11.getD (Int.toNat (w64 (v68 - 1))) z_pages_band).slices).getD (Int.toNat v185) z_api_Slice).Note)]) z (fun j v hv => gR.cel _ _ (hc261 j v hv))<|q_alloc hI228 ze36 fun g263 wd264 hI265=>stk hI265 0 ag36 z z z z z z z fun wd266 hI267=>nl<|hK254 _ _ _<|wb<|sr fun K268 hK269=>fa fl36_6 z<|ld hI267 0 ag4 z z z<|mv z<|bK H fun v270 hC H=>?_
 refine jS 3 G225 [(2, slice A12 a11.length c13), (3, pointer (some ⟨g19, 0, none⟩)), (4, pointer (some ⟨g23, 0, none⟩)), (7, pointer (some ⟨g34, 0, none⟩)), (8, int .i64 ((a2.slices.getD (Int.toNat 0) z_api_Slice).Table)), (9, slice A178 v177.length c179), (10, int .i64 v184), (11, int .i64 v68), (14, pointer (some ⟨g263, 0, none⟩)), (44, slice A163 ((a11.getD (Int.toNat (w64 (v68 - 1))) z_pages_band).slices).length c164), (45, int .i64 (((a11.getD (Int.toNat (w64 (v68 - 1))) z_pages_band).slices).length : Int)), (46, int .i64 v185), (56, bool v270)] (bx g263 [int .i64 ((((a11.getD (Int.toNat (w64 (v68 - 1))) z_pages_band).slices).getD (Int.toNat v185) z_api_Slice).Node), int .i64 ((((a11.getD (Int.toNat (w64 (v68 - 1))) z_pages_band).slices).getD (Int.toNat v185) z_api_Slice).Table), int .i64 ((((a11.getD (Int.toNat (w64 (v68 - 1))) z_pages_band).slices).getD (Int.toNat v185) z_api_Slice).X), int .i64 ((((a11.getD (Int.toNat (w64 (v68 - 1))) z_pages_band).slices).getD (Int.toNat v185) z_api_Slice).Y), int .i64 ((((a11.getD (Int.toNat (w64 (v68 - 1))) z_pages_band).slices).getD (Int.toNat v185) z_api_Slice).H), string ((((a11.getD (Int.toNat (w64 (v68 - 1))) z_pages_band).slices).getD (Int.toNat v185) z_api_Slice).Text), bool ((((a11.getD (Int.toNat (w64 (v68 - 1))) z_pages_band).slices).getD (Int.toNat v185) z_api_Slice).Head), bool ((((a11.getD (Int.toNat (w64 (v68 - 1))) z_pages_band).slices).getD (Int.toNat v185) z_api_Slice).Note)] 36 :: bx g34 [int .i64 a1.Paper.Width, int .i64 a1.Paper.Height, int .i64 a1.Paper.Columns, int .i64 a1.Paper.Gap, int .i64 a1.Paper.Scale, int .i64 a1.Paper.Lang, slice none 0 0, slice none 0 0, slice (some ⟨g29, 0, none⟩) 1 1] 67 :: bx g23 [slice A3 a2.slices.length c4, slice A7 a2.notes.length c8, int .i64 a2.end_] 64 :: bx g19 [int .i64 a1.Paper.Width, int .i64 a1.Paper.Height, int .i64 a1.Paper.Columns, int .i64 a1.Paper.Gap, int .i64 a1.Paper.Scale, int .i64 a1.Paper.Lang] 56 :: tk (slice A178 v177.length c179) 8 36 :: rwI G (Kd.int .i64) (some ⟨g29, 0, none⟩) [] ([0] : List Int) [] 1 3 :: L) ?_ fun _ wd273 hI274=>?_
 refine have H:=hC;dC (((((a11.getD (Int.toNat (w64 (v68 - 1))) z_pages_band).slices).getD (Int.toNat v185) z_api_Slice).Head) = true) (fun h276=>?_) fun h276=>?_
 refine yK h276 H fun H=>mv (hw:=gY z z z (vY h276)) z<|q_eql (hw:=gY z z z (vY h276)) z z<|pkt (vY h276) z<|nl<|have hI282:=Hp.pick 6 [0, 1, 2, 3, 5, 4] hI267 z;?_
 cases H
 exact je ⟨z, z, z, z, z, z, z, z, z, z, z, z, z, tv⟩ hI282
 refine nK h276 H fun H=>Sk 2 z z (vN h276) z<|pkf (vN h276) z<|nl<|have hI288:=Hp.pick 6 [0, 1, 2, 3, 5, 4] hI267 z;?_
 cases H
 exact je ⟨z, z, z, z, z, z, z, z, z, z, z, z, z, tv⟩ hI288
 refine asn z<|nl<|hK269 _ _ _<|dC (v270 = true) (fun h289=>?_) fun h289=>?_
 refine yK h289 H fun H=>wt (vY h289)<|wx<|have hI295:=Hp.pick 6 [1, 2, 3, 4, 5] hI274 z;?_
 cases H
 exact ⟨z, z, ⟨z, z, z, z, z, tv⟩, hI295, tv⟩
 refine nK h289 H fun H=>wf (vN h289)<|sr fun K296 hK297=>fa fl36_6 z<|ld hI274 0 ag4 z z z<|mv z<|bK H fun v298 hC H=>?_
 refine js 5 hI274 [(2, slice A12 a11.length c13), (3, pointer (some ⟨g19, 0, none⟩)), (4, pointer (some ⟨g23, 0, none⟩)), (7, pointer (some ⟨g34, 0, none⟩)), (8, int .i64 ((a2.slices.getD (Int.toNat 0) z_api_Slice).Table)), (9, slice A178 v177.length c179), (10, int .i64 v184), (11, int .i64 v68), (14, pointer (some ⟨g263, 0, none⟩)), (44, slice A163 ((a11.getD (Int.toNat (w64 (v68 - 1))) z_pages_band).slices).length c164), (45, int .i64 (((a11.getD (Int.toNat (w64 (v68 - 1))) z_pages_band).slices).length : Int)), (46, int .i64 v185), (65, bool v298)] ?_ fun _ wd301 hI302=>?_
 refine have H:=hC;dC (((((a11.getD (Int.toNat (w64 (v68 - 1))) z_pages_band).slices).getD (Int.toNat v185) z_api_Slice).Head) = true) (fun h304=>?_) fun h304=>?_
 refine yK h304 H fun H=>fa (hw:=gY z z z (vY h304)) fl36_1 z<|ld (hw:=gY z z z (vY h304)) hI274 0 ag3 z z z<|mv (hw:=gY z z z (vY h304)) z<|q_eql (hw:=gY z z z (vY h304)) z z<|pkt (vY h304) z<|nl<|?_
 cases H
 exact je ⟨z, z, z, z, z, z, z, z, z, z, z, z, z, tv⟩ hI274
 refine nK h304 H fun H=>Sk 4 z z (vN h304) z<|pkf (vN h304) z<|nl<|?_
 cases H
 exact je ⟨z, z, z, z, z, z, z, z, z, z, z, z, z, tv⟩ hI274
 refine asn z<|nl<|hK297 _ _ _<|dC (v298 = true) (fun h305=>?_) fun h305=>?_
 refine yK h305 H fun H=>wt (vY h305)<|sr fun K306 hK307=>mv z<|lda hI302 0 ag36 z z z z<|?_
 refine q_bs hI302 (vs := [(0, agg [int .i64 ((((a11.getD (Int.toNat (w64 (v68 - 1))) z_pages_band).slices).getD (Int.toNat v185) z_api_Slice).Node), int .i64 ((((a11.getD (Int.toNat (w64 (v68 - 1))) z_pages_band).slices).getD (Int.toNat v185) z_api_Slice).Table), int .i64 ((((a11.getD (Int.toNat (w64 (v68 - 1))) z_pages_band).slices).getD (Int.toNat v185) z_api_Slice).X), int .i64 ((((a11.getD (Int.toNat (w64 (v68 - 1))) z_pages_band).slices).getD (Int.toNat v185) z_api_Slice).Y), int .i64 ((((a11.getD (Int.toNat (w64 (v68 - 1))) z_pages_band).slices).getD (Int.toNat v185) z_api_Slice).H), string ((((a11.getD (Int.toNat (w64 (v68 - 1))) z_pages_band).slices).getD (Int.toNat v185) z_api_Slice).Text), bool ((((a11.getD (Int.toNat (w64 (v68 - 1))) z_pages_band).slices).getD (Int.toNat v185) z_api_Slice).Head), bool ((((a11.getD (Int.toNat (w64 (v68 - 1))) z_pages_band).slices).getD (Int.toNat v185) z_api_Slice).Note)].toArray)]) (cs := [int .i64 ((((a11.getD (Int.toNat (w64 (v68 - 1))) z_pages_band).slices).getD (Int.toNat v185) z_api_Slice).Node), int .i64 ((((a11.getD (Int.toNat (w64 (v68 - 1))) z_pages_band).slices).getD (Int.toNat v185) z_api_Slice).Table), int .i64 ((((a11.getD (Int.toNat (w64 (v68 - 1))) z_pages_band).slices).getD (Int.toNat v185) z_api_Slice).X), int .i64 ((((a11.getD (Int.toNat (w64 (v68 - 1))) z_pages_band).slices).getD (Int.toNat v185) z_api_Slice).Y), int .i64 ((((a11.getD (Int.toNat (w64 (v68 - 1))) z_pages_band).slices).getD (Int.toNat v185) z_api_Slice).H), string ((((a11.getD (Int.toNat (w64 (v68 - 1))) z_pages_band).slices).getD (Int.toNat v185) z_api_Slice).Text), bool ((((a11.getD (Int.toNat (w64 (v68 - 1))) z_pages_band).slices).getD (Int.toNat v185) z_api_Slice).Head), bool ((((a11.getD (Int.toNat (w64 (v68 - 1))) z_pages_band).slices).getD (Int.toNat v185) z_api_Slice).Note)]) el24 ze36 rfl (by decide) rfl (by kernel_rfl) (fun g309 wd310 hI311 => ?_)
 refine iK H fun h321 H=>?_
 refine q_app (xs := v177) (ys := [(((a11.getD (Int.toNat (w64 (v68 - 1))) z_pages_band).slices).getD (Int.toNat v185) z_api_Slice)]) k_api_Slice hI311 5 el24 ze36 rfl rfl rfl rfl ho182 hl180 hD181 (src_bx hI311 0 so24 rfl rfl) ⟨[int .i64 ((((a11.getD (Int.toNat (w64 (v68 - 1))) z_pages_band).slices).getD (Int.toNat v185) z_api_Slice).Node), int .i64 ((((a11.getD (Int.toNat (w64 (v68 - 1))) z_pages_band).slices).getD (Int.toNat v185) z_api_Slice).Table), int .i64 ((((a11.getD (Int.toNat (w64 (v68 - 1))) z_pages_band).slices).getD (Int.toNat v185) z_api_Slice).X), int .i64 ((((a11.getD (Int.toNat (w64 (v68 - 1))) z_pages_band).slices).getD (Int.toNat v185) z_api_Slice).Y), int .i64 ((((a11.getD (Int.toNat (w64 (v68 - 1))) z_pages_band).slices).getD (Int.toNat v185) z_api_Slice).H), string ((((a11.getD (Int.toNat (w64 (v68 - 1))) z_pages_band).slices).getD (Int.toNat v185) z_api_Slice).Text), bool ((((a11.getD (Int.toNat (w64 (v68 - 1))) z_pages_band).slices).getD (Int.toNat v185) z_api_Slice).Head), bool ((((a11.getD (Int.toNat (w64 (v68 - 1))) z_pages_band).slices).getD (Int.toNat v185) z_api_Slice).Note)], _, rfl, (mk_api_Slice (x := (((a11.getD (Int.toNat (w64 (v68 - 1))) z_pages_band).slices).getD (Int.toNat v185) z_api_Slice))), rfl⟩ rfl (by simp only [List.length_cons, List.length_nil]; omega) (by simp only [List.length_cons, List.length_nil]; omega) (fun A312 c313 G314 wd315 hG316 ho317 hl318 hD319 hI320 => ?_)
 refine asn z<|nl<|hK307 _ _ _<|?_
 refine wpc_quiet mixo (by kernel_rfl) ?_
 refine have hI322:=hI320.drew;wq (mv z wqd) z<|wq (fa fl36_3 z wqd) z<|wq (ld hI322 1 ag3 z z z wqd) z<|wq (fa fl36_4 z wqd) z<|wq (ld hI322 1 ag3 z z z wqd) z<|wq (q_add z z wqd) z<|wq (mv z wqd) z<|iK H fun⟨h323, h323'⟩H=>?_
 obtain ⟨ad324, cs325, hA326, hK327, hn328, hc329⟩ := Dat.get hD319 z_api_Slice (0) h323 h323'
 obtain ⟨rfl⟩ := open_api_Slice hK327
 refine wq (q_ia el24 z hA326 z h323 h323' wqd) z<|wq (q_fa fl36_3 z z wqd) z<|wq (q_lf hI322 ag3 z (gR.cel _ _ (hc329 3 _ z)) wqd) z<|wq (q_sub z z wqd) z<|wq (q_max z z wqd) z<|wq (asn z wqd) z<|wqq_nil<|have hI335:=Hp.pick 7 [2, 3, 4, 6, 5] hI322 z;?_
 cases H
 exact ⟨z, A312, c313, _, z, hG316, ⟨z, z, z, z, z, z, z, z, z, z, z, tv⟩, hI335, hl318, hD319, ho317, tv⟩
 refine nK h305 H fun H=>wf (vN h305)<|ws<|have hI341:=Hp.pick 6 [1, 2, 3, 5, 4] hI302 z;?_
 cases H
 exact ⟨z, A178, c179, _, z, gR, ⟨z, z, z, z, z, z, z, z, z, z, z, tv⟩, hI341, hl180, hD181, ho182, tv⟩
 rcases o252 with _ | ⟨v236, v243⟩
 rintro e r ds wd246 ⟨rfl, rfl, hHas, hI247, _⟩
 rw [hHas.eq]; clear hHas
 refine have hI346:=Hp.pick 5 [0, 1, 2, 4, 3] hI247 z;?_
 cases H
 exact ⟨z, A178, c179, _, z, hG226, ⟨z, z, z, z, z, tv⟩, hI346, hl180, hD181, ho182, tv⟩
 rintro e r ds wd250 ⟨rfl, A237, c238, G248, rfl, hG249, hHas, hI251, hl239, hD240, ho241, _⟩
 rw [hHas.eq]; clear hHas
 exact hK235 _ _ _<|wpc_region<|q_add z z<|mv z<|nl<|ih _ _ _ _ H A237 c238 _ _ _ (gT hG226 hG249) ⟨z, z, z, z, z, z, z, z, z, z, z, tv⟩ hI251 hl239 hD240 ho241 z
 refine nK h233 H fun H=>wf (bN h233)<|wx<|?_
 cases H
 exact ⟨z, A178, c179, _, z, hG226, ⟨z, z, z, z, z, z, z, z, tv⟩, hI228, hl180, hD181, ho182, tv⟩
 rcases o224 with ⟨v200, v207⟩ | ⟨v208, v215⟩
 rintro e r ds wd218 ⟨rfl, A201, c202, G216, rfl, hG217, hHas, hI219, hl203, hD204, ho205, _⟩
 rw [hHas.eq]; clear hHas
 cases H
 exact ⟨z, A201, c202, _, z, hG217, ⟨z, z, z, z, z, tv⟩, hI219, hl203, hD204, ho205, tv⟩
 rintro e r ds wd222 ⟨rfl, A209, c210, G220, rfl, hG221, hHas, hI223, hl211, hD212, ho213, _⟩
 rw [hHas.eq]; clear hHas
 cases H
 exact ⟨z, A209, c210, _, z, hG221, ⟨z, z, z, z, z, z, z, z, tv⟩, hI223, hl211, hD212, ho213, tv⟩
 refine nK h155 H fun H=>wf (bN h155)<|ws<|hK152 _ _ _<|sr fun K352 hK353=>mv z<|q_len so24 z<|mv z<|nl<|hK353 _ _ _<|wb<|bK H fun o405 hC H=>?_
 refine wpc_mono (Q := fun e r ds w => match (generalizing := false) o405 with | (Sum.inl (v381, v388)) => e = .exit 0 ∧ ∃ (A382 : Option Addr) (c383 : Nat) (G397 : Gh), ds = [] ∧ G96 ≤ G397 ∧ Has [(3, pointer (some ⟨g19, 0, none⟩)), (4, pointer (some ⟨g23, 0, none⟩)), (7, pointer (some ⟨g34, 0, none⟩)), (9, slice A382 v381.length c383), (10, int .i64 v388)] r ∧ Hp G397 (bx g34 [int .i64 a1.Paper.Width, int .i64 a1.Paper.Height, int .i64 a1.Paper.Columns, int .i64 a1.Paper.Gap, int .i64 a1.Paper.Scale, int .i64 a1.Paper.Lang, slice none 0 0, slice none 0 0, slice (some ⟨g29, 0, none⟩) 1 1] 67 :: bx g23 [slice A3 a2.slices.length c4, slice A7 a2.notes.length c8, int .i64 a2.end_] 64 :: bx g19 [int .i64 a1.Paper.Width, int .i64 a1.Paper.Height, int .i64 a1.Paper.Columns, int .i64 a1.Paper.Gap, int .i64 a1.Paper.Scale, int .i64 a1.Paper.Lang] 56 :: rwI G (Kd.int .i64) (some ⟨g29, 0, none⟩) [] ([0] : List Int) [] 1 3 :: tk (slice A382 v381.length c383) 8 36 :: L) w ∧ v381.length ≤ c383 ∧ Dat k_api_Slice G397 A382 v381 ∧ Own A382 c383 ∧ True | (Sum.inr (v389, v396)) => e = .exit 2 ∧ ∃ (A390 : Option Addr) (c391 : Nat) (G401 : Gh), ds = [] ∧ G96 ≤ G401 ∧ Has [(2, slice A12 a11.length c13), (3, pointer (some ⟨g19, 0, none⟩)), (4, pointer (some ⟨g23, 0, none⟩)), (7, pointer (some ⟨g34, 0, none⟩)), (8, int .i64 ((a2.slices.getD (Int.toNat 0) z_api_Slice).Table)), (9, slice A390 v389.length c391), (10, int .i64 v396), (11, int .i64 v68)] r ∧ Hp G401 (bx g34 [int .i64 a1.Paper.Width, int .i64 a1.Paper.Height, int .i64 a1.Paper.Columns, int .i64 a1.Paper.Gap, int .i64 a1.Paper.Scale, int .i64 a1.Paper.Lang, slice none 0 0, slice none 0 0, slice (some ⟨g29, 0, none⟩) 1 1] 67 :: bx g23 [slice A3 a2.slices.length c4, slice A7 a2.notes.length c8, int .i64 a2.end_] 64 :: bx g19 [int .i64 a1.Paper.Width, int .i64 a1.Paper.Height, int .i64 a1.Paper.Columns, int .i64 a1.Paper.Gap, int .i64 a1.Paper.Scale, int .i64 a1.Paper.Lang] 56 :: rwI G (Kd.int .i64) (some ⟨g29, 0, none⟩) [] ([0] : List Int) [] 1 3 :: tk (slice A390 v389.length c391) 8 36 :: L) w ∧ v389.length ≤ c391 ∧ Dat k_api_Slice G401 A390 v389 ∧ Own A390 c391 ∧ True) ?_ ?_
 refine have hI532:=Hp.pick 5 [0, 1, 2, 4, 3] hI108 z;wpc_loop fun I hLp=>?_
 refine pages_begin_l380.partial_correctness a2 v68 (fun v358 v365 v366 o => ∀ (A359 : Option Addr) (c360 : Nat) (G406 : Gh) (r : Rg) (w : World), G96 ≤ G406 → Has [(2, slice A12 a11.length c13), (3, pointer (some ⟨g19, 0, none⟩)), (4, pointer (some ⟨g23, 0, none⟩)), (7, pointer (some ⟨g34, 0, none⟩)), (8, int .i64 ((a2.slices.getD (Int.toNat 0) z_api_Slice).Table)), (9, slice A359 v358.length c360), (10, int .i64 v365), (11, int .i64 v68), (44, slice A3 a2.slices.length c4), (45, int .i64 (a2.slices.length : Int)), (46, int .i64 v366)] r → Hp G406 (bx g34 [int .i64 a1.Paper.Width, int .i64 a1.Paper.Height, int .i64 a1.Paper.Columns, int .i64 a1.Paper.Gap, int .i64 a1.Paper.Scale, int .i64 a1.Paper.Lang, slice none 0 0, slice none 0 0, slice (some ⟨g29, 0, none⟩) 1 1] 67 :: bx g23 [slice A3 a2.slices.length c4, slice A7 a2.notes.length c8, int .i64 a2.end_] 64 :: bx g19 [int .i64 a1.Paper.Width, int .i64 a1.Paper.Height, int .i64 a1.Paper.Columns, int .i64 a1.Paper.Gap, int .i64 a1.Paper.Scale, int .i64 a1.Paper.Lang] 56 :: rwI G (Kd.int .i64) (some ⟨g29, 0, none⟩) [] ([0] : List Int) [] 1 3 :: tk (slice A359 v358.length c360) 8 36 :: L) w → v358.length ≤ c360 → Dat k_api_Slice G406 A359 v358 → Own A359 c360 → o = o405 → I r [] w) ?_ v60 v67 0 _ hC A61 c62 _ _ _ gR ⟨rfl, rfl, rfl, rfl, rfl, rfl, rfl, rfl, rfl, rfl, rfl, tv⟩ hI532 hl63 hD64 ho65 rfl
 intro _ ih v358 v365 v366 o H A359 c360 G406 r wd408 hG407 hHas hI409 hl361 hD362 ho363 ho
 rw [ho] at H; clear ho
 rw [hHas.eq]; clear hHas
 refine hLp _ _ _<|sr fun K410 hK411=>q_lss z z<|nl<|hK411 _ _ _<|sQ fun K412 hK413=>dC (v366 < (a2.slices.length : Int)) (fun h414=>?_) fun h414=>?_
 refine yK h414 H fun H=>wt (bY h414)<|ws<|hK413 _ _ _<|sQ fun K415 hK416=>bK H fun o433 hC H=>?_
 refine wpc_mono (Q := fun e r ds w => match (generalizing := false) o433 with | (Sum.inl _) => e = .exit 0 ∧ ds = [] ∧ Has [(3, pointer (some ⟨g19, 0, none⟩)), (4, pointer (some ⟨g23, 0, none⟩)), (7, pointer (some ⟨g34, 0, none⟩)), (9, slice A359 v358.length c360), (10, int .i64 v365)] r ∧ Hp G406 (bx g34 [int .i64 a1.Paper.Width, int .i64 a1.Paper.Height, int .i64 a1.Paper.Columns, int .i64 a1.Paper.Gap, int .i64 a1.Paper.Scale, int .i64 a1.Paper.Lang, slice none 0 0, slice none 0 0, slice (some ⟨g29, 0, none⟩) 1 1] 67 :: bx g23 [slice A3 a2.slices.length c4, slice A7 a2.notes.length c8, int .i64 a2.end_] 64 :: bx g19 [int .i64 a1.Paper.Width, int .i64 a1.Paper.Height, int .i64 a1.Paper.Columns, int .i64 a1.Paper.Gap, int .i64 a1.Paper.Scale, int .i64 a1.Paper.Lang] 56 :: tk (slice A359 v358.length c360) 8 36 :: rwI G (Kd.int .i64) (some ⟨g29, 0, none⟩) [] ([0] : List Int) [] 1 3 :: L) w ∧ True | (Sum.inr (v417, v424)) => e = .normal ∧ ∃ (A418 : Option Addr) (c419 : Nat) (G429 : Gh), ds = [] ∧ G406 ≤ G429 ∧ Has [(2, slice A12 a11.length c13), (3, pointer (some ⟨g19, 0, none⟩)), (4, pointer (some ⟨g23, 0, none⟩)), (7, pointer (some ⟨g34, 0, none⟩)), (8, int .i64 ((a2.slices.getD (Int.toNat 0) z_api_Slice).Table)), (9, slice A418 v417.length c419), (10, int .i64 v424), (11, int .i64 v68), (44, slice A3 a2.slices.length c4), (45, int .i64 (a2.slices.length : Int)), (46, int .i64 v366)] r ∧ Hp G429 (bx g34 [int .i64 a1.Paper.Width, int .i64 a1.Paper.Height, int .i64 a1.Paper.Columns, int .i64 a1.Paper.Gap, int .i64 a1.Paper.Scale, int .i64 a1.Paper.Lang, slice none 0 0, slice none 0 0, slice (some ⟨g29, 0, none⟩) 1 1] 67 :: bx g23 [slice A3 a2.slices.length c4, slice A7 a2.notes.length c8, int .i64 a2.end_] 64 :: bx g19 [int .i64 a1.Paper.Width, int .i64 a1.Paper.Height, int .i64 a1.Paper.Columns, int .i64 a1.Paper.Gap, int .i64 a1.Paper.Scale, int .i64 a1.Paper.Lang] 56 :: rwI G (Kd.int .i64) (some ⟨g29, 0, none⟩) [] ([0] : List Int) [] 1 3 :: tk (slice A418 v417.length c419) 8 36 :: L) w ∧ v417.length ≤ c419 ∧ Dat k_api_Slice G429 A418 v417 ∧ Own A418 c419 ∧ True) ?_ ?_
 refine have H:=hC;wb<|sr fun K434 hK435=>iK H fun⟨h436, h436'⟩H=>?_
 obtain ⟨ad437, cs438, hA439, hK440, hn441, hc442⟩ := Dat.get (Dat.mono (gT hG97 hG407) hD6) z_api_Slice (v366) h436 h436'
 obtain ⟨rfl⟩ := open_api_Slice hK440
 refine q_ia el24 z hA439 z h436 h436'<|q_lfA hI409 ag36 z (cs := [int .i64 ((a2.slices.getD (Int.toNat v366) z_api_Slice).Node), int .i64 ((a2.slices.getD (Int.toNat v366) z_api_Slice).Table), int .i64 ((a2.slices.getD (Int.toNat v366) z_api_Slice).X), int .i64 ((a2.slices.getD (Int.toNat v366) z_api_Slice).Y), int .i64 ((a2.slices.getD (Int.toNat v366) z_api_Slice).H), string ((a2.slices.getD (Int.toNat v366) z_api_Slice).Text), bool ((a2.slices.getD (Int.toNat v366) z_api_Slice).Head), bool ((a2.slices.getD (Int.toNat v366) z_api_Slice).Note)]) z (fun j v hv => gR.cel _ _ (hc442 j v hv))<|q_alloc hI409 ze36 fun g444 wd445 hI446=>stk hI446 0 ag36 z z z z z z z fun wd447 hI448=>nl<|hK435 _ _ _<|wb<|sr fun K449 hK450=>fa fl36_6 z<|ld hI448 0 ag4 z z z<|mv z<|bK H fun v451 hC H=>?_
 refine jS 3 G406 [(2, slice A12 a11.length c13), (3, pointer (some ⟨g19, 0, none⟩)), (4, pointer (some ⟨g23, 0, none⟩)), (7, pointer (some ⟨g34, 0, none⟩)), (8, int .i64 ((a2.slices.getD (Int.toNat 0) z_api_Slice).Table)), (9, slice A359 v358.length c360), (10, int .i64 v365), (11, int .i64 v68), (14, pointer (some ⟨g444, 0, none⟩)), (44, slice A3 a2.slices.length c4), (45, int .i64 (a2.slices.length : Int)), (46, int .i64 v366), (56, bool v451)] (bx g444 [int .i64 ((a2.slices.getD (Int.toNat v366) z_api_Slice).Node), int .i64 ((a2.slices.getD (Int.toNat v366) z_api_Slice).Table), int .i64 ((a2.slices.getD (Int.toNat v366) z_api_Slice).X), int .i64 ((a2.slices.getD (Int.toNat v366) z_api_Slice).Y), int .i64 ((a2.slices.getD (Int.toNat v366) z_api_Slice).H), string ((a2.slices.getD (Int.toNat v366) z_api_Slice).Text), bool ((a2.slices.getD (Int.toNat v366) z_api_Slice).Head), bool ((a2.slices.getD (Int.toNat v366) z_api_Slice).Note)] 36 :: bx g34 [int .i64 a1.Paper.Width, int .i64 a1.Paper.Height, int .i64 a1.Paper.Columns, int .i64 a1.Paper.Gap, int .i64 a1.Paper.Scale, int .i64 a1.Paper.Lang, slice none 0 0, slice none 0 0, slice (some ⟨g29, 0, none⟩) 1 1] 67 :: bx g23 [slice A3 a2.slices.length c4, slice A7 a2.notes.length c8, int .i64 a2.end_] 64 :: bx g19 [int .i64 a1.Paper.Width, int .i64 a1.Paper.Height, int .i64 a1.Paper.Columns, int .i64 a1.Paper.Gap, int .i64 a1.Paper.Scale, int .i64 a1.Paper.Lang] 56 :: tk (slice A359 v358.length c360) 8 36 :: rwI G (Kd.int .i64) (some ⟨g29, 0, none⟩) [] ([0] : List Int) [] 1 3 :: L) ?_ fun _ wd454 hI455=>?_
 refine have H:=hC;dC (((a2.slices.getD (Int.toNat v366) z_api_Slice).Head) = true) (fun h457=>?_) fun h457=>?_
 refine yK h457 H fun H=>mv (hw:=gY z z z (vY h457)) z<|q_eql (hw:=gY z z z (vY h457)) z z<|pkt (vY h457) z<|nl<|have hI463:=Hp.pick 6 [0, 1, 2, 3, 5, 4] hI448 z;?_
 cases H
 exact je ⟨z, z, z, z, z, z, z, z, z, z, z, z, z, tv⟩ hI463
 refine nK h457 H fun H=>Sk 2 z z (vN h457) z<|pkf (vN h457) z<|nl<|have hI469:=Hp.pick 6 [0, 1, 2, 3, 5, 4] hI448 z;?_
 cases H
 exact je ⟨z, z, z, z, z, z, z, z, z, z, z, z, z, tv⟩ hI469
 refine asn z<|nl<|hK450 _ _ _<|dC (v451 = true) (fun h470=>?_) fun h470=>?_
 refine yK h470 H fun H=>wt (vY h470)<|wx<|have hI476:=Hp.pick 6 [1, 2, 3, 4, 5] hI455 z;?_
 cases H
 exact ⟨z, z, ⟨z, z, z, z, z, tv⟩, hI476, tv⟩
 refine nK h470 H fun H=>wf (vN h470)<|sr fun K477 hK478=>fa fl36_6 z<|ld hI455 0 ag4 z z z<|mv z<|bK H fun v479 hC H=>?_
 refine js 5 hI455 [(2, slice A12 a11.length c13), (3, pointer (some ⟨g19, 0, none⟩)), (4, pointer (some ⟨g23, 0, none⟩)), (7, pointer (some ⟨g34, 0, none⟩)), (8, int .i64 ((a2.slices.getD (Int.toNat 0) z_api_Slice).Table)), (9, slice A359 v358.length c360), (10, int .i64 v365), (11, int .i64 v68), (14, pointer (some ⟨g444, 0, none⟩)), (44, slice A3 a2.slices.length c4), (45, int .i64 (a2.slices.length : Int)), (46, int .i64 v366), (65, bool v479)] ?_ fun _ wd482 hI483=>?_
 refine have H:=hC;dC (((a2.slices.getD (Int.toNat v366) z_api_Slice).Head) = true) (fun h485=>?_) fun h485=>?_
 refine yK h485 H fun H=>fa (hw:=gY z z z (vY h485)) fl36_1 z<|ld (hw:=gY z z z (vY h485)) hI455 0 ag3 z z z<|mv (hw:=gY z z z (vY h485)) z<|q_eql (hw:=gY z z z (vY h485)) z z<|pkt (vY h485) z<|nl<|?_
 cases H
 exact je ⟨z, z, z, z, z, z, z, z, z, z, z, z, z, tv⟩ hI455
 refine nK h485 H fun H=>Sk 4 z z (vN h485) z<|pkf (vN h485) z<|nl<|?_
 cases H
 exact je ⟨z, z, z, z, z, z, z, z, z, z, z, z, z, tv⟩ hI455
 refine asn z<|nl<|hK478 _ _ _<|dC (v479 = true) (fun h486=>?_) fun h486=>?_
 refine yK h486 H fun H=>wt (vY h486)<|sr fun K487 hK488=>mv z<|lda hI483 0 ag36 z z z z<|?_
 refine q_bs hI483 (vs := [(0, agg [int .i64 ((a2.slices.getD (Int.toNat v366) z_api_Slice).Node), int .i64 ((a2.slices.getD (Int.toNat v366) z_api_Slice).Table), int .i64 ((a2.slices.getD (Int.toNat v366) z_api_Slice).X), int .i64 ((a2.slices.getD (Int.toNat v366) z_api_Slice).Y), int .i64 ((a2.slices.getD (Int.toNat v366) z_api_Slice).H), string ((a2.slices.getD (Int.toNat v366) z_api_Slice).Text), bool ((a2.slices.getD (Int.toNat v366) z_api_Slice).Head), bool ((a2.slices.getD (Int.toNat v366) z_api_Slice).Note)].toArray)]) (cs := [int .i64 ((a2.slices.getD (Int.toNat v366) z_api_Slice).Node), int .i64 ((a2.slices.getD (Int.toNat v366) z_api_Slice).Table), int .i64 ((a2.slices.getD (Int.toNat v366) z_api_Slice).X), int .i64 ((a2.slices.getD (Int.toNat v366) z_api_Slice).Y), int .i64 ((a2.slices.getD (Int.toNat v366) z_api_Slice).H), string ((a2.slices.getD (Int.toNat v366) z_api_Slice).Text), bool ((a2.slices.getD (Int.toNat v366) z_api_Slice).Head), bool ((a2.slices.getD (Int.toNat v366) z_api_Slice).Note)]) el24 ze36 rfl (by decide) rfl (by kernel_rfl) (fun g490 wd491 hI492 => ?_)
 refine iK H fun h502 H=>?_
 refine q_app (xs := v358) (ys := [(a2.slices.getD (Int.toNat v366) z_api_Slice)]) k_api_Slice hI492 5 el24 ze36 rfl rfl rfl rfl ho363 hl361 hD362 (src_bx hI492 0 so24 rfl rfl) ⟨[int .i64 ((a2.slices.getD (Int.toNat v366) z_api_Slice).Node), int .i64 ((a2.slices.getD (Int.toNat v366) z_api_Slice).Table), int .i64 ((a2.slices.getD (Int.toNat v366) z_api_Slice).X), int .i64 ((a2.slices.getD (Int.toNat v366) z_api_Slice).Y), int .i64 ((a2.slices.getD (Int.toNat v366) z_api_Slice).H), string ((a2.slices.getD (Int.toNat v366) z_api_Slice).Text), bool ((a2.slices.getD (Int.toNat v366) z_api_Slice).Head), bool ((a2.slices.getD (Int.toNat v366) z_api_Slice).Note)], _, rfl, (mk_api_Slice (x := (a2.slices.getD (Int.toNat v366) z_api_Slice))), rfl⟩ rfl (by simp only [List.length_cons, List.length_nil]; omega) (by simp only [List.length_cons, List.length_nil]; omega) (fun A493 c494 G495 wd496 hG497 ho498 hl499 hD500 hI501 => ?_)
 refine asn z<|nl<|hK488 _ _ _<|?_
 refine wpc_quiet mixo (by kernel_rfl) ?_
 refine have hI503:=hI501.drew;wq (mv z wqd) z<|wq (fa fl36_3 z wqd) z<|wq (ld hI503 1 ag3 z z z wqd) z<|wq (fa fl36_4 z wqd) z<|wq (ld hI503 1 ag3 z z z wqd) z<|wq (q_add z z wqd) z<|wq (mv z wqd) z<|iK H fun⟨h504, h504'⟩H=>?_
 obtain ⟨ad505, cs506, hA507, hK508, hn509, hc510⟩ := Dat.get hD500 z_api_Slice (0) h504 h504'
 obtain ⟨rfl⟩ := open_api_Slice hK508
 refine wq (q_ia el24 z hA507 z h504 h504' wqd) z<|wq (q_fa fl36_3 z z wqd) z<|wq (q_lf hI503 ag3 z (gR.cel _ _ (hc510 3 _ z)) wqd) z<|wq (q_sub z z wqd) z<|wq (q_max z z wqd) z<|wq (asn z wqd) z<|wqq_nil<|have hI516:=Hp.pick 7 [2, 3, 4, 6, 5] hI503 z;?_
 cases H
 exact ⟨z, A493, c494, _, z, hG497, ⟨z, z, z, z, z, z, z, z, z, z, z, tv⟩, hI516, hl499, hD500, ho498, tv⟩
 refine nK h486 H fun H=>wf (vN h486)<|ws<|have hI522:=Hp.pick 6 [1, 2, 3, 5, 4] hI483 z;?_
 cases H
 exact ⟨z, A359, c360, _, z, gR, ⟨z, z, z, z, z, z, z, z, z, z, z, tv⟩, hI522, hl361, hD362, ho363, tv⟩
 rcases o433 with _ | ⟨v417, v424⟩
 rintro e r ds wd427 ⟨rfl, rfl, hHas, hI428, _⟩
 rw [hHas.eq]; clear hHas
 refine have hI527:=Hp.pick 5 [0, 1, 2, 4, 3] hI428 z;?_
 cases H
 exact ⟨z, A359, c360, _, z, hG407, ⟨z, z, z, z, z, tv⟩, hI527, hl361, hD362, ho363, tv⟩
 rintro e r ds wd431 ⟨rfl, A418, c419, G429, rfl, hG430, hHas, hI432, hl420, hD421, ho422, _⟩
 rw [hHas.eq]; clear hHas
 exact hK416 _ _ _<|wpc_region<|q_add z z<|mv z<|nl<|ih _ _ _ _ H A418 c419 _ _ _ (gT hG407 hG430) ⟨z, z, z, z, z, z, z, z, z, z, z, tv⟩ hI432 hl420 hD421 ho422 z
 refine nK h414 H fun H=>wf (bN h414)<|wx<|?_
 cases H
 exact ⟨z, A359, c360, _, z, hG407, ⟨z, z, z, z, z, z, z, z, tv⟩, hI409, hl361, hD362, ho363, tv⟩
 rcases o405 with ⟨v381, v388⟩ | ⟨v389, v396⟩
 rintro e r ds wd399 ⟨rfl, A382, c383, G397, rfl, hG398, hHas, hI400, hl384, hD385, ho386, _⟩
 rw [hHas.eq]; clear hHas
 cases H
 exact ⟨z, A382, c383, _, z, hG398, ⟨z, z, z, z, z, tv⟩, hI400, hl384, hD385, ho386, tv⟩
 rintro e r ds wd403 ⟨rfl, A390, c391, G401, rfl, hG402, hHas, hI404, hl392, hD393, ho394, _⟩
 rw [hHas.eq]; clear hHas
 cases H
 exact ⟨z, A390, c391, _, z, hG402, ⟨z, z, z, z, z, z, z, z, tv⟩, hI404, hl392, hD393, ho394, tv⟩
 rcases o148 with ⟨v124, v131⟩ | ⟨v132, v139⟩
 rintro e r ds wd142 ⟨rfl, A125, c126, G140, rfl, hG141, hHas, hI143, hl127, hD128, ho129, _⟩
 rw [hHas.eq]; clear hHas
 cases H
 exact ⟨z, A125, c126, _, z, (gT hG97 hG141), ⟨z, z, z, z, z, tv⟩, hI143, hl127, hD128, ho129, tv⟩
 rintro e r ds wd146 ⟨rfl, A133, c134, G144, rfl, hG145, hHas, hI147, hl135, hD136, ho137, _⟩
 rw [hHas.eq]; clear hHas
 exact hK123 _ _ _<|wpc_region<|mv z<|q_add z z<|asn z<|nl<|ih _ _ _ _ H A133 c134 _ _ _ (gT hG97 hG145) ⟨z, z, z, z, z, z, z, z, tv⟩ hI147 hl135 hD136 ho137 z
 refine nK h121 H fun H=>wf (vN h121)<|wx<|have hI537:=Hp.pick 5 [0, 1, 2, 4, 3] hI108 z;?_
 cases H
 exact ⟨z, A61, c62, _, z, hG97, ⟨z, z, z, z, z, tv⟩, hI537, hl63, hD64, ho65, tv⟩
 rintro e r ds wd93 ⟨rfl, A84, c85, G91, rfl, hG92, hHas, hI94, hl86, hD87, ho88, _⟩
 rw [hHas.eq]; clear hHas
 refine hK53 _ _ _<|sQ fun K544 hK545=>sQ fun K546 hK547=>bK H fun v550 hC H=>?_
 refine jC .normal G91 [(4, pointer (some ⟨g23, 0, none⟩)), (7, pointer (some ⟨g34, 0, none⟩)), (9, slice A84 v83.length c85), (10, int .i64 v90), (99, bool v550)] (bx g34 [int .i64 a1.Paper.Width, int .i64 a1.Paper.Height, int .i64 a1.Paper.Columns, int .i64 a1.Paper.Gap, int .i64 a1.Paper.Scale, int .i64 a1.Paper.Lang, slice none 0 0, slice none 0 0, slice (some ⟨g29, 0, none⟩) 1 1] 67 :: bx g23 [slice A3 a2.slices.length c4, slice A7 a2.notes.length c8, int .i64 a2.end_] 64 :: bx g19 [int .i64 a1.Paper.Width, int .i64 a1.Paper.Height, int .i64 a1.Paper.Columns, int .i64 a1.Paper.Gap, int .i64 a1.Paper.Scale, int .i64 a1.Paper.Lang] 56 :: tk (slice A84 v83.length c85) 8 36 :: rwI G (Kd.int .i64) (some ⟨g29, 0, none⟩) [] ([0] : List Int) [] 1 3 :: L) ?_ fun _ wd553 hI554=>?_
 refine have H:=hC;?_
 refine wpc_class hI94 mixo (by kernel_rfl) ?_
 refine wq' (fun Gq w hGq Iq=>mv z wqd) z z<|wq' (fun Gq w hGq Iq=>q_len so24 z wqd) z z<|wq' (fun Gq w hGq Iq=>q_gtr z z wqd) z z<|wq' (fun Gq w hGq Iq=>mv z wqd) z z<|dC (0 < (v83.length : Int)) (fun h560=>?_) fun h560=>?_
 refine yK h560 H fun H=>wq' (fun Gq w hGq Iq=>mv (hw:=gY z z z (bY h560)) z wqd) z z<|wq' (fun Gq w hGq Iq=>lda (hw:=gY z z z (bY h560)) Iq 1 ag64 z z z z wqd) z z<|bK H fun y562 hy561 H=>wk (vs := [agg [slice A3 a2.slices.length c4, slice A7 a2.notes.length c8, int .i64 a2.end_].toArray]) (v := int .i64 y562) bo44 z z (fun Gq w hGq Iq => ?_) ?_ (hw := gY z z z (bool_yes h560))
 refine Calls.mono (pages_band_height_spec hy561 Iq hl5 (Dat.mono (gT hG92 hGq) hD6) hl9 (Dat.mono (gT hG92 hGq) hD10))<|?_
 rintro _ w2 ⟨I2, rfl⟩
 exact ⟨z, _, hGq, I2⟩
 refine wq' (fun Gq w hGq Iq=>q_add (hw:=gY z z z (bY h560)) z z wqd) z z<|wq' (fun Gq w hGq Iq=>fa (hw:=gY z z z (bY h560)) fl56_0 z wqd) z z<|wq' (fun Gq w hGq Iq=>fa (hw:=gY z z z (bY h560)) fl23_1 z wqd) z z<|wq' (fun Gq w hGq Iq=>ld (hw:=gY z z z (bY h560)) Iq 2 ag3 z z z wqd) z z<|wq' (fun Gq w hGq Iq=>fa (hw:=gY z z z (bY h560)) fl64_1 z wqd) z z<|wq' (fun Gq w hGq Iq=>ld (hw:=gY z z z (bY h560)) Iq 1 ag24 z z z wqd) z z<|bK H fun y564 hy563 H=>wk (vs := [slice A7 a2.notes.length c8]) (v := int .i64 y564) bo41 z z (fun Gq w hGq Iq => ?_) ?_ (hw := gY z z z (bool_yes h560))
 refine Calls.mono (pages_sum_spec hy563 Iq hl9 (Dat.mono (gT hG92 hGq) hD10))<|?_
 rintro _ w2 ⟨I2, rfl⟩
 exact ⟨z, _, hGq, I2⟩
 refine wq' (fun Gq w hGq Iq=>q_sub (hw:=gY z z z (bY h560)) z z wqd) z z<|wq' (fun Gq w hGq Iq=>q_leq (hw:=gY z z z (bY h560)) z z wqd) z z<|wq' (fun Gq w hGq Iq=>pkt (bY h560) z wqd) z z<|wz fun wd558 G556 hG557 hI559=>have hI569:=Hp.pick 5 [0, 1, 2, 4, 3] hI559 z;?_
 cases H
 exact je ⟨z, z, z, z, z, tv⟩ (Hp.low hG557 hI569)
 refine nK h560 H fun H=>wp (guard_no z z z (bN h560) z)<|wp (guard_no z z z (bN h560) z)<|wp (guard_no z z z (bN h560) z)<|wp (guard_no z z z (bN h560) z)<|wp (guard_no z z z (bN h560) z)<|wp (guard_no z z z (bN h560) z)<|wp (guard_no z z z (bN h560) z)<|wp (guard_no z z z (bN h560) z)<|wp (guard_no z z z (bN h560) z)<|wp (guard_no z z z (bN h560) z)<|wp (guard_no z z z (bN h560) z)<|wp (guard_no z z z (bN h560) z)<|wq' (fun Gq w hGq Iq=>pkf (bN h560) z wqd) z z<|?_
 refine wz fun wd558 G556 hG557 hI559=>have hI574:=Hp.pick 5 [0, 1, 2, 4, 3] hI559 z;?_
 cases H
 exact je ⟨z, z, z, z, z, tv⟩ (Hp.low hG557 hI574)
 refine hK547 _ _ _<|dC (v550 = true) (fun h575=>?_) fun h575=>?_
 refine yK h575 H fun H=>wt (vY h575)<|wpc_region<|mv z<|mv z<|mv z<|iK H fun⟨h576, h576'⟩H=>?_
 obtain ⟨ad577, cs578, hA579, hK580, hn581, hc582⟩ := Dat.get hD87 z_api_Slice (0) h576 h576'
 obtain ⟨rfl⟩ := open_api_Slice hK580
 refine q_ia el24 z hA579 z h576 h576'<|q_fa fl36_3 z z<|q_lf hI554 ag3 z (gR.cel _ _ (hc582 3 _ z))<|have hI583:=Hp.emp hI554;have hI585:=Hp.emp hI583;have hI587:=Hp.rwUp hI585 6 z hG92;have hI594:=Hp.pick 7 [2, 1, 0, 6, 3, 4, 5] hI587 z;bK H fun y600 hy595 H=>q_cv (vs := [pointer (some ⟨g34, 0, none⟩), slice A84 v83.length c85, int .i64 ((v83.getD (Int.toNat 0) z_api_Slice).Y), int .i64 0]) bo46 z z (pages_open_put_k2_spec (a3 := (⟨a1, ([] : List api_Slice), ([] : List api_Slice), ([0] : List Int)⟩ : pages_open)) hy595 hI594 (show ([] : List api_Slice).length ≤ 0 from Nat.le_refl 0) (Dat.nil _ _ _) Own.nil (show ([] : List api_Slice).length ≤ 0 from Nat.le_refl 0) (Dat.nil _ _ _) Own.nil z (Mw.new (α := Int) g29 1 1) hl86 hD87)<|?_
 rintro _ wd598 ⟨A601, c602, A605, c606, A617, n618, c619, G596, hG597, hI599, hl603, hD604, ho613, hl607, hD608, ho615, hn620, hM621, rfl⟩
 refine ⟨_, rfl, ?_⟩
 refine nl<|hK545 _ _ _<|sr fun K623 hK624=>mv z<|lda hI599 4 ag64 z z z z<|mv z<|bK H fun y630 hy625 H=>q_cv (vs := [pointer (some ⟨g34, 0, none⟩), agg [slice A3 a2.slices.length c4, slice A7 a2.notes.length c8, int .i64 a2.end_].toArray, int .i64 v90]) bo45 z z (pages_open_add_k3_spec hy625 hI599 hl603 hD604 ho613 hl607 hD608 ho615 hn620 hM621 hl5 (Dat.mono (gT hG92 hG597) hD6) hl9 (Dat.mono (gT hG92 hG597) hD10))<|?_
 rintro _ wd628 ⟨A631, c632, A635, c636, A647, n648, c649, G626, hG627, hI629, hl633, hD634, ho643, hl637, hD638, ho645, hn650, hM651, rfl⟩
 refine ⟨_, rfl, ?_⟩
 refine nl<|hK624 _ _ _<|sr fun K653 hK654=>mv z<|asn z<|nl<|hK654 _ _ _<|wr<|have hI655:=Hp.pick 7 [0, 1, 2, 3] hI629 z;?_
 cases H
 exact ⟨.inr z, z, _, ⟨_, _, z, z, z⟩, g34, A631, c632, A635, c636, A647, n648, c649, _, (gT (gT hG92 hG597) hG627), hI655, hl633, hD634, ho643, hl637, hD638, ho645, hn650, hM651, z⟩
 refine nK h575 H fun H=>wf (vN h575)<|wpc_region<|asn z<|nl<|hK545 _ _ _<|sr fun K656 hK657=>mv z<|lda hI554 1 ag64 z z z z<|mv z<|have hI658:=Hp.emp hI554;have hI660:=Hp.emp hI658;have hI662:=Hp.rwUp hI660 6 z hG92;have hI669:=Hp.pick 7 [2, 1, 0, 6, 3, 4, 5] hI662 z;?_
 refine bK H fun y675 hy670 H=>q_cv (vs := [pointer (some ⟨g34, 0, none⟩), agg [slice A3 a2.slices.length c4, slice A7 a2.notes.length c8, int .i64 a2.end_].toArray, int .i64 0]) bo45 z z (pages_open_add_k3_spec (a3 := (⟨a1, ([] : List api_Slice), ([] : List api_Slice), ([0] : List Int)⟩ : pages_open)) hy670 hI669 (show ([] : List api_Slice).length ≤ 0 from Nat.le_refl 0) (Dat.nil _ _ _) Own.nil (show ([] : List api_Slice).length ≤ 0 from Nat.le_refl 0) (Dat.nil _ _ _) Own.nil z (Mw.new (α := Int) g29 1 1) hl5 (Dat.mono hG92 hD6) hl9 (Dat.mono hG92 hD10))<|?_
 rintro _ wd673 ⟨A676, c677, A680, c681, A692, n693, c694, G671, hG672, hI674, hl678, hD679, ho688, hl682, hD683, ho690, hn695, hM696, rfl⟩
 refine ⟨_, rfl, ?_⟩
 refine nl<|hK657 _ _ _<|sr fun K698 hK699=>mv z<|asn z<|nl<|hK699 _ _ _<|wr<|have hI700:=Hp.pick 7 [0, 1, 2, 3] hI674 z;?_
 cases H
 exact ⟨.inr z, z, _, ⟨_, _, z, z, z⟩, g34, A676, c677, A680, c681, A692, n693, c694, _, (gT hG92 hG672), hI700, hl678, hD679, ho688, hl682, hD683, ho690, hn695, hM696, z⟩
end Go.Proofs.Ytlcfemplcaejgaa.LG
