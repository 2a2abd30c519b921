/-
  The walks: each function computes its plain function: printed by a program out of the translation.
-/
import Derived.Test.YtaemgcpcfnbmdaaGreatDoorSa
set_option linter.unusedVariables false
set_option linter.unusedSimpArgs false
set_option maxRecDepth 100000
namespace Go.Proofs.YtaemgcpcfnbmdaaGreatDoor.LG
open Go Go.LG Go.RowKit Go.Value
set_option maxHeartbeats 1000000
open Go.Lib Go.Shelf Go.Proofs
theorem inline_setter_line_k1_spec {a1 a2 a9 a20 a21 a22 A3 c4 g8 A10 c11 A14 c15 g19 r1023 G L w} (H : inline_setter_line_k1 a1 a2 a9 a20 a21 a22 = some r1023) (hI : Hp G (bx g8 [slice A10 a9.Glyphs.length c11, slice A14 a9.Kerns.length c15] 25 :: bx g19 [int .i64 a20] 3 :: L) w) (hl5 : a2.length ≤ c4) (hD6 : Dat k_api_Break G A3 a2) (hl12 : a9.Glyphs.length ≤ c11) (hD13 : Dat k_api_Glyph G A10 a9.Glyphs) (hl16 : a9.Kerns.length ≤ c15) (hD17 : Dat k_api_Kern G A14 a9.Kerns) (hgl : Gl G) :
    Calls Tryz.prog 101 [agg [string a1, slice A3 a2.length c4, func (.func 70) [].toArray [pointer (some ⟨g8, 0, none⟩), pointer (some ⟨g19, 0, none⟩)].toArray].toArray, int .i64 a21, agg [int .i64 a22.At, bool a22.Hyphen].toArray].toArray w fun e w' => Hp G (bx g8 [slice A10 a9.Glyphs.length c11, slice A14 a9.Kerns.length c15] 25 :: bx g19 [int .i64 a20] 3 :: L) w' ∧ e = .returned (agg [int .i64 r1023.From, int .i64 r1023.Until, int .i64 r1023.Width, bool r1023.Hyphen].toArray) := by
 refine calls_intro (N := 24) Tryz.func101 z z (Nat.le_of_ble_eq_true z)<|?_
 unfold inline_setter_line_k1 at H
 refine sr fun K23 hK24=>bxk hI z z fun g26 wd27 hI28=>bxk hI28 z z fun g30 wd31 hI32=>q_alloc hI32 ze46 fun g34 wd35 hI36=>nl<|hK24 _ _ _<|sQ fun K37 hK38=>bK H fun y64 hy249 H=>bK H fun y264 hy449 H=>?_
 refine wpc_drawL [0, 0, 2, 0, 8, 0, 32, 0, 0, 256, 0, 1024, 4064, 8184, 0, 16384, 65535, 131071] (fun D r w => (D 17 = false ∧ ∃ (G' : Gh), G ≤ G' ∧ Regs [(1, int .i64 a21), (3, pointer (some ⟨g26, 0, none⟩)), (5, pointer (some ⟨g30, 0, none⟩)), (6, pointer (some ⟨g34, 0, none⟩))] [] [(0, 7, int .i64 a21), (1, 8, pointer (some ⟨g30, 0, none⟩)), (2, 9, int .i64 a22.At), (3, 10, pointer (some ⟨g26, 2, none⟩)), (4, 11, func (.func 70) [].toArray [pointer (some ⟨g8, 0, none⟩), pointer (some ⟨g19, 0, none⟩)].toArray), (5, 12, pointer (some ⟨g26, 0, none⟩)), (6, 13, string a1), (7, 14, int .i64 a21), (8, 15, pointer (some ⟨g30, 0, none⟩)), (9, 16, int .i64 a22.At), (10, 17, pointer (some ⟨g30, 1, none⟩)), (11, 18, bool a22.Hyphen), (12, 19, string y64), (13, 20, int .i64 y264), (14, 21, pointer (some ⟨g30, 1, none⟩)), (15, 22, bool a22.Hyphen), (16, 23, agg [int .i64 a21, int .i64 a22.At, int .i64 y264, bool a22.Hyphen].toArray)] D r ∧ Hp G' (bx g34 [int .i64 0, int .i64 0, int .i64 0, bool false] 46 :: bx g30 [int .i64 a22.At, bool a22.Hyphen] 114 :: bx g26 [string a1, slice A3 a2.length c4, func (.func 70) [].toArray [pointer (some ⟨g8, 0, none⟩), pointer (some ⟨g19, 0, none⟩)].toArray] 79 :: bx g8 [slice A10 a9.Glyphs.length c11, slice A14 a9.Kerns.length c15] 25 :: bx g19 [int .i64 a20] 3 :: L) w) ∨ (D 17 = true ∧ ∃ (G' : Gh), G ≤ G' ∧ Regs [(1, int .i64 a21), (3, pointer (some ⟨g26, 0, none⟩)), (5, pointer (some ⟨g30, 0, none⟩)), (6, pointer (some ⟨g34, 0, none⟩))] [] [(0, 7, int .i64 a21), (1, 8, pointer (some ⟨g30, 0, none⟩)), (2, 9, int .i64 a22.At), (3, 10, pointer (some ⟨g26, 2, none⟩)), (4, 11, func (.func 70) [].toArray [pointer (some ⟨g8, 0, none⟩), pointer (some ⟨g19, 0, none⟩)].toArray), (5, 12, pointer (some ⟨g26, 0, none⟩)), (6, 13, string a1), (7, 14, int .i64 a21), (8, 15, pointer (some ⟨g30, 0, none⟩)), (9, 16, int .i64 a22.At), (10, 17, pointer (some ⟨g30, 1, none⟩)), (11, 18, bool a22.Hyphen), (12, 19, string y64), (13, 20, int .i64 y264), (14, 21, pointer (some ⟨g30, 1, none⟩)), (15, 22, bool a22.Hyphen), (16, 23, agg [int .i64 a21, int .i64 a22.At, int .i64 y264, bool a22.Hyphen].toArray)] D r ∧ Hp G' (bx g34 [int .i64 a21, int .i64 a22.At, int .i64 y264, bool a22.Hyphen] 46 :: bx g30 [int .i64 a22.At, bool a22.Hyphen] 114 :: bx g26 [string a1, slice A3 a2.length c4, func (.func 70) [].toArray [pointer (some ⟨g8, 0, none⟩), pointer (some ⟨g19, 0, none⟩)].toArray] 79 :: bx g8 [slice A10 a9.Glyphs.length c11, slice A14 a9.Kerns.length c15] 25 :: bx g19 [int .i64 a20] 3 :: L) w)) mixo z z ?_ ?_ ?_
 exact (.inl ⟨z, _, Gh.le_refl _, Regs.start ⟨z, z, z, z, tv⟩ trivial, hI36.drew⟩)
 refine ⟨?_, ?_, ?_, ?_, ?_, ?_, ?_, ?_, ?_, ?_, ?_, ?_, ?_, ?_, ?_, ?_, ?_, ?_, tv⟩
 rintro D r wd476 (⟨hd2, G472, hG473, hReg475, hI474⟩ | ⟨hd1, G472, hG473, hReg475, hI474⟩) hDi hpre hpost
 obtain ⟨r0, rfl⟩ := Has.ex (cC (hReg475.ins.get 0 rfl) cN)
 exact mv z<|nl ⟨z, (.inl ⟨hd2, _, hG473, (Regs.step hReg475 hDi z z z z), hI474⟩)⟩
 cases (hpost 17 rfl).symm.trans hd1
 rintro D r wd476 (⟨hd2, G472, hG473, hReg475, hI474⟩ | ⟨hd1, G472, hG473, hReg475, hI474⟩) hDi hpre hpost
 obtain ⟨r0, rfl⟩ := Has.ex (cC (hReg475.ins.get 2 rfl) cN)
 exact fa fl114_0 z<|nl ⟨z, (.inl ⟨hd2, _, hG473, (Regs.step hReg475 hDi z z z z), hI474⟩)⟩
 cases (hpost 17 rfl).symm.trans hd1
 rintro D r wd476 (⟨hd2, G472, hG473, hReg475, hI474⟩ | ⟨hd1, G472, hG473, hReg475, hI474⟩) hDi hpre hpost
 obtain ⟨r0, rfl⟩ := Has.ex (cC (hReg475.get 1 rfl (hpre 1 rfl)) cN)
 exact ld hI474 1 ag3 z z z<|nl ⟨z, (.inl ⟨hd2, _, hG473, (Regs.step hReg475 hDi z z z z), hI474⟩)⟩
 cases (hpost 17 rfl).symm.trans hd1
 rintro D r wd476 (⟨hd2, G472, hG473, hReg475, hI474⟩ | ⟨hd1, G472, hG473, hReg475, hI474⟩) hDi hpre hpost
 obtain ⟨r0, rfl⟩ := Has.ex (cC (hReg475.ins.get 1 rfl) cN)
 exact fa fl79_2 z<|nl ⟨z, (.inl ⟨hd2, _, hG473, (Regs.step hReg475 hDi z z z z), hI474⟩)⟩
 cases (hpost 17 rfl).symm.trans hd1
 rintro D r wd476 (⟨hd2, G472, hG473, hReg475, hI474⟩ | ⟨hd1, G472, hG473, hReg475, hI474⟩) hDi hpre hpost
 obtain ⟨r0, rfl⟩ := Has.ex (cC (hReg475.get 3 rfl (hpre 3 rfl)) cN)
 exact ld hI474 2 ag62 z z z<|nl ⟨z, (.inl ⟨hd2, _, hG473, (Regs.step hReg475 hDi z z z z), hI474⟩)⟩
 cases (hpost 17 rfl).symm.trans hd1
 rintro D r wd476 (⟨hd2, G472, hG473, hReg475, hI474⟩ | ⟨hd1, G472, hG473, hReg475, hI474⟩) hDi hpre hpost
 obtain ⟨r0, rfl⟩ := Has.ex (cC (hReg475.ins.get 1 rfl) cN)
 exact fa fl79_0 z<|nl ⟨z, (.inl ⟨hd2, _, hG473, (Regs.step hReg475 hDi z z z z), hI474⟩)⟩
 cases (hpost 17 rfl).symm.trans hd1
 rintro D r wd476 (⟨hd2, G472, hG473, hReg475, hI474⟩ | ⟨hd1, G472, hG473, hReg475, hI474⟩) hDi hpre hpost
 obtain ⟨r0, rfl⟩ := Has.ex (cC (hReg475.get 5 rfl (hpre 5 rfl)) cN)
 exact ld hI474 2 ag9 z z z<|nl ⟨z, (.inl ⟨hd2, _, hG473, (Regs.step hReg475 hDi z z z z), hI474⟩)⟩
 cases (hpost 17 rfl).symm.trans hd1
 rintro D r wd476 (⟨hd2, G472, hG473, hReg475, hI474⟩ | ⟨hd1, G472, hG473, hReg475, hI474⟩) hDi hpre hpost
 obtain ⟨r0, rfl⟩ := Has.ex (cC (hReg475.ins.get 0 rfl) cN)
 exact mv z<|nl ⟨z, (.inl ⟨hd2, _, hG473, (Regs.step hReg475 hDi z z z z), hI474⟩)⟩
 cases (hpost 17 rfl).symm.trans hd1
 rintro D r wd476 (⟨hd2, G472, hG473, hReg475, hI474⟩ | ⟨hd1, G472, hG473, hReg475, hI474⟩) hDi hpre hpost
 obtain ⟨r0, rfl⟩ := Has.ex (cC (hReg475.ins.get 2 rfl) cN)
 exact fa fl114_0 z<|nl ⟨z, (.inl ⟨hd2, _, hG473, (Regs.step hReg475 hDi z z z z), hI474⟩)⟩
 cases (hpost 17 rfl).symm.trans hd1
 rintro D r wd476 (⟨hd2, G472, hG473, hReg475, hI474⟩ | ⟨hd1, G472, hG473, hReg475, hI474⟩) hDi hpre hpost
 obtain ⟨r0, rfl⟩ := Has.ex (cC (hReg475.get 8 rfl (hpre 8 rfl)) cN)
 exact ld hI474 1 ag3 z z z<|nl ⟨z, (.inl ⟨hd2, _, hG473, (Regs.step hReg475 hDi z z z z), hI474⟩)⟩
 cases (hpost 17 rfl).symm.trans hd1
 rintro D r wd476 (⟨hd2, G472, hG473, hReg475, hI474⟩ | ⟨hd1, G472, hG473, hReg475, hI474⟩) hDi hpre hpost
 obtain ⟨r0, rfl⟩ := Has.ex (cC (hReg475.ins.get 2 rfl) cN)
 exact fa fl114_1 z<|nl ⟨z, (.inl ⟨hd2, _, hG473, (Regs.step hReg475 hDi z z z z), hI474⟩)⟩
 cases (hpost 17 rfl).symm.trans hd1
 rintro D r wd476 (⟨hd2, G472, hG473, hReg475, hI474⟩ | ⟨hd1, G472, hG473, hReg475, hI474⟩) hDi hpre hpost
 obtain ⟨r0, rfl⟩ := Has.ex (cC (hReg475.get 10 rfl (hpre 10 rfl)) cN)
 exact ld hI474 1 ag4 z z z<|nl ⟨z, (.inl ⟨hd2, _, hG473, (Regs.step hReg475 hDi z z z z), hI474⟩)⟩
 cases (hpost 17 rfl).symm.trans hd1
 rintro D r wd476 (⟨hd2, G472, hG473, hReg475, hI474⟩ | ⟨hd1, G472, hG473, hReg475, hI474⟩) hDi hpre hpost
 obtain ⟨r0, rfl⟩ := Has.ex (cC (hReg475.get 6 rfl (hpre 6 rfl)) (cC (hReg475.get 7 rfl (hpre 7 rfl)) (cC (hReg475.get 9 rfl (hpre 9 rfl)) (cC (hReg475.get 11 rfl (hpre 11 rfl)) cN))))
 exact cv bo40 (inline_seen_spec hy249 hI474 (hgl.mono hG473)) z z fun wd62 hI63=>nl ⟨z, (.inl ⟨hd2, _, hG473, (Regs.step hReg475 hDi z z z z), hI63⟩)⟩
 cases (hpost 17 rfl).symm.trans hd1
 rintro D r wd476 (⟨hd2, G472, hG473, hReg475, hI474⟩ | ⟨hd1, G472, hG473, hReg475, hI474⟩) hDi hpre hpost
 obtain ⟨r0, rfl⟩ := Has.ex (cC (hReg475.get 4 rfl (hpre 4 rfl)) (cC (hReg475.get 12 rfl (hpre 12 rfl)) cN))
 exact have hI464:=Hp.pick 5 [3, 4, 0, 1, 2] hI474 z;cv bo70 (inline_prepare_2_k1_spec hy449 hI464 hl12 (Dat.mono hG473 hD13) hl16 (Dat.mono hG473 hD17)) z z fun wd262 hI263=>have hI469:=Hp.pick 5 [2, 3, 4, 0, 1] hI263 z;nl ⟨z, (.inl ⟨hd2, _, hG473, (Regs.step hReg475 hDi z z z z), hI469⟩)⟩
 cases (hpost 17 rfl).symm.trans hd1
 rintro D r wd476 (⟨hd2, G472, hG473, hReg475, hI474⟩ | ⟨hd1, G472, hG473, hReg475, hI474⟩) hDi hpre hpost
 obtain ⟨r0, rfl⟩ := Has.ex (cC (hReg475.ins.get 2 rfl) cN)
 exact fa fl114_1 z<|nl ⟨z, (.inl ⟨hd2, _, hG473, (Regs.step hReg475 hDi z z z z), hI474⟩)⟩
 cases (hpost 17 rfl).symm.trans hd1
 rintro D r wd476 (⟨hd2, G472, hG473, hReg475, hI474⟩ | ⟨hd1, G472, hG473, hReg475, hI474⟩) hDi hpre hpost
 obtain ⟨r0, rfl⟩ := Has.ex (cC (hReg475.get 14 rfl (hpre 14 rfl)) cN)
 exact ld hI474 1 ag4 z z z<|nl ⟨z, (.inl ⟨hd2, _, hG473, (Regs.step hReg475 hDi z z z z), hI474⟩)⟩
 cases (hpost 17 rfl).symm.trans hd1
 rintro D r wd476 (⟨hd2, G472, hG473, hReg475, hI474⟩ | ⟨hd1, G472, hG473, hReg475, hI474⟩) hDi hpre hpost
 obtain ⟨r0, rfl⟩ := Has.ex (cC (hReg475.get 0 rfl (hpre 0 rfl)) (cC (hReg475.get 2 rfl (hpre 2 rfl)) (cC (hReg475.get 13 rfl (hpre 13 rfl)) (cC (hReg475.get 15 rfl (hpre 15 rfl)) cN))))
 exact q_build (vs := [(0, int .i64 a21), (1, int .i64 a22.At), (2, int .i64 y264), (3, bool a22.Hyphen)]) (cs := [int .i64 a21, int .i64 a22.At, int .i64 y264, bool a22.Hyphen]) ze46 pl46 z z<|nl ⟨z, (.inl ⟨hd2, _, hG473, (Regs.step hReg475 hDi z z z z), hI474⟩)⟩
 cases (hpost 17 rfl).symm.trans hd1
 rintro D r wd476 (⟨hd2, G472, hG473, hReg475, hI474⟩ | ⟨hd1, G472, hG473, hReg475, hI474⟩) hDi hpre hpost
 obtain ⟨r0, rfl⟩ := Has.ex (cC (hReg475.ins.get 3 rfl) (cC (hReg475.get 16 rfl (hpre 16 rfl)) cN))
 exact stk hI474 0 ag46 z z z z z z z fun wd470 hI471=>nl ⟨z, (.inr ⟨z, _, hG473, (Regs.stepN hReg475 z z), hI471⟩)⟩
 cases hDi.symm.trans hd1
 intro D r wd476 hall hR
 rcases hR with ⟨hd2, G472, hG473, hReg475, hI474⟩ | ⟨hd1, G472, hG473, hReg475, hI474⟩
 cases (hall 17 (Nat.le_of_ble_eq_true rfl)).symm.trans hd2
 obtain ⟨r0, rfl⟩ := Has.ex (cC (hReg475.ins.get 3 rfl) cN)
 refine hK38 _ _ _<|wr<|have hr477:=res_cell (P := Tryz.prog) hI474 0 (cs := [int .i64 a21, int .i64 a22.At, int .i64 y264, bool a22.Hyphen]) (g := g34) (o := 0) ag46 z z z;have hI480:=Hp.pick 5 [3, 4] hI474 z;?_
 cases H
 exact rt ⟨_, _, _, z, z, hr477, z⟩ (Hp.low hG473 hI480)
theorem inline_setter_next_k1_spec {a1 a2 a9 a20 a21 a22 A3 c4 g8 A10 c11 A14 c15 g19 r1023 G L w} (H : inline_setter_next_k1 a1 a2 a9 a20 a21 a22 = some r1023) (hI : Hp G (bx g8 [slice A10 a9.Glyphs.length c11, slice A14 a9.Kerns.length c15] 25 :: bx g19 [int .i64 a20] 3 :: L) w) (hl5 : a2.length ≤ c4) (hD6 : Dat k_api_Break G A3 a2) (hl12 : a9.Glyphs.length ≤ c11) (hD13 : Dat k_api_Glyph G A10 a9.Glyphs) (hl16 : a9.Kerns.length ≤ c15) (hD17 : Dat k_api_Kern G A14 a9.Kerns) (hgl : Gl G) :
    Calls Tryz.prog 74 [agg [string a1, slice A3 a2.length c4, func (.func 70) [].toArray [pointer (some ⟨g8, 0, none⟩), pointer (some ⟨g19, 0, none⟩)].toArray].toArray, int .i64 a21, int .i64 a22].toArray w fun e w' => Hp G (bx g8 [slice A10 a9.Glyphs.length c11, slice A14 a9.Kerns.length c15] 25 :: bx g19 [int .i64 a20] 3 :: L) w' ∧ e = .returned (agg [int .i64 r1023.From, int .i64 r1023.Until, int .i64 r1023.Width, bool r1023.Hyphen].toArray) := by
 refine calls_intro_m (N := 39) Tryz.func74 z z (Nat.le_of_ble_eq_true z)<|?_
 unfold inline_setter_next_k1 at H
 refine sr fun K23 hK24=>bxk hI z z fun g26 wd27 hI28=>bxk hI28 z z fun g30 wd31 hI32=>bxk hI32 z z fun g34 wd35 hI36=>q_alloc hI36 ze46 fun g38 wd39 hI40=>nl<|hK24 _ _ _<|sr fun K41 hK42=>q_fn (vs := []) (us := [pointer (some ⟨g30, 0, none⟩)]) z z<|asn z<|nl<|hK42 _ _ _<|sQ fun K43 hK44=>?_
 refine wpc_class hI40 mixo (by kernel_rfl) ?_
 refine wq' (fun Gq w hGq Iq=>fa fl79_1 z wqd) z z<|wq' (fun Gq w hGq Iq=>ld Iq 3 ag77 z z z wqd) z z<|wq' (fun Gq w hGq Iq=>fa fl79_1 z wqd) z z<|wq' (fun Gq w hGq Iq=>ld Iq 3 ag77 z z z wqd) z z<|wq' (fun Gq w hGq Iq=>mv z wqd) z z<|bK H fun y57 hy56 H=>wk (vs := [slice A3 a2.length c4, func (.func 99) [].toArray [pointer (some ⟨g30, 0, none⟩)].toArray]) (v := int .i64 y57) bo98 z z (fun Gq w hGq Iq => ?_) ?_
 refine have hI55:=Hp.pick 6 [2, 0, 1, 3, 4, 5] Iq z;Calls.mono (slices_IndexFunc_api_Break_k2_spec hy56 hI55 hl5 (Dat.mono hGq hD6))<|?_
 rintro _ w2 ⟨I2, rfl⟩
 exact have hI63:=Hp.pick 6 [1, 2, 0, 3, 4, 5] I2 z;⟨z, _, hGq, hI63⟩
 refine iK H fun⟨h64, h65⟩H=>wq' (fun Gq w hGq Iq=>q_slc (l := y57) (h := (a2.length : Int)) el77 z (.inr ⟨_, z, z⟩) (.inl ⟨z, z⟩) hl5 h64 h65 (Int.le_refl _) (Dat.cut (l := y57) (h := (a2.length : Int)) hD6 hl5 h64 h65 (Int.le_refl _)).1 wqd) z z<|wq' (fun Gq w hGq Iq=>asn z wqd) z z<|wz fun wd48 G46 hG47 hI49=>hK44 _ _ _<|sQ fun K72 hK73=>sr fun K74 hK75=>mv z<|bK H fun y83 hy76 H=>q_cv (vs := [slice (if c4 = Int.toNat y57 then A3 else Option.map (fun a => Addr.add a (Int.toNat y57 * 2)) A3) (cutl a2 y57 (a2.length : Int)).length (c4 - Int.toNat y57)]) bo100 z z (slices_Backward_api_Break_spec (a1 := cutl a2 y57 (a2.length : Int)) hy76 hI49 ((Dat.cut (l := y57) (h := (a2.length : Int)) hD6 hl5 h64 h65 (Int.le_refl _)).2.1) (Dat.mono hG47 (Dat.cut (l := y57) (h := (a2.length : Int)) hD6 hl5 h64 h65 (Int.le_refl _)).2.2))<|?_
 rintro _ wd79 ⟨g82, A84, c85, G77, hG78, hI80, hl86, hD87, rfl⟩
 refine ⟨_, rfl, ?_⟩
 refine nl<|hK75 _ _ _<|wb<|?_
 obtain ⟨⟨⟨v89, v90, v91, v92⟩, jo99⟩, hr174, H⟩ := bS H
 refine wpc_range hI80 bo132 z fun fn tmps gl gd88 wd467 hA171 hI172=>?_
 have hY173 : Yl Tryz.prog (rnd (fun (u : Int × Int × Int × Bool) (x : Int × api_Break) => inline_setter_next_k1_r97 a1 a2 a9 a20 a21 a22 u.1 u.2.1 u.2.2.1 u.2.2.2 x.1 x.2)) (encP (enc1 (Kd.int .i64)) (encS k_api_Break)) _ gl := yl_intro (pp := [22, 23]) (gdd := gd88) hI172 (fun (u : Int × Int × Int × Bool) (x : Int × api_Break) => inline_setter_next_k1_r97 a1 a2 a9 a20 a21 a22 u.1 u.2.1 u.2.2.1 u.2.2.2 x.1 x.2) [Code.ret] (fun (u : Int × Int × Int × Bool) (G' : Gh) (K : List Itm) => ∃ (_ : G77 ≤ G'), K = bx g38 [int .i64 u.1, int .i64 u.2.1, int .i64 u.2.2.1, bool u.2.2.2] 46 :: bx g34 [int .i64 a22] 3 :: bx g30 [int .i64 a21] 3 :: bx g26 [string a1, slice A3 a2.length c4, func (.func 70) [].toArray [pointer (some ⟨g8, 0, none⟩), pointer (some ⟨g19, 0, none⟩)].toArray] 79 :: bx g8 [slice A10 a9.Glyphs.length c11, slice A14 a9.Kerns.length c15] 25 :: bx g19 [int .i64 a20] 3 :: (List.map mkI (gd88 :: ([] : List Nat)) ++ L) ∧ True) hA171 (fun _ _ _ h => (fun h => encP_len (fun h => enc1_len h) (fun h => encS_len h) h) h) (fun hG' ⟨h0', hK', _⟩ => ⟨gT h0' hG', hK', tv⟩) (by
 rintro Rd Bs ⟨v89, v90, v91, v92⟩ u' ⟨x105, x107⟩ jo' G101 K M wd103 vs ⟨hG102, rfl, _⟩ ⟨_, _, rfl, ⟨_, rfl, hv106⟩, ⟨_, rfl, hK108⟩⟩ H hI109
 cases hv106
 obtain ⟨rfl⟩ := open_api_Break hK108
 replace H : inline_setter_next_k1_r97 a1 a2 a9 a20 a21 a22 v89 v90 v91 v92 x105 x107 = some (u', jo') := H
 unfold inline_setter_next_k1_r97 at H
 refine wpc_region<|q_alloc hI109 ze114 fun g111 wd112 hI113=>stk hI113 0 ag114 z z z z z z z fun wd114 hI115=>nl<|have hI125:=Hp.pick 8 [1, 0, 2, 3, 4, 5, 6, 7] hI115 z;?_
 refine ⟨rfl, rfl, _, _, gR, hI125, fun wd117 hI116 => ?_⟩
 refine wb<|sr fun K126 hK127=>lda hI116 5 ag79 z z z z<|ld hI116 4 ag3 z z z<|lda hI116 1 ag114 z z z z<|have hI135:=Hp.pick 8 [6, 7, 0, 1, 2, 3, 4, 5] hI116 z;bK H fun y141 hy136 H=>cv bo101 (inline_setter_line_k1_spec hy136 hI135 hl5 (Dat.mono (gT (gT hG47 hG78) hG102) hD6) hl12 (Dat.mono (gT (gT hG47 hG78) hG102) hD13) hl16 (Dat.mono (gT (gT hG47 hG78) hG102) hD17) (hgl.mono (gT (gT hG47 hG78) hG102))) z z fun wd139 hI140=>q_alloc hI140 ze46 fun g143 wd144 hI145=>stk hI145 0 ag46 z z z z z z z fun wd146 hI147=>nl<|hK127 _ _ _<|sr fun K148 hK149=>fa fl46_2 z<|?_
 refine ld hI147 0 ag3 z z z<|ld hI147 6 ag3 z z z<|q_leq z z<|nl<|hK149 _ _ _<|dC (y141.Width ≤ a22) (fun h150=>?_) fun h150=>?_
 refine yK h150 H fun H=>wt (bY h150)<|sr fun K151 hK152=>lda hI147 0 ag46 z z z z<|stk hI147 5 ag46 z z z z z z z fun wd153 hI154=>nl<|hK152 _ _ _<|wr<|have hI162:=Hp.pick 9 [3, 5, 6, 7, 8, 1, 2] hI154 z;?_
 cases H
 exact ⟨(.inl ⟨z, z⟩), _, _, gR, ⟨hG102, z, tv⟩, hI162⟩
 refine nK h150 H fun H=>wf (bN h150)<|ws<|have hI170:=Hp.pick 9 [3, 5, 6, 7, 8, 1, 2] hI147 z;?_
 cases H
 exact ⟨z, _, _, gR, ⟨hG102, z, tv⟩, hI170⟩)
 refine have hI468:=Hp.sink (A := [bx g82 [slice A84 y83.length c85] 77]) (K := [bx g38 [int .i64 0, int .i64 0, int .i64 0, bool false] 46, bx g34 [int .i64 a22] 3, bx g30 [int .i64 a21] 3, bx g26 [string a1, slice A3 a2.length c4, func (.func 70) [].toArray [pointer (some ⟨g8, 0, none⟩), pointer (some ⟨g19, 0, none⟩)].toArray] 79, bx g8 [slice A10 a9.Glyphs.length c11, slice A14 a9.Kerns.length c15] 25, bx g19 [int .i64 a20] 3]) hI172;(slices_Backward_1_api_Break_k1_spec (sy := ((0, 0, 0, false), none)) hr174 hI468 hl86 hD87 hY173 ⟨_, z, Gh.le_refl _, z, tv⟩).mono<|?_
 rintro _ wd177 ⟨T181, G175, hG1760, hI178, ⟨K, rfl, hG176, rfl, _⟩, rfl⟩
 refine have hH183:=Hp.front hI178 1 z;?_
 rcases jo99 with _ | j
 refine ⟨_, rfl, LoopState.ready, none, G175, _, (fun h => nomatch h), hH183, fun wd179 hI180 => ?_⟩
 refine hK73 _ _ _<|sQ fun K188 hK189=>iK H fun⟨h227, h227'⟩H=>?_
 obtain ⟨ad228, cs229, hA230, hK231, hn232, hc233⟩ := Dat.get (Dat.mono (gT (gT hG47 hG78) hG176) (Dat.cut (l := y57) (h := (a2.length : Int)) hD6 hl5 h64 h65 (Int.le_refl _)).2.2) z_api_Break (0) h227 h227'
 obtain ⟨rfl⟩ := open_api_Break hK231
 refine bK H fun y238 hy423 H=>?_
 refine wpc_drawL [0, 0, 0, 4, 12, 31, 63] (fun D r w => (D 6 = false ∧ ∃ (G' : Gh), G175 ≤ G' ∧ Regs [(3, pointer (some ⟨g26, 0, none⟩)), (4, pointer (some ⟨g30, 0, none⟩)), (6, pointer (some ⟨g38, 0, none⟩)), (8, slice (if c4 = Int.toNat y57 then A3 else Option.map (fun a => Addr.add a (Int.toNat y57 * 2)) A3) (cutl a2 y57 (a2.length : Int)).length (c4 - Int.toNat y57))] [] [(0, 33, agg [string a1, slice A3 a2.length c4, func (.func 70) [].toArray [pointer (some ⟨g8, 0, none⟩), pointer (some ⟨g19, 0, none⟩)].toArray].toArray), (1, 34, int .i64 a21), (2, 35, slice (if c4 = Int.toNat y57 then A3 else Option.map (fun a => Addr.add a (Int.toNat y57 * 2)) A3) (cutl a2 y57 (a2.length : Int)).length (c4 - Int.toNat y57)), (3, 36, pointer (some (ad228.add (Int.toNat 0 * 2)))), (4, 37, agg [int .i64 (((cutl a2 y57 (a2.length : Int)).getD (Int.toNat 0) z_api_Break).At), bool (((cutl a2 y57 (a2.length : Int)).getD (Int.toNat 0) z_api_Break).Hyphen)].toArray), (5, 38, agg [int .i64 y238.From, int .i64 y238.Until, int .i64 y238.Width, bool y238.Hyphen].toArray)] D r ∧ Hp G' (bx g82 [slice A84 y83.length c85] 77 :: bx g38 [int .i64 v89, int .i64 v90, int .i64 v91, bool v92] 46 :: bx g34 [int .i64 a22] 3 :: bx g30 [int .i64 a21] 3 :: bx g26 [string a1, slice A3 a2.length c4, func (.func 70) [].toArray [pointer (some ⟨g8, 0, none⟩), pointer (some ⟨g19, 0, none⟩)].toArray] 79 :: bx g8 [slice A10 a9.Glyphs.length c11, slice A14 a9.Kerns.length c15] 25 :: bx g19 [int .i64 a20] 3 :: (List.map mkI (gd88 :: ([] : List Nat)) ++ L)) w) ∨ (D 6 = true ∧ ∃ (G' : Gh), G175 ≤ G' ∧ Regs [(3, pointer (some ⟨g26, 0, none⟩)), (4, pointer (some ⟨g30, 0, none⟩)), (6, pointer (some ⟨g38, 0, none⟩)), (8, slice (if c4 = Int.toNat y57 then A3 else Option.map (fun a => Addr.add a (Int.toNat y57 * 2)) A3) (cutl a2 y57 (a2.length : Int)).length (c4 - Int.toNat y57))] [] [(0, 33, agg [string a1, slice A3 a2.length c4, func (.func 70) [].toArray [pointer (some ⟨g8, 0, none⟩), pointer (some ⟨g19, 0, none⟩)].toArray].toArray), (1, 34, int .i64 a21), (2, 35, slice (if c4 = Int.toNat y57 then A3 else Option.map (fun a => Addr.add a (Int.toNat y57 * 2)) A3) (cutl a2 y57 (a2.length : Int)).length (c4 - Int.toNat y57)), (3, 36, pointer (some (ad228.add (Int.toNat 0 * 2)))), (4, 37, agg [int .i64 (((cutl a2 y57 (a2.length : Int)).getD (Int.toNat 0) z_api_Break).At), bool (((cutl a2 y57 (a2.length : Int)).getD (Int.toNat 0) z_api_Break).Hyphen)].toArray), (5, 38, agg [int .i64 y238.From, int .i64 y238.Until, int .i64 y238.Width, bool y238.Hyphen].toArray)] D r ∧ Hp G' (bx g82 [slice A84 y83.length c85] 77 :: bx g38 [int .i64 y238.From, int .i64 y238.Until, int .i64 y238.Width, bool y238.Hyphen] 46 :: bx g34 [int .i64 a22] 3 :: bx g30 [int .i64 a21] 3 :: bx g26 [string a1, slice A3 a2.length c4, func (.func 70) [].toArray [pointer (some ⟨g8, 0, none⟩), pointer (some ⟨g19, 0, none⟩)].toArray] 79 :: bx g8 [slice A10 a9.Glyphs.length c11, slice A14 a9.Kerns.length c15] 25 :: bx g19 [int .i64 a20] 3 :: (List.map mkI (gd88 :: ([] : List Nat)) ++ L)) w)) mixo z z ?_ ?_ ?_
 exact (.inl ⟨z, _, Gh.le_refl _, Regs.start ⟨z, z, z, z, tv⟩ trivial, hI180.drew⟩)
 refine ⟨?_, ?_, ?_, ?_, ?_, ?_, ?_, tv⟩
 rintro D r wd454 (⟨hd2, G450, hG451, hReg453, hI452⟩ | ⟨hd1, G450, hG451, hReg453, hI452⟩) hDi hpre hpost
 obtain ⟨r0, rfl⟩ := Has.ex (cC (hReg453.ins.get 0 rfl) cN)
 exact lda hI452 4 ag79 z z z z<|nl ⟨z, (.inl ⟨hd2, _, hG451, (Regs.step hReg453 hDi z z z z), hI452⟩)⟩
 cases (hpost 6 rfl).symm.trans hd1
 rintro D r wd454 (⟨hd2, G450, hG451, hReg453, hI452⟩ | ⟨hd1, G450, hG451, hReg453, hI452⟩) hDi hpre hpost
 obtain ⟨r0, rfl⟩ := Has.ex (cC (hReg453.ins.get 1 rfl) cN)
 exact ld hI452 3 ag3 z z z<|nl ⟨z, (.inl ⟨hd2, _, hG451, (Regs.step hReg453 hDi z z z z), hI452⟩)⟩
 cases (hpost 6 rfl).symm.trans hd1
 rintro D r wd454 (⟨hd2, G450, hG451, hReg453, hI452⟩ | ⟨hd1, G450, hG451, hReg453, hI452⟩) hDi hpre hpost
 obtain ⟨r0, rfl⟩ := Has.ex (cC (hReg453.ins.get 3 rfl) cN)
 exact mv z<|nl ⟨z, (.inl ⟨hd2, _, hG451, (Regs.step hReg453 hDi z z z z), hI452⟩)⟩
 cases (hpost 6 rfl).symm.trans hd1
 rintro D r wd454 (⟨hd2, G450, hG451, hReg453, hI452⟩ | ⟨hd1, G450, hG451, hReg453, hI452⟩) hDi hpre hpost
 obtain ⟨r0, rfl⟩ := Has.ex (cC (hReg453.get 2 rfl (hpre 2 rfl)) cN)
 exact q_ia el77 z hA230 z h227 h227'<|nl ⟨z, (.inl ⟨hd2, _, hG451, (Regs.step hReg453 hDi z z z z), hI452⟩)⟩
 cases (hpost 6 rfl).symm.trans hd1
 rintro D r wd454 (⟨hd2, G450, hG451, hReg453, hI452⟩ | ⟨hd1, G450, hG451, hReg453, hI452⟩) hDi hpre hpost
 obtain ⟨r0, rfl⟩ := Has.ex (cC (hReg453.get 3 rfl (hpre 3 rfl)) cN)
 exact q_lfA hI452 ag114 z (cs := [int .i64 (((cutl a2 y57 (a2.length : Int)).getD (Int.toNat 0) z_api_Break).At), bool (((cutl a2 y57 (a2.length : Int)).getD (Int.toNat 0) z_api_Break).Hyphen)]) z (fun j v hv => hG451.cel _ _ (hc233 j v hv))<|nl ⟨z, (.inl ⟨hd2, _, hG451, (Regs.step hReg453 hDi z z z z), hI452⟩)⟩
 cases (hpost 6 rfl).symm.trans hd1
 rintro D r wd454 (⟨hd2, G450, hG451, hReg453, hI452⟩ | ⟨hd1, G450, hG451, hReg453, hI452⟩) hDi hpre hpost
 obtain ⟨r0, rfl⟩ := Has.ex (cC (hReg453.get 0 rfl (hpre 0 rfl)) (cC (hReg453.get 1 rfl (hpre 1 rfl)) (cC (hReg453.get 4 rfl (hpre 4 rfl)) cN)))
 exact have hI440:=Hp.pick 7 [5, 6, 0, 1, 2, 3, 4] hI452 z;cv bo101 (inline_setter_line_k1_spec (a22 := ((cutl a2 y57 (a2.length : Int)).getD (Int.toNat 0) z_api_Break)) hy423 hI440 hl5 (Dat.mono (gT (gT (gT hG47 hG78) hG176) hG451) hD6) hl12 (Dat.mono (gT (gT (gT hG47 hG78) hG176) hG451) hD13) hl16 (Dat.mono (gT (gT (gT hG47 hG78) hG176) hG451) hD17) (hgl.mono (gT (gT (gT hG47 hG78) hG176) hG451))) z z fun wd236 hI237=>have hI447:=Hp.pick 7 [2, 3, 4, 5, 6, 0, 1] hI237 z;nl ⟨z, (.inl ⟨hd2, _, hG451, (Regs.step hReg453 hDi z z z z), hI447⟩)⟩
 cases (hpost 6 rfl).symm.trans hd1
 rintro D r wd454 (⟨hd2, G450, hG451, hReg453, hI452⟩ | ⟨hd1, G450, hG451, hReg453, hI452⟩) hDi hpre hpost
 obtain ⟨r0, rfl⟩ := Has.ex (cC (hReg453.ins.get 2 rfl) (cC (hReg453.get 5 rfl (hpre 5 rfl)) cN))
 exact stk hI452 1 ag46 z z z z z z z fun wd448 hI449=>nl ⟨z, (.inr ⟨z, _, hG451, (Regs.stepN hReg453 z z), hI449⟩)⟩
 cases hDi.symm.trans hd1
 intro D r wd454 hall hR
 rcases hR with ⟨hd2, G450, hG451, hReg453, hI452⟩ | ⟨hd1, G450, hG451, hReg453, hI452⟩
 cases (hall 6 (Nat.le_of_ble_eq_true rfl)).symm.trans hd2
 obtain ⟨r0, rfl⟩ := Has.ex (cC (hReg453.ins.get 2 rfl) cN)
 refine hK189 _ _ _<|wr<|?_
 refine ⟨.inr rfl, (gd88 :: ([] : List Nat)), _, _, rfl, Hp.marks (K := [bx g82 [slice A84 y83.length c85] 77, bx g38 [int .i64 y238.From, int .i64 y238.Until, int .i64 y238.Width, bool y238.Hyphen] 46, bx g34 [int .i64 a22] 3, bx g30 [int .i64 a21] 3, bx g26 [string a1, slice A3 a2.length c4, func (.func 70) [].toArray [pointer (some ⟨g8, 0, none⟩), pointer (some ⟨g19, 0, none⟩)].toArray] 79, bx g8 [slice A10 a9.Glyphs.length c11, slice A14 a9.Kerns.length c15] 25, bx g19 [int .i64 a20] 3]) hI452, fun wd456 hI455 => ?_⟩
 refine have hr457:=res_cell (P := Tryz.prog) hI455 1 (cs := [int .i64 y238.From, int .i64 y238.Until, int .i64 y238.Width, bool y238.Hyphen]) (g := g38) (o := 0) ag46 z z z;have hI460:=Hp.pick 7 [5, 6] hI455 z;?_
 cases H
 exact ⟨_, ⟨_, _, _, z, z, hr457, z⟩, (Hp.low (gT (gT (gT hG47 hG78) hG176) hG451) hI460), z⟩
 rcases j with _ | j
 refine ⟨_, rfl, LoopState.done, (some Code.ret), G175, _, (fun h => nomatch h), hH183, fun wd179 hI180 => ?_⟩
 refine ⟨.inr rfl, (gd88 :: ([] : List Nat)), _, _, rfl, Hp.marks (K := [bx g82 [slice A84 y83.length c85] 77, bx g38 [int .i64 v89, int .i64 v90, int .i64 v91, bool v92] 46, bx g34 [int .i64 a22] 3, bx g30 [int .i64 a21] 3, bx g26 [string a1, slice A3 a2.length c4, func (.func 70) [].toArray [pointer (some ⟨g8, 0, none⟩), pointer (some ⟨g19, 0, none⟩)].toArray] 79, bx g8 [slice A10 a9.Glyphs.length c11, slice A14 a9.Kerns.length c15] 25, bx g19 [int .i64 a20] 3]) hI180, fun wd462 hI461 => ?_⟩
 refine have hr463:=res_cell (P := Tryz.prog) hI461 1 (cs := [int .i64 v89, int .i64 v90, int .i64 v91, bool v92]) (g := g38) (o := 0) ag46 z z z;have hI466:=Hp.pick 7 [5, 6] hI461 z;?_
 cases H
 exact ⟨_, ⟨_, _, _, z, z, hr463, z⟩, (Hp.low (gT (gT hG47 hG78) hG176) hI466), z⟩
 cases H
theorem inline_setter_lines_1_k1_spec {σ : Type} {St : σ → Gh → List Itm → Prop} {yl} {φ : σ → api_Line → Option (σ × Bool)} {sy : σ} {a3 a4 a11 a22 a25 g2 A5 c6 g10 A12 c13 A16 c17 g21 g24 A26 c27} {ry : σ} {G T w} (H : inline_setter_lines_1_k1 φ sy a3 a4 a11 a22 a25 = some ry) (hI : Hp G (bx g2 [string a3, slice A5 a4.length c6, func (.func 70) [].toArray [pointer (some ⟨g10, 0, none⟩), pointer (some ⟨g21, 0, none⟩)].toArray] 79 :: bx g10 [slice A12 a11.Glyphs.length c13, slice A16 a11.Kerns.length c17] 25 :: bx g21 [int .i64 a22] 3 :: bx g24 [slice A26 a25.length c27] 44 :: T) w) (hl7 : a4.length ≤ c6) (hD8 : Dat k_api_Break G A5 a4) (hl14 : a11.Glyphs.length ≤ c13) (hD15 : Dat k_api_Glyph G A12 a11.Glyphs) (hl18 : a11.Kerns.length ≤ c17) (hD19 : Dat k_api_Kern G A16 a11.Kerns) (hl28 : a25.length ≤ c27) (hD29 : Dat (Kd.int .i64) G A26 a25) (hy : Yl Tryz.prog φ (encS k_api_Line) St yl) (hS : St sy G T) (hgl : Gl G) :
    Calls Tryz.prog 72 [func (.yield yl) #[] #[], pointer (some ⟨g2, 0, none⟩), pointer (some ⟨g24, 0, none⟩)].toArray w fun e w' => ∃ (T' : List Itm) (G' : Gh), G ≤ G' ∧ Hp G' (bx g2 [string a3, slice A5 a4.length c6, func (.func 70) [].toArray [pointer (some ⟨g10, 0, none⟩), pointer (some ⟨g21, 0, none⟩)].toArray] 79 :: bx g10 [slice A12 a11.Glyphs.length c13, slice A16 a11.Kerns.length c17] 25 :: bx g21 [int .i64 a22] 3 :: bx g24 [slice A26 a25.length c27] 44 :: T') w' ∧ St ry G' T' ∧ e = .returned (tuple [].toArray) := by
 refine calls_intro (N := 38) Tryz.func72 z z (Nat.le_of_ble_eq_true z)<|?_
 unfold inline_setter_lines_1_k1 at H
 refine sr fun K30 hK31=>asn z<|asn z<|nl<|hK31 _ _ _<|wb<|bK H fun v52 hC H=>?_
 refine wpc_mono (Q := fun e r ds w => e = .ret ∧ ∃ (T51 : List Itm) (G54 : Gh), ds = [] ∧ G ≤ G54 ∧ Has [] r ∧ Hp G54 (bx g2 [string a3, slice A5 a4.length c6, func (.func 70) [].toArray [pointer (some ⟨g10, 0, none⟩), pointer (some ⟨g21, 0, none⟩)].toArray] 79 :: bx g10 [slice A12 a11.Glyphs.length c13, slice A16 a11.Kerns.length c17] 25 :: bx g21 [int .i64 a22] 3 :: bx g24 [slice A26 a25.length c27] 44 :: T51) w ∧ St v52 G54 T51 ∧ True) ?_ ?_
 refine wpc_loop fun I hLp=>?_
 refine inline_setter_lines_1_k1_l50.partial_correctness φ a3 a4 a11 a22 a25 (fun v36 v37 v39 o => ∀ (T38 : List Itm) (G59 : Gh) (r : Rg) (w : World), G ≤ G59 → Has [(0, func (.yield yl) #[] #[]), (1, pointer (some ⟨g2, 0, none⟩)), (2, pointer (some ⟨g24, 0, none⟩)), (4, int .i64 v36), (5, int .i64 v37)] r → Hp G59 (bx g2 [string a3, slice A5 a4.length c6, func (.func 70) [].toArray [pointer (some ⟨g10, 0, none⟩), pointer (some ⟨g21, 0, none⟩)].toArray] 79 :: bx g10 [slice A12 a11.Glyphs.length c13, slice A16 a11.Kerns.length c17] 25 :: bx g21 [int .i64 a22] 3 :: bx g24 [slice A26 a25.length c27] 44 :: T38) w → St v39 G59 T38 → o = v52 → I r [] w) ?_ 0 0 sy _ hC T _ _ _ gR ⟨rfl, rfl, rfl, rfl, rfl, tv⟩ hI hS rfl
 intro _ ih v36 v37 v39 o H T38 G59 r wd61 hG60 hHas hI62 hS40 ho
 rw [ho] at H; clear ho
 rw [hHas.eq]; clear hHas
 refine hLp _ _ _<|sQ fun K63 hK64=>wb<|sr fun K65 hK66=>fa fl79_0 z<|ld hI62 0 ag9 z z z<|mv z<|iK H fun⟨h67, h68⟩H=>q_ss (l := v36) (h := (a3.size : Int)) so9 z (.inr ⟨_, z, z⟩) (.inl ⟨z, z⟩) h67 h68 (Int.le_refl _)<|bK2 H fun y75 y76 hy70 H=>cv bo73 (text_Words_spec hy70 hI62) z z fun wd73 hI74=>mv z<|exk z z<|exk z z<|?_
 refine asn z<|asn z<|nl<|hK66 _ _ _<|sQ fun K77 hK78=>sr fun K79 hK80=>mv z<|q_eql z z<|nl<|hK80 _ _ _<|dC (y75 = 0) (fun h81=>?_) fun h81=>?_
 refine yK h81 H fun H=>wt (bY h81)<|wr<|?_
 cases H
 exact ⟨z, T38, _, z, hG60, trivial, hI74, hS40, tv⟩
 refine nK h81 H fun H=>wf (bN h81)<|ws<|hK78 _ _ _<|sQ fun K82 hK83=>iK H fun⟨h117, h117'⟩H=>?_
 obtain ⟨ad118, cs119, hA120, hK121, hn122, hc123⟩ := Dat.get (Dat.mono hG60 hD29) (0 : Int) (min v37 (w64 ((a25.length : Int) - 1))) h117 h117'
 obtain rfl := hK121
 refine bK H fun y128 hy313 H=>?_
 refine wpc_drawL [0, 0, 0, 0, 0, 16, 48, 120, 252, 508, 1023, 0, 4095] (fun D r w => (D 11 = false ∧ ∃ (G' : Gh), G59 ≤ G' ∧ Regs [(0, func (.yield yl) #[] #[]), (1, pointer (some ⟨g2, 0, none⟩)), (2, pointer (some ⟨g24, 0, none⟩)), (4, int .i64 v36), (5, int .i64 v37)] [] [(0, 21, agg [string a3, slice A5 a4.length c6, func (.func 70) [].toArray [pointer (some ⟨g10, 0, none⟩), pointer (some ⟨g21, 0, none⟩)].toArray].toArray), (1, 22, int .i64 v36), (2, 23, slice A26 a25.length c27), (3, 24, int .i64 v37), (4, 25, slice A26 a25.length c27), (5, 26, int .i64 (a25.length : Int)), (6, 27, int .i64 (w64 ((a25.length : Int) - 1))), (7, 28, int .i64 (min v37 (w64 ((a25.length : Int) - 1)))), (8, 29, pointer (some (ad118.add (Int.toNat (min v37 (w64 ((a25.length : Int) - 1))) * 1)))), (9, 30, int .i64 (a25.getD (Int.toNat (min v37 (w64 ((a25.length : Int) - 1)))) (0 : Int))), (10, 31, agg [int .i64 y128.From, int .i64 y128.Until, int .i64 y128.Width, bool y128.Hyphen].toArray)] D r ∧ Hp G' (bx g2 [string a3, slice A5 a4.length c6, func (.func 70) [].toArray [pointer (some ⟨g10, 0, none⟩), pointer (some ⟨g21, 0, none⟩)].toArray] 79 :: bx g10 [slice A12 a11.Glyphs.length c13, slice A16 a11.Kerns.length c17] 25 :: bx g21 [int .i64 a22] 3 :: bx g24 [slice A26 a25.length c27] 44 :: T38) w) ∨ (D 11 = true ∧ D 12 = false ∧ ∃ (g333 : Nat) (G' : Gh), G59 ≤ G' ∧ Regs [(0, func (.yield yl) #[] #[]), (1, pointer (some ⟨g2, 0, none⟩)), (2, pointer (some ⟨g24, 0, none⟩)), (4, int .i64 v36), (5, int .i64 v37)] [] [(0, 21, agg [string a3, slice A5 a4.length c6, func (.func 70) [].toArray [pointer (some ⟨g10, 0, none⟩), pointer (some ⟨g21, 0, none⟩)].toArray].toArray), (1, 22, int .i64 v36), (2, 23, slice A26 a25.length c27), (3, 24, int .i64 v37), (4, 25, slice A26 a25.length c27), (5, 26, int .i64 (a25.length : Int)), (6, 27, int .i64 (w64 ((a25.length : Int) - 1))), (7, 28, int .i64 (min v37 (w64 ((a25.length : Int) - 1)))), (8, 29, pointer (some (ad118.add (Int.toNat (min v37 (w64 ((a25.length : Int) - 1))) * 1)))), (9, 30, int .i64 (a25.getD (Int.toNat (min v37 (w64 ((a25.length : Int) - 1)))) (0 : Int))), (10, 31, agg [int .i64 y128.From, int .i64 y128.Until, int .i64 y128.Width, bool y128.Hyphen].toArray), (11, 8, pointer (some ⟨g333, 0, none⟩))] D r ∧ Hp G' (bx g333 [int .i64 0, int .i64 0, int .i64 0, bool false] 46 :: bx g2 [string a3, slice A5 a4.length c6, func (.func 70) [].toArray [pointer (some ⟨g10, 0, none⟩), pointer (some ⟨g21, 0, none⟩)].toArray] 79 :: bx g10 [slice A12 a11.Glyphs.length c13, slice A16 a11.Kerns.length c17] 25 :: bx g21 [int .i64 a22] 3 :: bx g24 [slice A26 a25.length c27] 44 :: T38) w) ∨ (D 12 = true ∧ ∃ (g333 : Nat) (G' : Gh), G59 ≤ G' ∧ Regs [(0, func (.yield yl) #[] #[]), (1, pointer (some ⟨g2, 0, none⟩)), (2, pointer (some ⟨g24, 0, none⟩)), (4, int .i64 v36), (5, int .i64 v37)] [] [(0, 21, agg [string a3, slice A5 a4.length c6, func (.func 70) [].toArray [pointer (some ⟨g10, 0, none⟩), pointer (some ⟨g21, 0, none⟩)].toArray].toArray), (1, 22, int .i64 v36), (2, 23, slice A26 a25.length c27), (3, 24, int .i64 v37), (4, 25, slice A26 a25.length c27), (5, 26, int .i64 (a25.length : Int)), (6, 27, int .i64 (w64 ((a25.length : Int) - 1))), (7, 28, int .i64 (min v37 (w64 ((a25.length : Int) - 1)))), (8, 29, pointer (some (ad118.add (Int.toNat (min v37 (w64 ((a25.length : Int) - 1))) * 1)))), (9, 30, int .i64 (a25.getD (Int.toNat (min v37 (w64 ((a25.length : Int) - 1)))) (0 : Int))), (10, 31, agg [int .i64 y128.From, int .i64 y128.Until, int .i64 y128.Width, bool y128.Hyphen].toArray), (11, 8, pointer (some ⟨g333, 0, none⟩))] D r ∧ Hp G' (bx g333 [int .i64 y128.From, int .i64 y128.Until, int .i64 y128.Width, bool y128.Hyphen] 46 :: bx g2 [string a3, slice A5 a4.length c6, func (.func 70) [].toArray [pointer (some ⟨g10, 0, none⟩), pointer (some ⟨g21, 0, none⟩)].toArray] 79 :: bx g10 [slice A12 a11.Glyphs.length c13, slice A16 a11.Kerns.length c17] 25 :: bx g21 [int .i64 a22] 3 :: bx g24 [slice A26 a25.length c27] 44 :: T38) w)) mixo z z ?_ ?_ ?_
 exact (.inl ⟨z, _, Gh.le_refl _, Regs.start ⟨z, z, z, z, z, tv⟩ trivial, hI74.drew⟩)
 refine ⟨?_, ?_, ?_, ?_, ?_, ?_, ?_, ?_, ?_, ?_, ?_, ?_, ?_, tv⟩
 rintro D r wd342 (⟨hd2, G338, hG339, hReg341, hI340⟩ | ⟨hd1, hd2, g333, G338, hG339, hReg341, hI340⟩ | ⟨hd1, g333, G338, hG339, hReg341, hI340⟩) hDi hpre hpost
 obtain ⟨r0, rfl⟩ := Has.ex (cC (hReg341.ins.get 1 rfl) cN)
 exact lda hI340 0 ag79 z z z z<|nl ⟨z, (.inl ⟨hd2, _, hG339, (Regs.step hReg341 hDi z z z z), hI340⟩)⟩
 obtain ⟨r0, rfl⟩ := Has.ex (cC (hReg341.ins.get 1 rfl) cN)
 exact lda hI340 1 ag79 z z z z<|nl ⟨z, (.inr (.inl ⟨hd1, hd2, g333, _, hG339, (Regs.step hReg341 hDi z z z z), hI340⟩))⟩
 cases (hpost 12 rfl).symm.trans hd1
 rintro D r wd342 (⟨hd2, G338, hG339, hReg341, hI340⟩ | ⟨hd1, hd2, g333, G338, hG339, hReg341, hI340⟩ | ⟨hd1, g333, G338, hG339, hReg341, hI340⟩) hDi hpre hpost
 obtain ⟨r0, rfl⟩ := Has.ex (cC (hReg341.ins.get 3 rfl) cN)
 exact mv z<|nl ⟨z, (.inl ⟨hd2, _, hG339, (Regs.step hReg341 hDi z z z z), hI340⟩)⟩
 obtain ⟨r0, rfl⟩ := Has.ex (cC (hReg341.ins.get 3 rfl) cN)
 exact mv z<|nl ⟨z, (.inr (.inl ⟨hd1, hd2, g333, _, hG339, (Regs.step hReg341 hDi z z z z), hI340⟩))⟩
 cases (hpost 12 rfl).symm.trans hd1
 rintro D r wd342 (⟨hd2, G338, hG339, hReg341, hI340⟩ | ⟨hd1, hd2, g333, G338, hG339, hReg341, hI340⟩ | ⟨hd1, g333, G338, hG339, hReg341, hI340⟩) hDi hpre hpost
 obtain ⟨r0, rfl⟩ := Has.ex (cC (hReg341.ins.get 2 rfl) cN)
 exact ld hI340 3 ag44 z z z<|nl ⟨z, (.inl ⟨hd2, _, hG339, (Regs.step hReg341 hDi z z z z), hI340⟩)⟩
 obtain ⟨r0, rfl⟩ := Has.ex (cC (hReg341.ins.get 2 rfl) cN)
 exact ld hI340 4 ag44 z z z<|nl ⟨z, (.inr (.inl ⟨hd1, hd2, g333, _, hG339, (Regs.step hReg341 hDi z z z z), hI340⟩))⟩
 cases (hpost 12 rfl).symm.trans hd1
 rintro D r wd342 (⟨hd2, G338, hG339, hReg341, hI340⟩ | ⟨hd1, hd2, g333, G338, hG339, hReg341, hI340⟩ | ⟨hd1, g333, G338, hG339, hReg341, hI340⟩) hDi hpre hpost
 obtain ⟨r0, rfl⟩ := Has.ex (cC (hReg341.ins.get 4 rfl) cN)
 exact mv z<|nl ⟨z, (.inl ⟨hd2, _, hG339, (Regs.step hReg341 hDi z z z z), hI340⟩)⟩
 obtain ⟨r0, rfl⟩ := Has.ex (cC (hReg341.ins.get 4 rfl) cN)
 exact mv z<|nl ⟨z, (.inr (.inl ⟨hd1, hd2, g333, _, hG339, (Regs.step hReg341 hDi z z z z), hI340⟩))⟩
 cases (hpost 12 rfl).symm.trans hd1
 rintro D r wd342 (⟨hd2, G338, hG339, hReg341, hI340⟩ | ⟨hd1, hd2, g333, G338, hG339, hReg341, hI340⟩ | ⟨hd1, g333, G338, hG339, hReg341, hI340⟩) hDi hpre hpost
 obtain ⟨r0, rfl⟩ := Has.ex (cC (hReg341.ins.get 2 rfl) cN)
 exact ld hI340 3 ag44 z z z<|nl ⟨z, (.inl ⟨hd2, _, hG339, (Regs.step hReg341 hDi z z z z), hI340⟩)⟩
 obtain ⟨r0, rfl⟩ := Has.ex (cC (hReg341.ins.get 2 rfl) cN)
 exact ld hI340 4 ag44 z z z<|nl ⟨z, (.inr (.inl ⟨hd1, hd2, g333, _, hG339, (Regs.step hReg341 hDi z z z z), hI340⟩))⟩
 cases (hpost 12 rfl).symm.trans hd1
 rintro D r wd342 (⟨hd2, G338, hG339, hReg341, hI340⟩ | ⟨hd1, hd2, g333, G338, hG339, hReg341, hI340⟩ | ⟨hd1, g333, G338, hG339, hReg341, hI340⟩) hDi hpre hpost
 obtain ⟨r0, rfl⟩ := Has.ex (cC (hReg341.get 4 rfl (hpre 4 rfl)) cN)
 exact q_len so44 z<|nl ⟨z, (.inl ⟨hd2, _, hG339, (Regs.step hReg341 hDi z z z z), hI340⟩)⟩
 obtain ⟨r0, rfl⟩ := Has.ex (cC (hReg341.get 4 rfl (hpre 4 rfl)) cN)
 exact q_len so44 z<|nl ⟨z, (.inr (.inl ⟨hd1, hd2, g333, _, hG339, (Regs.step hReg341 hDi z z z z), hI340⟩))⟩
 cases (hpost 12 rfl).symm.trans hd1
 rintro D r wd342 (⟨hd2, G338, hG339, hReg341, hI340⟩ | ⟨hd1, hd2, g333, G338, hG339, hReg341, hI340⟩ | ⟨hd1, g333, G338, hG339, hReg341, hI340⟩) hDi hpre hpost
 obtain ⟨r0, rfl⟩ := Has.ex (cC (hReg341.get 5 rfl (hpre 5 rfl)) cN)
 exact q_sub z z<|nl ⟨z, (.inl ⟨hd2, _, hG339, (Regs.step hReg341 hDi z z z z), hI340⟩)⟩
 obtain ⟨r0, rfl⟩ := Has.ex (cC (hReg341.get 5 rfl (hpre 5 rfl)) cN)
 exact q_sub z z<|nl ⟨z, (.inr (.inl ⟨hd1, hd2, g333, _, hG339, (Regs.step hReg341 hDi z z z z), hI340⟩))⟩
 cases (hpost 12 rfl).symm.trans hd1
 rintro D r wd342 (⟨hd2, G338, hG339, hReg341, hI340⟩ | ⟨hd1, hd2, g333, G338, hG339, hReg341, hI340⟩ | ⟨hd1, g333, G338, hG339, hReg341, hI340⟩) hDi hpre hpost
 obtain ⟨r0, rfl⟩ := Has.ex (cC (hReg341.get 3 rfl (hpre 3 rfl)) (cC (hReg341.get 6 rfl (hpre 6 rfl)) cN))
 exact q_min z z<|nl ⟨z, (.inl ⟨hd2, _, hG339, (Regs.step hReg341 hDi z z z z), hI340⟩)⟩
 obtain ⟨r0, rfl⟩ := Has.ex (cC (hReg341.get 3 rfl (hpre 3 rfl)) (cC (hReg341.get 6 rfl (hpre 6 rfl)) cN))
 exact q_min z z<|nl ⟨z, (.inr (.inl ⟨hd1, hd2, g333, _, hG339, (Regs.step hReg341 hDi z z z z), hI340⟩))⟩
 cases (hpost 12 rfl).symm.trans hd1
 rintro D r wd342 (⟨hd2, G338, hG339, hReg341, hI340⟩ | ⟨hd1, hd2, g333, G338, hG339, hReg341, hI340⟩ | ⟨hd1, g333, G338, hG339, hReg341, hI340⟩) hDi hpre hpost
 obtain ⟨r0, rfl⟩ := Has.ex (cC (hReg341.get 2 rfl (hpre 2 rfl)) (cC (hReg341.get 7 rfl (hpre 7 rfl)) cN))
 exact q_ia el44 z hA120 z h117 h117'<|nl ⟨z, (.inl ⟨hd2, _, hG339, (Regs.step hReg341 hDi z z z z), hI340⟩)⟩
 obtain ⟨r0, rfl⟩ := Has.ex (cC (hReg341.get 2 rfl (hpre 2 rfl)) (cC (hReg341.get 7 rfl (hpre 7 rfl)) cN))
 exact q_ia el44 z hA120 z h117 h117'<|nl ⟨z, (.inr (.inl ⟨hd1, hd2, g333, _, hG339, (Regs.step hReg341 hDi z z z z), hI340⟩))⟩
 cases (hpost 12 rfl).symm.trans hd1
 rintro D r wd342 (⟨hd2, G338, hG339, hReg341, hI340⟩ | ⟨hd1, hd2, g333, G338, hG339, hReg341, hI340⟩ | ⟨hd1, g333, G338, hG339, hReg341, hI340⟩) hDi hpre hpost
 obtain ⟨r0, rfl⟩ := Has.ex (cC (hReg341.get 8 rfl (hpre 8 rfl)) cN)
 exact q_lf hI340 ag3 z (hG339.cel _ _ (hc123 0 _ z))<|nl ⟨z, (.inl ⟨hd2, _, hG339, (Regs.step hReg341 hDi z z z z), hI340⟩)⟩
 obtain ⟨r0, rfl⟩ := Has.ex (cC (hReg341.get 8 rfl (hpre 8 rfl)) cN)
 exact q_lf hI340 ag3 z (hG339.cel _ _ (hc123 0 _ z))<|nl ⟨z, (.inr (.inl ⟨hd1, hd2, g333, _, hG339, (Regs.step hReg341 hDi z z z z), hI340⟩))⟩
 cases (hpost 12 rfl).symm.trans hd1
 rintro D r wd342 (⟨hd2, G338, hG339, hReg341, hI340⟩ | ⟨hd1, hd2, g333, G338, hG339, hReg341, hI340⟩ | ⟨hd1, g333, G338, hG339, hReg341, hI340⟩) hDi hpre hpost
 obtain ⟨r0, rfl⟩ := Has.ex (cC (hReg341.get 0 rfl (hpre 0 rfl)) (cC (hReg341.get 1 rfl (hpre 1 rfl)) (cC (hReg341.get 9 rfl (hpre 9 rfl)) cN)))
 exact have hI327:=Hp.pick 4 [1, 2, 0, 3] hI340 z;cv bo74 (inline_setter_next_k1_spec hy313 hI327 hl7 (Dat.mono (gT hG60 hG339) hD8) hl14 (Dat.mono (gT hG60 hG339) hD15) hl18 (Dat.mono (gT hG60 hG339) hD19) (hgl.mono (gT hG60 hG339))) z z fun wd126 hI127=>have hI331:=Hp.pick 4 [2, 0, 1, 3] hI127 z;nl ⟨z, (.inl ⟨hd2, _, hG339, (Regs.step hReg341 hDi z z z z), hI331⟩)⟩
 obtain ⟨r0, rfl⟩ := Has.ex (cC (hReg341.get 0 rfl (hpre 0 rfl)) (cC (hReg341.get 1 rfl (hpre 1 rfl)) (cC (hReg341.get 9 rfl (hpre 9 rfl)) cN)))
 exact have hI328:=Hp.pick 5 [2, 3, 0, 1, 4] hI340 z;cv bo74 (inline_setter_next_k1_spec hy313 hI328 hl7 (Dat.mono (gT hG60 hG339) hD8) hl14 (Dat.mono (gT hG60 hG339) hD15) hl18 (Dat.mono (gT hG60 hG339) hD19) (hgl.mono (gT hG60 hG339))) z z fun wd126 hI127=>have hI333:=Hp.pick 5 [2, 3, 0, 1, 4] hI127 z;nl ⟨z, (.inr (.inl ⟨hd1, hd2, g333, _, hG339, (Regs.step hReg341 hDi z z z z), hI333⟩))⟩
 cases (hpost 12 rfl).symm.trans hd1
 rintro D r wd342 (⟨hd2, G338, hG339, hReg341, hI340⟩ | ⟨hd1, hd2, g333, G338, hG339, hReg341, hI340⟩ | ⟨hd1, g333, G338, hG339, hReg341, hI340⟩) hDi hpre hpost
 obtain ⟨r0, rfl⟩ := Has.ex (r := r) cN
 exact q_alloc hI340 ze46 fun g333 wd334 hI335=>nl ⟨z, (.inr (.inl ⟨z, (hpost 12 z), g333, _, hG339, (Regs.step (Regs.more (new := [(11, 8, pointer (some ⟨g333, 0, none⟩))]) hReg341 (List.forall_mem_cons.2 ⟨hDi, (fun _ h => nomatch h)⟩)) hDi z z z z), hI335⟩))⟩
 cases hDi.symm.trans hd1
 cases (hpost 12 rfl).symm.trans hd1
 rintro D r wd342 (⟨hd2, G338, hG339, hReg341, hI340⟩ | ⟨hd1, hd2, g333, G338, hG339, hReg341, hI340⟩ | ⟨hd1, g333, G338, hG339, hReg341, hI340⟩) hDi hpre hpost
 cases (hpre 11 rfl).symm.trans hd2
 obtain ⟨r0, rfl⟩ := Has.ex (cC (hReg341.get 11 rfl (hpre 11 rfl)) (cC (hReg341.get 10 rfl (hpre 10 rfl)) cN))
 exact stk hI340 0 ag46 z z z z z z z fun wd336 hI337=>nl ⟨z, (.inr (.inr ⟨z, g333, _, hG339, (Regs.stepN hReg341 z z), hI337⟩))⟩
 cases hDi.symm.trans hd1
 intro D r wd342 hall hR
 rcases hR with ⟨hd2, G338, hG339, hReg341, hI340⟩ | ⟨hd1, hd2, g333, G338, hG339, hReg341, hI340⟩ | ⟨hd1, g333, G338, hG339, hReg341, hI340⟩
 cases (hall 11 (Nat.le_of_ble_eq_true rfl)).symm.trans hd2
 cases (hall 12 (Nat.le_of_ble_eq_true rfl)).symm.trans hd2
 obtain ⟨r0, rfl⟩ := Has.ex (cC (hReg341.ins.get 0 rfl) (cC (hReg341.ins.get 1 rfl) (cC (hReg341.ins.get 2 rfl) (cC (hReg341.ins.get 4 rfl) (cC (hReg341.get 11 rfl (hall 11 (Nat.le_of_ble_eq_true rfl))) cN)))))
 refine hK83 _ _ _<|sQ fun K343 hK344=>sr fun K345 hK346=>mv z<|lda hI340 0 ag46 z z z z<|bK2 H fun s347 b348 hx349 H=>q_yl hy [bx g333 [int .i64 y128.From, int .i64 y128.Until, int .i64 y128.Width, bool y128.Hyphen] 46, bx g2 [string a3, slice A5 a4.length c6, func (.func 70) [].toArray [pointer (some ⟨g10, 0, none⟩), pointer (some ⟨g21, 0, none⟩)].toArray] 79, bx g10 [slice A12 a11.Glyphs.length c13, slice A16 a11.Kerns.length c17] 25, bx g21 [int .i64 a22] 3, bx g24 [slice A26 a25.length c27] 44] hI340 (hy.mono hG339 hS40) z z ⟨_, z, (mk_api_Line (x := y128))⟩ hx349 fun wd350 G351 T352 hG353 hS354 hI355=>q_not z<|nl<|hK346 _ _ _<|dC ((!b348) = true) (fun h356=>?_) fun h356=>?_
 refine yK h356 H fun H=>wt (vY h356)<|wr<|have hI361:=Hp.pick 5 [1, 2, 3, 4] hI355 z;?_
 cases H
 exact ⟨z, T352, _, z, (gT (gT hG60 hG339) hG353), trivial, hI361, hS354, tv⟩
 refine nK h356 H fun H=>wf (vN h356)<|ws<|hK344 _ _ _<|wpc_region<|fa fl46_1 z<|ld hI355 0 ag3 z z z<|asn z<|nl<|hK64 _ _ _<|wpc_region<|mv z<|q_add z z<|asn z<|?_
 exact nl<|have hI366:=Hp.pick 5 [1, 2, 3, 4] hI355 z;ih _ _ _ _ H T352 _ _ _ (gT (gT hG60 hG339) hG353) ⟨z, z, z, z, z, tv⟩ hI366 hS354 z
 rintro e r ds wd56 ⟨rfl, T51, G54, rfl, hG55, hHas, hI57, hS53, _⟩
 rw [hHas.eq]; clear hHas
 cases H
 exact ⟨.inr z, z, _, z, T51, _, hG55, hI57, hS53, z⟩
theorem slices_AppendSeq_api_Line_k2_spec {a3 a4 a11 a22 a25 g2 A5 c6 g10 A12 c13 A16 c17 g21 g24 A26 c27 r1030 G L w} (H : slices_AppendSeq_api_Line_k2 a3 a4 a11 a22 a25 = some r1030) (hI : Hp G (bx g2 [string a3, slice A5 a4.length c6, func (.func 70) [].toArray [pointer (some ⟨g10, 0, none⟩), pointer (some ⟨g21, 0, none⟩)].toArray] 79 :: bx g10 [slice A12 a11.Glyphs.length c13, slice A16 a11.Kerns.length c17] 25 :: bx g21 [int .i64 a22] 3 :: bx g24 [slice A26 a25.length c27] 44 :: L) w) (hl7 : a4.length ≤ c6) (hD8 : Dat k_api_Break G A5 a4) (hl14 : a11.Glyphs.length ≤ c13) (hD15 : Dat k_api_Glyph G A12 a11.Glyphs) (hl18 : a11.Kerns.length ≤ c17) (hD19 : Dat k_api_Kern G A16 a11.Kerns) (hl28 : a25.length ≤ c27) (hD29 : Dat (Kd.int .i64) G A26 a25) (hgl : Gl G) :
    Calls Tryz.prog 71 [slice none 0 0, func (.func 72) [].toArray [pointer (some ⟨g2, 0, none⟩), pointer (some ⟨g24, 0, none⟩)].toArray].toArray w fun e w' => ∃ (A1031 : Option Addr) (c1032 : Nat) (G' : Gh), G ≤ G' ∧ Hp G' (tk (slice A1031 r1030.length c1032) 4 46 :: bx g2 [string a3, slice A5 a4.length c6, func (.func 70) [].toArray [pointer (some ⟨g10, 0, none⟩), pointer (some ⟨g21, 0, none⟩)].toArray] 79 :: bx g10 [slice A12 a11.Glyphs.length c13, slice A16 a11.Kerns.length c17] 25 :: bx g21 [int .i64 a22] 3 :: bx g24 [slice A26 a25.length c27] 44 :: L) w' ∧ r1030.length ≤ c1032 ∧ Dat k_api_Line G' A1031 r1030 ∧ Own A1031 c1032 ∧ e = .returned (slice A1031 r1030.length c1032) := by
 refine calls_intro_m (N := 13) Tryz.func71 z z (Nat.le_of_ble_eq_true z)<|?_
 unfold slices_AppendSeq_api_Line_k2 at H
 refine sr fun K30 hK31=>bxk hI z z fun g33 wd34 hI35=>asn z<|nl<|hK31 _ _ _<|sQ fun K36 hK37=>sr fun K38 hK39=>mv z<|nl<|hK39 _ _ _<|wb<|have hI40:=Hp.emp hI35;have hI62:=Hp.pick 6 [2, 3, 4, 5, 1, 0] hI40 z;bK2 H fun v43 jo65 hr109 H=>?_
 refine wpc_range hI62 bo72 z fun fn tmps gl gd42 wd133 hA106 hI107=>?_
 have hY108 : Yl Tryz.prog (rnd (fun (u : (List api_Line)) (x : api_Line) => slices_AppendSeq_api_Line_k2_r63 u x)) (encS k_api_Line) _ gl := yl_intro (pp := [7]) (gdd := gd42) hI107 (fun (u : (List api_Line)) (x : api_Line) => slices_AppendSeq_api_Line_k2_r63 u x) [] (fun (u : (List api_Line)) (G' : Gh) (K : List Itm) => ∃ (A44 : Option Addr) (c45 : Nat) (_ : G ≤ G'), K = bx g33 [slice A44 u.length c45] 41 :: tk (slice A44 u.length c45) 4 46 :: (List.map mkI (gd42 :: ([] : List Nat)) ++ L) ∧ u.length ≤ c45 ∧ Dat k_api_Line G' A44 u ∧ Own A44 c45 ∧ True) hA106 (fun _ _ _ h => (fun h => encS_len h) h) (fun hG' ⟨A44, c45, h0', hK', hl46, hD47, ho48, _⟩ => ⟨A44, c45, gT h0' hG', hK', hl46, (Dat.mono hG' hD47), ho48, tv⟩) (by
 rintro Rd Bs v43 u' x71 jo' G67 K M wd69 vs ⟨A44, c45, hG68, rfl, hl46, hD47, ho48, _⟩ ⟨_, rfl, hK72⟩ H hI73
 obtain ⟨rfl⟩ := open_api_Line hK72
 replace H : slices_AppendSeq_api_Line_k2_r63 v43 x71 = some (u', jo') := H
 unfold slices_AppendSeq_api_Line_k2_r63 at H
 refine wpc_region<|q_alloc hI73 ze46 fun g75 wd76 hI77=>stk hI77 0 ag46 z z z z z z z fun wd78 hI79=>nl<|have hI85:=Hp.pick 4 [1, 0, 2, 3] hI79 z;?_
 refine ⟨rfl, rfl, _, _, gR, hI85, fun wd81 hI80 => ?_⟩
 refine wb<|wpc_region<|ld hI80 2 ag41 z z z<|lda hI80 1 ag46 z z z z<|?_
 refine q_bs hI80 (vs := [(0, agg [int .i64 x71.From, int .i64 x71.Until, int .i64 x71.Width, bool x71.Hyphen].toArray)]) (cs := [int .i64 x71.From, int .i64 x71.Until, int .i64 x71.Width, bool x71.Hyphen]) el41 ze46 rfl (by decide) rfl rfl (fun g87 wd88 hI89 => ?_)
 refine iK H fun h99 H=>?_
 refine q_app (xs := v43) (ys := [x71]) k_api_Line hI89 4 el41 ze46 rfl rfl rfl rfl ho48 hl46 hD47 (src_bx hI89 0 so41 rfl rfl) ⟨[int .i64 x71.From, int .i64 x71.Until, int .i64 x71.Width, bool x71.Hyphen], _, rfl, (mk_api_Line (x := x71)), rfl⟩ rfl (by simp only [List.length_cons, List.length_nil]; omega) (by simp only [List.length_cons, List.length_nil]; omega) (fun A90 c91 G92 wd93 hG94 ho95 hl96 hD97 hI98 => ?_)
 refine stk hI98 3 ag41 z z z z z z z fun wd100 hI101=>nl<|have hI105:=Hp.pick 5 [1, 3, 4] hI101 z;?_
 cases H
 exact ⟨z, _, _, hG94, ⟨A90, c91, (gT hG68 hG94), z, hl96, hD97, ho95, tv⟩, hI105⟩)
 refine have hI134:=Hp.sink (A := [bx g2 [string a3, slice A5 a4.length c6, func (.func 70) [].toArray [pointer (some ⟨g10, 0, none⟩), pointer (some ⟨g21, 0, none⟩)].toArray] 79, bx g10 [slice A12 a11.Glyphs.length c13, slice A16 a11.Kerns.length c17] 25, bx g21 [int .i64 a22] 3, bx g24 [slice A26 a25.length c27] 44]) (K := [bx g33 [slice none 0 0] 41, tk (slice none 0 0) 4 46]) hI107;(inline_setter_lines_1_k1_spec (sy := (([] : List api_Line), none)) hr109 hI134 hl7 hD8 hl14 hD15 hl18 hD19 hl28 hD29 hY108 ⟨_, z, none, 0, Gh.le_refl _, z, (show ([] : List api_Line).length ≤ 0 from Nat.le_refl 0), (Dat.nil _ _ _), Own.nil, tv⟩ (hgl.mono gR)).mono<|?_
 rintro _ wd112 ⟨T116, G110, hG1110, hI113, ⟨K, rfl, A44, c45, hG111, rfl, hl46, hD47, ho48, _⟩, rfl⟩
 refine have hH118:=Hp.front hI113 4 z;?_
 rcases jo65 with _ | j
 refine ⟨_, rfl, LoopState.ready, none, G110, _, (fun h => nomatch h), hH118, fun wd114 hI115 => ?_⟩
 refine hK37 _ _ _<|sr fun K123 hK124=>ld hI115 4 ag41 z z z<|asn z<|nl<|hK124 _ _ _<|wr<|?_
 refine ⟨.inr rfl, (gd42 :: ([] : List Nat)), _, _, rfl, Hp.marks (K := [bx g2 [string a3, slice A5 a4.length c6, func (.func 70) [].toArray [pointer (some ⟨g10, 0, none⟩), pointer (some ⟨g21, 0, none⟩)].toArray] 79, bx g10 [slice A12 a11.Glyphs.length c13, slice A16 a11.Kerns.length c17] 25, bx g21 [int .i64 a22] 3, bx g24 [slice A26 a25.length c27] 44, bx g33 [slice A44 v43.length c45] 41, tk (slice A44 v43.length c45) 4 46]) hI115, fun wd126 hI125 => ?_⟩
 refine have hI132:=Hp.pick 6 [5, 0, 1, 2, 3] hI125 z;?_
 cases H
 exact ⟨_, ⟨_, _, z, z, z⟩, A44, c45, _, hG111, hI132, hl46, hD47, ho48, z⟩
 cases H
theorem slices_Collect_api_Line_k1_spec {a3 a4 a11 a22 a25 g2 A5 c6 g10 A12 c13 A16 c17 g21 g24 A26 c27 r1030 G L w} (H : slices_Collect_api_Line_k1 a3 a4 a11 a22 a25 = some r1030) (hI : Hp G (bx g2 [string a3, slice A5 a4.length c6, func (.func 70) [].toArray [pointer (some ⟨g10, 0, none⟩), pointer (some ⟨g21, 0, none⟩)].toArray] 79 :: bx g10 [slice A12 a11.Glyphs.length c13, slice A16 a11.Kerns.length c17] 25 :: bx g21 [int .i64 a22] 3 :: bx g24 [slice A26 a25.length c27] 44 :: L) w) (hl7 : a4.length ≤ c6) (hD8 : Dat k_api_Break G A5 a4) (hl14 : a11.Glyphs.length ≤ c13) (hD15 : Dat k_api_Glyph G A12 a11.Glyphs) (hl18 : a11.Kerns.length ≤ c17) (hD19 : Dat k_api_Kern G A16 a11.Kerns) (hl28 : a25.length ≤ c27) (hD29 : Dat (Kd.int .i64) G A26 a25) (hgl : Gl G) :
    Calls Tryz.prog 36 [func (.func 72) [].toArray [pointer (some ⟨g2, 0, none⟩), pointer (some ⟨g24, 0, none⟩)].toArray].toArray w fun e w' => ∃ (A1031 : Option Addr) (c1032 : Nat) (G' : Gh), G ≤ G' ∧ Hp G' (tk (slice A1031 r1030.length c1032) 4 46 :: bx g2 [string a3, slice A5 a4.length c6, func (.func 70) [].toArray [pointer (some ⟨g10, 0, none⟩), pointer (some ⟨g21, 0, none⟩)].toArray] 79 :: bx g10 [slice A12 a11.Glyphs.length c13, slice A16 a11.Kerns.length c17] 25 :: bx g21 [int .i64 a22] 3 :: bx g24 [slice A26 a25.length c27] 44 :: L) w' ∧ r1030.length ≤ c1032 ∧ Dat k_api_Line G' A1031 r1030 ∧ Own A1031 c1032 ∧ e = .returned (slice A1031 r1030.length c1032) := by
 refine calls_intro (N := 5) Tryz.func36 z z (Nat.le_of_ble_eq_true z)<|?_
 unfold slices_Collect_api_Line_k1 at H
 refine sr fun K30 hK31=>asn z<|nl<|hK31 _ _ _<|sr fun K32 hK33=>mv z<|bK H fun y39 hy34 H=>q_cv (vs := [slice none 0 0, func (.func 72) [].toArray [pointer (some ⟨g2, 0, none⟩), pointer (some ⟨g24, 0, none⟩)].toArray]) bo71 z z (slices_AppendSeq_api_Line_k2_spec hy34 hI hl7 hD8 hl14 hD15 hl18 hD19 hl28 hD29 (hgl.mono gR))<|?_
 rintro _ wd37 ⟨A40, c41, G35, hG36, hI38, hl42, hD43, ho44, rfl⟩
 refine ⟨_, rfl, ?_⟩
 refine asn z<|nl<|hK33 _ _ _<|wr<|?_
 cases H
 exact ⟨.inr z, z, _, ⟨_, _, z, z, z⟩, A40, c41, _, hG36, hI38, hl42, hD43, ho44, z⟩
theorem inline_Lines_spec {a1 a10 a15 a16 a17 A2 c3 A6 c7 A11 c12 A18 c19 r1022 r1029 G L w} (H : inline_Lines a1 a10 a15 a16 a17 = some (r1022, r1029)) (hI : Hp G L w) (hl4 : a1.Glyphs.length ≤ c3) (hD5 : Dat k_api_Glyph G A2 a1.Glyphs) (hl8 : a1.Kerns.length ≤ c7) (hD9 : Dat k_api_Kern G A6 a1.Kerns) (hl13 : a10.Keep.length ≤ c12) (hD14 : Dat Kd.str G A11 a10.Keep) (hl20 : a17.length ≤ c19) (hD21 : Dat (Kd.int .i64) G A18 a17) (hgl : Gl G) :
    Calls Tryz.prog 16 [agg [slice A2 a1.Glyphs.length c3, slice A6 a1.Kerns.length c7].toArray, agg [int .i64 a10.Before, int .i64 a10.Behind, slice A11 a10.Keep.length c12].toArray, string a15, int .i64 a16, slice A18 a17.length c19].toArray w fun e w' => ∃ (A1023 : Option Addr) (c1024 : Nat) (G' : Gh), G ≤ G' ∧ Hp G' (tk (slice A1023 r1022.length c1024) 4 46 :: L) w' ∧ r1022.length ≤ c1024 ∧ Dat k_api_Line G' A1023 r1022 ∧ Own A1023 c1024 ∧ e = .returned (tuple [slice A1023 r1022.length c1024, int .i64 r1029].toArray) := by
 refine calls_intro (N := 38) Tryz.func16 z z (Nat.le_of_ble_eq_true z)<|?_
 unfold inline_Lines at H
 refine sr fun K22 hK23=>bxk hI z z fun g25 wd26 hI27=>bxk hI27 z z fun g29 wd30 hI31=>asn z<|asn z<|nl<|hK23 _ _ _<|sr fun K32 hK33=>asn z<|nl<|hK33 _ _ _<|sQ fun K34 hK35=>sr fun K36 hK37=>mv z<|?_
 refine q_len so44 z<|q_eql z z<|mv z<|bK H fun v38 hC H=>js 4 hI31 [(2, string a15), (3, int .i64 a16), (4, slice A18 a17.length c19), (5, pointer (some ⟨g25, 0, none⟩)), (6, pointer (some ⟨g29, 0, none⟩)), (22, bool v38)] ?_ fun _ wd41 hI42=>?_
 refine have H:=hC;dC ((a17.length : Int) = 0) (fun h44=>?_) fun h44=>?_
 refine yK h44 H fun H=>Sk 3 z z (bY h44) z<|pkt (bY h44) z<|nl<|?_
 cases H
 exact je ⟨z, z, z, z, z, z, tv⟩ hI31
 refine nK h44 H fun H=>mv (hw:=gY z z z (bN h44)) z<|mv (hw:=gY z z z (bN h44)) z<|bK H fun y50 hy45 H=>cv (hw:=gY z z z (bN h44)) bo34 (slices_ContainsFunc_int_k1_spec hy45 hI31 hl20 hD21) z z fun wd48 hI49=>pkf (bN h44) z<|nl<|?_
 cases H
 exact je ⟨z, z, z, z, z, z, tv⟩ hI49
 refine nl<|hK37 _ _ _<|dC (v38 = true) (fun h51=>?_) fun h51=>?_
 refine yK h51 H fun H=>wt (vY h51)<|sr fun K52 hK53=>asn z<|asn z<|nl<|hK53 _ _ _<|wr<|have hI54:=Hp.emp hI42;have hI56:=Hp.pick 3 [0] hI54 z;?_
 cases H
 exact ⟨.inr z, z, _, ⟨_, _, z, z, ⟨_, _, z, z, z⟩⟩, none, 0, _, gR, hI56, (show ([] : List api_Line).length ≤ 0 from Nat.le_refl 0), (Dat.nil _ _ _), Own.nil, z⟩
 refine nK h51 H fun H=>wf (vN h51)<|ws<|hK35 _ _ _<|sr fun K57 hK58=>lda hI42 1 ag25 z z z z<|lda hI42 0 ag28 z z z z<|mv z<|mv z<|bK H fun o60 hy59 H=>?_
 rcases o60 with ⟨y65, y66⟩ | ⟨y92, y93⟩ | ⟨y119, y120, y129, y140⟩
 refine q_cv (vs := [agg [slice A2 a1.Glyphs.length c3, slice A6 a1.Kerns.length c7].toArray, agg [int .i64 a10.Before, int .i64 a10.Behind, slice A11 a10.Keep.length c12].toArray, string a15, int .i64 a16]) bo35 z z (inline_prepare_spec hy59 hI42 hl4 hD5 hl8 hD9 hl13 hD14)<|?_
 rintro _ wd63 ⟨A67, c68, G61, hG62, hI64, hl69, hD70, ho71, rfl⟩
 refine ⟨_, rfl, ?_⟩
 refine mv z<|exk z z<|exk z z<|q_alloc hI64 ze79 fun g74 wd75 hI76=>stk hI76 0 ag79 z z z z z z z fun wd77 hI78=>asn z<|nl<|hK58 _ _ _<|sQ fun K79 hK80=>sr fun K81 hK82=>mv z<|q_neq z z<|nl<|hK82 _ _ _<|?_
 refine wpc_true (bool_yes (p := ¬ (1 : Int) = 0) (by decide)) ?_
 refine sr fun K83 hK84=>mv z<|asn z<|asn z<|nl<|hK84 _ _ _<|wr<|have hI85:=Hp.emp hI78;have hI87:=Hp.pick 5 [0] hI85 z;?_
 cases H
 exact ⟨.inr z, z, _, ⟨_, _, z, z, ⟨_, _, z, z, z⟩⟩, none, 0, _, hG62, hI87, (show ([] : List api_Line).length ≤ 0 from Nat.le_refl 0), (Dat.nil _ _ _), Own.nil, z⟩
 refine q_cv (vs := [agg [slice A2 a1.Glyphs.length c3, slice A6 a1.Kerns.length c7].toArray, agg [int .i64 a10.Before, int .i64 a10.Behind, slice A11 a10.Keep.length c12].toArray, string a15, int .i64 a16]) bo35 z z (inline_prepare_spec hy59 hI42 hl4 hD5 hl8 hD9 hl13 hD14)<|?_
 rintro _ wd90 ⟨A94, c95, G88, hG89, hI91, hl96, hD97, ho98, rfl⟩
 refine ⟨_, rfl, ?_⟩
 refine mv z<|exk z z<|exk z z<|q_alloc hI91 ze79 fun g101 wd102 hI103=>stk hI103 0 ag79 z z z z z z z fun wd104 hI105=>asn z<|nl<|hK58 _ _ _<|sQ fun K106 hK107=>sr fun K108 hK109=>mv z<|q_neq z z<|nl<|hK109 _ _ _<|?_
 refine wpc_true (bool_yes (p := ¬ (20 : Int) = 0) (by decide)) ?_
 refine sr fun K110 hK111=>mv z<|asn z<|asn z<|nl<|hK111 _ _ _<|wr<|have hI112:=Hp.emp hI105;have hI114:=Hp.pick 5 [0] hI112 z;?_
 cases H
 exact ⟨.inr z, z, _, ⟨_, _, z, z, ⟨_, _, z, z, z⟩⟩, none, 0, _, hG89, hI114, (show ([] : List api_Line).length ≤ 0 from Nat.le_refl 0), (Dat.nil _ _ _), Own.nil, z⟩
 refine q_cv (vs := [agg [slice A2 a1.Glyphs.length c3, slice A6 a1.Kerns.length c7].toArray, agg [int .i64 a10.Before, int .i64 a10.Behind, slice A11 a10.Keep.length c12].toArray, string a15, int .i64 a16]) bo35 z z (inline_prepare_spec hy59 hI42 hl4 hD5 hl8 hD9 hl13 hD14)<|?_
 rintro _ wd117 ⟨A121, c122, g128, A130, c131, A134, c135, g139, G115, hG116, hI118, hl123, hD124, ho125, hl132, hD133, hl136, hD137, rfl⟩
 refine ⟨_, rfl, ?_⟩
 refine mv z<|exk z z<|exk z z<|q_alloc hI118 ze79 fun g142 wd143 hI144=>stk hI144 0 ag79 z z z z z z z fun wd145 hI146=>asn z<|nl<|hK58 _ _ _<|sQ fun K147 hK148=>sr fun K149 hK150=>mv z<|q_neq z z<|nl<|hK150 _ _ _<|?_
 refine wpc_false (bool_no (p := ¬ (0 : Int) = 0) (by decide)) ?_
 refine ws<|hK148 _ _ _<|sr fun K151 hK152=>lda hI146 0 ag79 z z z z<|mv z<|have hI158:=Hp.pick 6 [2, 3, 0, 1, 4, 5] hI146 z;bK3 H fun y166 y167 y174 hy159 H=>q_cv (vs := [agg [string y119, slice A121 y120.length c122, func (.func 70) [].toArray [pointer (some ⟨g128, 0, none⟩), pointer (some ⟨g139, 0, none⟩)].toArray].toArray, slice A18 a17.length c19]) bo37 z z (inline_setter_lines_k1_spec hy159 hI158 hl123 hD124 hl132 hD133 hl136 hD137 hl20 (Dat.mono hG116 hD21))<|?_
 rintro _ wd162 ⟨g165, A168, c169, g173, A175, c176, G160, hG161, hI163, hl170, hD171, hl177, hD178, rfl⟩
 refine ⟨_, rfl, ?_⟩
 refine have hI186:=Hp.pick 8 [0, 2, 3, 1, 4, 5, 6, 7] hI163 z;bK H fun y192 hy187 H=>q_cv (vs := [func (.func 72) [].toArray [pointer (some ⟨g165, 0, none⟩), pointer (some ⟨g173, 0, none⟩)].toArray]) bo36 z z (slices_Collect_api_Line_k1_spec hy187 hI186 hl170 hD171 hl132 (Dat.mono hG161 hD133) hl136 (Dat.mono hG161 hD137) hl177 hD178 (hgl.mono (gT hG116 hG161)))<|?_
 rintro _ wd190 ⟨A193, c194, G188, hG189, hI191, hl195, hD196, ho197, rfl⟩
 refine ⟨_, rfl, ?_⟩
 refine asn z<|asn z<|nl<|hK152 _ _ _<|wr<|have hI199:=Hp.pick 9 [0] hI191 z;?_
 cases H
 exact ⟨.inr z, z, _, ⟨_, _, z, z, ⟨_, _, z, z, z⟩⟩, A193, c194, _, (gT (gT hG116 hG161) hG189), hI199, hl195, hD196, ho197, z⟩
theorem floats_within_spec {a1 a2 r1003 G L w} (H : floats_within a1 a2 = some r1003) (hI : Hp G L w) :
    Calls Tryz.prog 44 [int .i64 a1, int .i64 a2].toArray w fun e w' => Hp G L w' ∧ e = .returned (bool r1003) := by
 refine calls_intro (N := 12) Tryz.func44 z z (Nat.le_of_ble_eq_true z)<|?_
 unfold floats_within at H
 refine sr fun K3 hK4=>asn z<|nl<|hK4 _ _ _<|sr fun K5 hK6=>mv z<|q_leq z z<|mv z<|bK H fun v7 hC H=>js 4 hI [(11, bool v7)] ?_ fun _ wd10 hI11=>?_
 refine have H:=hC;dC (0 ≤ a1) (fun h13=>?_) fun h13=>?_
 refine yK h13 H fun H=>mv (hw:=gY z z z (bY h13)) z<|mv (hw:=gY z z z (bY h13)) z<|q_leq (hw:=gY z z z (bY h13)) z z<|pkt (bY h13) z<|nl<|?_
 cases H
 exact je ⟨z, tv⟩ hI
 refine nK h13 H fun H=>Sk 3 z z (bN h13) z<|pkf (bN h13) z<|nl<|?_
 cases H
 exact je ⟨z, tv⟩ hI
 refine asn z<|nl<|hK6 _ _ _<|wr<|?_
 cases H
 exact rt ⟨_, _, z, z, z⟩ hI11
theorem floats_wrong_spec {a1 r1002 G L w} (H : floats_wrong a1 = some r1002) (hI : Hp G L w) :
    Calls Tryz.prog 83 [agg [int .i64 a1.Side, int .i64 a1.X, int .i64 a1.Y, int .i64 a1.W, int .i64 a1.H].toArray].toArray w fun e w' => Hp G L w' ∧ e = .returned (bool r1002) := by
 refine calls_intro (N := 35) Tryz.func83 z z (Nat.le_of_ble_eq_true z)<|?_
 unfold floats_wrong at H
 refine sr fun K2 hK3=>bxk hI z z fun g5 wd6 hI7=>asn z<|nl<|hK3 _ _ _<|sr fun K8 hK9=>fa fl57_0 z<|ld hI7 0 ag3 z z z<|q_neq z z<|mv z<|bK H fun v10 hC H=>js 4 hI7 [(1, pointer (some ⟨g5, 0, none⟩)), (10, bool v10)] ?_ fun _ wd13 hI14=>?_
 refine have H:=hC;dC (¬ a1.Side = 1) (fun h16=>?_) fun h16=>?_
 refine yK h16 H fun H=>fa (hw:=gY z z z (bY h16)) fl57_0 z<|ld (hw:=gY z z z (bY h16)) hI7 0 ag3 z z z<|q_neq (hw:=gY z z z (bY h16)) z z<|pkt (bY h16) z<|nl<|?_
 cases H
 exact je ⟨z, z, tv⟩ hI7
 refine nK h16 H fun H=>Sk 3 z z (bN h16) z<|pkf (bN h16) z<|nl<|?_
 cases H
 exact je ⟨z, z, tv⟩ hI7
 refine mv z<|bK H fun v17 hC H=>js 5 hI14 [(1, pointer (some ⟨g5, 0, none⟩)), (16, bool v17)] ?_ fun _ wd20 hI21=>?_
 refine have H:=hC;dC (v10 = true) (fun h23=>?_) fun h23=>?_
 refine yK h23 H fun H=>Sk 4 z z (vY h23) z<|pkt (vY h23) z<|nl<|?_
 cases H
 exact je ⟨z, z, tv⟩ hI14
 refine nK h23 H fun H=>fa (hw:=gY z z z (vN h23)) fl57_1 z<|ld (hw:=gY z z z (vN h23)) hI14 0 ag3 z z z<|bK H fun y29 hy24 H=>cv (hw:=gY z z z (vN h23)) bo44 (floats_within_spec hy24 hI14) z z fun wd27 hI28=>q_not (hw:=gY z z z (vN h23)) z<|pkf (vN h23) z<|nl<|?_
 cases H
 exact je ⟨z, z, tv⟩ hI28
 refine mv z<|bK H fun v30 hC H=>js 5 hI21 [(1, pointer (some ⟨g5, 0, none⟩)), (22, bool v30)] ?_ fun _ wd33 hI34=>?_
 refine have H:=hC;dC (v17 = true) (fun h36=>?_) fun h36=>?_
 refine yK h36 H fun H=>Sk 4 z z (vY h36) z<|pkt (vY h36) z<|nl<|?_
 cases H
 exact je ⟨z, z, tv⟩ hI21
 refine nK h36 H fun H=>fa (hw:=gY z z z (vN h36)) fl57_3 z<|ld (hw:=gY z z z (vN h36)) hI21 0 ag3 z z z<|bK H fun y42 hy37 H=>cv (hw:=gY z z z (vN h36)) bo44 (floats_within_spec hy37 hI21) z z fun wd40 hI41=>q_not (hw:=gY z z z (vN h36)) z<|pkf (vN h36) z<|nl<|?_
 cases H
 exact je ⟨z, z, tv⟩ hI41
 refine mv z<|bK H fun v43 hC H=>js 5 hI34 [(1, pointer (some ⟨g5, 0, none⟩)), (28, bool v43)] ?_ fun _ wd46 hI47=>?_
 refine have H:=hC;dC (v30 = true) (fun h49=>?_) fun h49=>?_
 refine yK h49 H fun H=>Sk 4 z z (vY h49) z<|pkt (vY h49) z<|nl<|?_
 cases H
 exact je ⟨z, z, tv⟩ hI34
 refine nK h49 H fun H=>fa (hw:=gY z z z (vN h49)) fl57_4 z<|ld (hw:=gY z z z (vN h49)) hI34 0 ag3 z z z<|bK H fun y55 hy50 H=>cv (hw:=gY z z z (vN h49)) bo44 (floats_within_spec hy50 hI34) z z fun wd53 hI54=>q_not (hw:=gY z z z (vN h49)) z<|pkf (vN h49) z<|nl<|?_
 cases H
 exact je ⟨z, z, tv⟩ hI54
 refine mv z<|bK H fun v56 hC H=>js 5 hI47 [(34, bool v56)] ?_ fun _ wd59 hI60=>?_
 refine have H:=hC;dC (v43 = true) (fun h62=>?_) fun h62=>?_
 refine yK h62 H fun H=>Sk 4 z z (vY h62) z<|pkt (vY h62) z<|nl<|?_
 cases H
 exact je ⟨z, tv⟩ hI47
 refine nK h62 H fun H=>fa (hw:=gY z z z (vN h62)) fl57_2 z<|ld (hw:=gY z z z (vN h62)) hI47 0 ag3 z z z<|bK H fun y68 hy63 H=>cv (hw:=gY z z z (vN h62)) bo44 (floats_within_spec hy63 hI47) z z fun wd66 hI67=>q_not (hw:=gY z z z (vN h62)) z<|pkf (vN h62) z<|nl<|?_
 cases H
 exact je ⟨z, tv⟩ hI67
 refine asn z<|nl<|hK9 _ _ _<|wr<|have hI69:=Hp.pick 1 [] hI60 z;?_
 cases H
 exact rt ⟨_, _, z, z, z⟩ hI69
theorem slices_IndexFunc_api_Float_k1_spec {a1 A2 c3 r1006 G L w} (H : slices_IndexFunc_api_Float_k1 a1 = some r1006) (hI : Hp G L w) (hl4 : a1.length ≤ c3) (hD5 : Dat k_api_Float G A2 a1) :
    Calls Tryz.prog 118 [slice A2 a1.length c3, func (.func 83) [].toArray [].toArray].toArray w fun e w' => Hp G L w' ∧ e = .returned (int .i64 r1006) := by
 refine calls_intro (N := 19) Tryz.func118 z z (Nat.le_of_ble_eq_true z)<|?_
 unfold slices_IndexFunc_api_Float_k1 at H
 refine sr fun K6 hK7=>asn z<|nl<|hK7 _ _ _<|sQ fun K8 hK9=>sr fun K10 hK11=>mv z<|q_len so31 z<|mv z<|nl<|hK11 _ _ _<|wb<|bK H fun o32 hC H=>wpc_mono (Q := fun e r ds w => match (generalizing := false) o32 with | (Sum.inl v23) => e = .ret ∧ ds = [] ∧ Has [(4, int .i64 v23)] r ∧ Hp G (L) w ∧ True | (Sum.inr _) => e = .exit 0 ∧ ds = [] ∧ Has [] r ∧ Hp G (L) w ∧ True) ?_ ?_
 refine wpc_loop fun I hLp=>?_
 refine slices_IndexFunc_api_Float_k1_l22.partial_correctness a1 (fun v16 o => ∀ (r : Rg) (w : World), Has [(0, slice A2 a1.length c3), (1, func (.func 83) [].toArray [].toArray), (7, int .i64 (a1.length : Int)), (8, int .i64 v16)] r → Hp G (L) w → o = o32 → I r [] w) ?_ 0 _ hC _ _ ⟨rfl, rfl, rfl, rfl, tv⟩ hI rfl
 intro _ ih v16 o H r wd35 hHas hI36 ho
 rw [ho] at H; clear ho
 rw [hHas.eq]; clear hHas
 refine hLp _ _ _<|sr fun K37 hK38=>q_lss z z<|nl<|hK38 _ _ _<|sQ fun K39 hK40=>dC (v16 < (a1.length : Int)) (fun h41=>?_) fun h41=>?_
 refine yK h41 H fun H=>wt (bY h41)<|ws<|hK40 _ _ _<|sQ fun K42 hK43=>wb<|sr fun K44 hK45=>mv z<|asn z<|nl<|hK45 _ _ _<|sr fun K46 hK47=>mv z<|mv z<|?_
 refine mv z<|iK H fun⟨h48, h48'⟩H=>?_
 obtain ⟨ad49, cs50, hA51, hK52, hn53, hc54⟩ := Dat.get hD5 z_api_Float (v16) h48 h48'
 obtain ⟨rfl⟩ := open_api_Float hK52
 refine q_ia el31 z hA51 z h48 h48'<|q_lfA hI36 ag57 z (cs := [int .i64 ((a1.getD (Int.toNat v16) z_api_Float).Side), int .i64 ((a1.getD (Int.toNat v16) z_api_Float).X), int .i64 ((a1.getD (Int.toNat v16) z_api_Float).Y), int .i64 ((a1.getD (Int.toNat v16) z_api_Float).W), int .i64 ((a1.getD (Int.toNat v16) z_api_Float).H)]) z (fun j v hv => gR.cel _ _ (hc54 j v hv))<|bK H fun y60 hy55 H=>cv bo83 (floats_wrong_spec (a1 := (a1.getD (Int.toNat v16) z_api_Float)) hy55 hI36) z z fun wd58 hI59=>nl<|hK47 _ _ _<|dC (y60 = true) (fun h61=>?_) fun h61=>?_
 refine yK h61 H fun H=>wt (vY h61)<|sr fun K62 hK63=>mv z<|asn z<|nl<|hK63 _ _ _<|wr<|?_
 cases H
 exact ⟨z, z, ⟨z, tv⟩, hI59, tv⟩
 exact nK h61 H fun H=>wf (vN h61)<|ws<|hK43 _ _ _<|wpc_region<|q_add z z<|mv z<|nl<|ih _ _ H _ _ ⟨z, z, z, z, tv⟩ hI59 z
 refine nK h41 H fun H=>wf (bN h41)<|wx<|?_
 cases H
 exact ⟨z, z, trivial, hI36, tv⟩
 rcases o32 with v23 | _
 rintro e r ds wd26 ⟨rfl, rfl, hHas, hI27, _⟩
 rw [hHas.eq]; clear hHas
 cases H
 exact rt ⟨_, _, z, z, z⟩ hI27
 rintro e r ds wd30 ⟨rfl, rfl, hHas, hI31, _⟩
 rw [hHas.eq]; clear hHas
 refine hK9 _ _ _<|sr fun K64 hK65=>asn z<|nl<|hK65 _ _ _<|wr<|?_
 cases H
 exact rt ⟨_, _, z, z, z⟩ hI31
theorem slices_ContainsFunc_api_Float_k1_spec {a1 A2 c3 r1006 G L w} (H : slices_ContainsFunc_api_Float_k1 a1 = some r1006) (hI : Hp G L w) (hl4 : a1.length ≤ c3) (hD5 : Dat k_api_Float G A2 a1) :
    Calls Tryz.prog 82 [slice A2 a1.length c3, func (.func 83) [].toArray [].toArray].toArray w fun e w' => Hp G L w' ∧ e = .returned (bool r1006) := by
 refine calls_intro (N := 9) Tryz.func82 z z (Nat.le_of_ble_eq_true z)<|?_
 unfold slices_ContainsFunc_api_Float_k1 at H
 refine sr fun K6 hK7=>asn z<|nl<|hK7 _ _ _<|sr fun K8 hK9=>mv z<|mv z<|bK H fun y15 hy10 H=>cv bo118 (slices_IndexFunc_api_Float_k1_spec hy10 hI hl4 hD5) z z fun wd13 hI14=>q_geq z z<|asn z<|nl<|hK9 _ _ _<|wr<|?_
 cases H
 exact rt ⟨_, _, z, z, z⟩ hI14
theorem floats_Valid_spec {a1 a6 A2 c3 r1007 G L w} (H : floats_Valid a1 a6 = some r1007) (hI : Hp G L w) (hl4 : a1.length ≤ c3) (hD5 : Dat k_api_Float G A2 a1) :
    Calls Tryz.prog 43 [slice A2 a1.length c3, int .i64 a6].toArray w fun e w' => Hp G L w' ∧ e = .returned (bool r1007) := by
 refine calls_intro (N := 17) Tryz.func43 z z (Nat.le_of_ble_eq_true z)<|?_
 unfold floats_Valid at H
 refine sr fun K7 hK8=>asn z<|nl<|hK8 _ _ _<|sr fun K9 hK10=>mv z<|bK H fun y16 hy11 H=>cv bo44 (floats_within_spec hy11 hI) z z fun wd14 hI15=>mv z<|bK H fun v17 hC H=>js 4 hI15 [(0, slice A2 a1.length c3), (11, bool v17)] ?_ fun _ wd20 hI21=>?_
 refine have H:=hC;dC (y16 = true) (fun h23=>?_) fun h23=>?_
 refine yK h23 H fun H=>mv (hw:=gY z z z (vY h23)) z<|q_len (hw:=gY z z z (vY h23)) so31 z<|q_leq (hw:=gY z z z (vY h23)) z z<|pkt (vY h23) z<|nl<|?_
 cases H
 exact je ⟨z, z, tv⟩ hI15
 refine nK h23 H fun H=>Sk 3 z z (vN h23) z<|pkf (vN h23) z<|nl<|?_
 cases H
 exact je ⟨z, z, tv⟩ hI15
 refine mv z<|bK H fun v24 hC H=>js 4 hI21 [(16, bool v24)] ?_ fun _ wd27 hI28=>?_
 refine have H:=hC;dC (v17 = true) (fun h30=>?_) fun h30=>?_
 refine yK h30 H fun H=>mv (hw:=gY z z z (vY h30)) z<|bK H fun y36 hy31 H=>cv (hw:=gY z z z (vY h30)) bo82 (slices_ContainsFunc_api_Float_k1_spec hy31 hI21 hl4 hD5) z z fun wd34 hI35=>q_not (hw:=gY z z z (vY h30)) z<|pkt (vY h30) z<|nl<|?_
 cases H
 exact je ⟨z, tv⟩ hI35
 refine nK h30 H fun H=>Sk 3 z z (vN h30) z<|pkf (vN h30) z<|nl<|?_
 cases H
 exact je ⟨z, tv⟩ hI21
 refine asn z<|nl<|hK10 _ _ _<|wr<|?_
 cases H
 exact rt ⟨_, _, z, z, z⟩ hI28
theorem inline_Next_spec {a1 a10 a15 a16 a17 a18 A2 c3 A6 c7 A11 c12 r1019 r1020 G L w} (H : inline_Next a1 a10 a15 a16 a17 a18 = some (r1019, r1020)) (hI : Hp G L w) (hl4 : a1.Glyphs.length ≤ c3) (hD5 : Dat k_api_Glyph G A2 a1.Glyphs) (hl8 : a1.Kerns.length ≤ c7) (hD9 : Dat k_api_Kern G A6 a1.Kerns) (hl13 : a10.Keep.length ≤ c12) (hD14 : Dat Kd.str G A11 a10.Keep) (hgl : Gl G) :
    Calls Tryz.prog 85 [agg [slice A2 a1.Glyphs.length c3, slice A6 a1.Kerns.length c7].toArray, agg [int .i64 a10.Before, int .i64 a10.Behind, slice A11 a10.Keep.length c12].toArray, string a15, int .i64 a16, int .i64 a17, int .i64 a18].toArray w fun e w' => Hp G L w' ∧ e = .returned (tuple [agg [int .i64 r1019.From, int .i64 r1019.Until, int .i64 r1019.Width, bool r1019.Hyphen].toArray, int .i64 r1020].toArray) := by
 refine calls_intro (N := 44) Tryz.func85 z z (Nat.le_of_ble_eq_true z)<|?_
 unfold inline_Next at H
 refine sr fun K19 hK20=>bxk hI z z fun g22 wd23 hI24=>bxk hI24 z z fun g26 wd27 hI28=>q_alloc hI28 ze46 fun g30 wd31 hI32=>asn z<|nl<|hK20 _ _ _<|sQ fun K33 hK34=>sr fun K35 hK36=>mv z<|mv z<|q_lens so9 z<|q_sub z z<|bK H fun y42 hy37 H=>?_
 refine cv bo33 (inline_within_int_spec hy37 hI32) z z fun wd40 hI41=>q_not z<|mv z<|bK H fun v43 hC H=>js 4 hI41 [(2, string a15), (3, int .i64 a16), (4, int .i64 a17), (5, int .i64 a18), (6, pointer (some ⟨g22, 0, none⟩)), (7, pointer (some ⟨g26, 0, none⟩)), (12, pointer (some ⟨g30, 0, none⟩)), (26, bool v43)] ?_ fun _ wd46 hI47=>?_
 refine have H:=hC;dC ((!y42) = true) (fun h49=>?_) fun h49=>?_
 refine yK h49 H fun H=>Sk 3 z z (vY h49) z<|pkt (vY h49) z<|nl<|?_
 cases H
 exact je ⟨z, z, z, z, z, z, z, z, tv⟩ hI41
 refine nK h49 H fun H=>mv (hw:=gY z z z (vN h49)) z<|bK H fun y55 hy50 H=>cv (hw:=gY z z z (vN h49)) bo33 (inline_within_int_spec hy50 hI41) z z fun wd53 hI54=>q_not (hw:=gY z z z (vN h49)) z<|pkf (vN h49) z<|nl<|?_
 cases H
 exact je ⟨z, z, z, z, z, z, z, z, tv⟩ hI54
 refine nl<|hK36 _ _ _<|dC (v43 = true) (fun h56=>?_) fun h56=>?_
 refine yK h56 H fun H=>wt (vY h56)<|sr fun K57 hK58=>q_build (vs := []) (cs := [int .i64 0, int .i64 0, int .i64 0, bool false]) ze46 pl46 z z<|stk hI47 0 ag46 z z z z z z z fun wd59 hI60=>asn z<|nl<|hK58 _ _ _<|wr<|have hr61:=res_cell (P := Tryz.prog) hI60 0 (cs := [int .i64 0, int .i64 0, int .i64 0, bool false]) (g := g30) (o := 0) ag46 z z z;have hI62:=Hp.pick 3 [] hI60 z;?_
 cases H
 exact rt ⟨_, _, _, z, z, hr61, ⟨_, _, z, z, z⟩⟩ hI62
 refine nK h56 H fun H=>wf (vN h56)<|ws<|hK34 _ _ _<|sr fun K63 hK64=>lda hI47 2 ag25 z z z z<|lda hI47 1 ag28 z z z z<|mv z<|mv z<|bK H fun o66 hy65 H=>?_
 rcases o66 with ⟨y71, y72⟩ | ⟨y99, y100⟩ | ⟨y127, y128, y137, y148⟩
 refine q_cv (vs := [agg [slice A2 a1.Glyphs.length c3, slice A6 a1.Kerns.length c7].toArray, agg [int .i64 a10.Before, int .i64 a10.Behind, slice A11 a10.Keep.length c12].toArray, string a15, int .i64 a17]) bo35 z z (inline_prepare_spec hy65 hI47 hl4 hD5 hl8 hD9 hl13 hD14)<|?_
 rintro _ wd69 ⟨A73, c74, G67, hG68, hI70, hl75, hD76, ho77, rfl⟩
 refine ⟨_, rfl, ?_⟩
 refine mv z<|exk z z<|exk z z<|q_alloc hI70 ze79 fun g80 wd81 hI82=>stk hI82 0 ag79 z z z z z z z fun wd83 hI84=>asn z<|nl<|hK64 _ _ _<|sQ fun K85 hK86=>sr fun K87 hK88=>mv z<|q_neq z z<|nl<|hK88 _ _ _<|?_
 refine wpc_true (bool_yes (p := ¬ (1 : Int) = 0) (by decide)) ?_
 refine sr fun K89 hK90=>q_build (vs := []) (cs := [int .i64 0, int .i64 0, int .i64 0, bool false]) ze46 pl46 z z<|mv z<|stk hI84 2 ag46 z z z z z z z fun wd91 hI92=>asn z<|nl<|hK90 _ _ _<|wr<|have hr93:=res_cell (P := Tryz.prog) hI92 2 (cs := [int .i64 0, int .i64 0, int .i64 0, bool false]) (g := g30) (o := 0) ag46 z z z;have hI94:=Hp.pick 5 [] hI92 z;?_
 cases H
 exact rt ⟨_, _, _, z, z, hr93, ⟨_, _, z, z, z⟩⟩ (Hp.low hG68 hI94)
 refine q_cv (vs := [agg [slice A2 a1.Glyphs.length c3, slice A6 a1.Kerns.length c7].toArray, agg [int .i64 a10.Before, int .i64 a10.Behind, slice A11 a10.Keep.length c12].toArray, string a15, int .i64 a17]) bo35 z z (inline_prepare_spec hy65 hI47 hl4 hD5 hl8 hD9 hl13 hD14)<|?_
 rintro _ wd97 ⟨A101, c102, G95, hG96, hI98, hl103, hD104, ho105, rfl⟩
 refine ⟨_, rfl, ?_⟩
 refine mv z<|exk z z<|exk z z<|q_alloc hI98 ze79 fun g108 wd109 hI110=>stk hI110 0 ag79 z z z z z z z fun wd111 hI112=>asn z<|nl<|hK64 _ _ _<|sQ fun K113 hK114=>sr fun K115 hK116=>mv z<|q_neq z z<|nl<|hK116 _ _ _<|?_
 refine wpc_true (bool_yes (p := ¬ (20 : Int) = 0) (by decide)) ?_
 refine sr fun K117 hK118=>q_build (vs := []) (cs := [int .i64 0, int .i64 0, int .i64 0, bool false]) ze46 pl46 z z<|mv z<|stk hI112 2 ag46 z z z z z z z fun wd119 hI120=>asn z<|nl<|hK118 _ _ _<|wr<|have hr121:=res_cell (P := Tryz.prog) hI120 2 (cs := [int .i64 0, int .i64 0, int .i64 0, bool false]) (g := g30) (o := 0) ag46 z z z;have hI122:=Hp.pick 5 [] hI120 z;?_
 cases H
 exact rt ⟨_, _, _, z, z, hr121, ⟨_, _, z, z, z⟩⟩ (Hp.low hG96 hI122)
 refine q_cv (vs := [agg [slice A2 a1.Glyphs.length c3, slice A6 a1.Kerns.length c7].toArray, agg [int .i64 a10.Before, int .i64 a10.Behind, slice A11 a10.Keep.length c12].toArray, string a15, int .i64 a17]) bo35 z z (inline_prepare_spec hy65 hI47 hl4 hD5 hl8 hD9 hl13 hD14)<|?_
 rintro _ wd125 ⟨A129, c130, g136, A138, c139, A142, c143, g147, G123, hG124, hI126, hl131, hD132, ho133, hl140, hD141, hl144, hD145, rfl⟩
 refine ⟨_, rfl, ?_⟩
 refine mv z<|exk z z<|exk z z<|q_alloc hI126 ze79 fun g150 wd151 hI152=>stk hI152 0 ag79 z z z z z z z fun wd153 hI154=>asn z<|nl<|hK64 _ _ _<|sQ fun K155 hK156=>sr fun K157 hK158=>mv z<|q_neq z z<|nl<|hK158 _ _ _<|?_
 refine wpc_false (bool_no (p := ¬ (0 : Int) = 0) (by decide)) ?_
 refine ws<|hK156 _ _ _<|sr fun K159 hK160=>lda hI154 0 ag79 z z z z<|mv z<|mv z<|have hI167:=Hp.pick 7 [2, 3, 0, 1, 4, 5, 6] hI154 z;bK H fun y173 hy168 H=>cv bo74 (inline_setter_next_k1_spec hy168 hI167 hl131 hD132 hl140 hD141 hl144 hD145 (hgl.mono hG124)) z z fun wd171 hI172=>stk hI172 4 ag46 z z z z z z z fun wd174 hI175=>asn z<|nl<|hK160 _ _ _<|wr<|?_
 refine have hr176:=res_cell (P := Tryz.prog) hI175 4 (cs := [int .i64 y173.From, int .i64 y173.Until, int .i64 y173.Width, bool y173.Hyphen]) (g := g30) (o := 0) ag46 z z z;have hI177:=Hp.pick 7 [] hI175 z;?_
 cases H
 exact rt ⟨_, _, _, z, z, hr176, ⟨_, _, z, z, z⟩⟩ (Hp.low hG124 hI177)
theorem wrap_setter_check_spec {a1 a18 A2 c3 A6 c7 A10 c11 A14 c15 r1019 G L w} (H : wrap_setter_check a1 a18 = some r1019) (hI : Hp G L w) (hl4 : a1.f.Glyphs.length ≤ c3) (hD5 : Dat k_api_Glyph G A2 a1.f.Glyphs) (hl8 : a1.f.Kerns.length ≤ c7) (hD9 : Dat k_api_Kern G A6 a1.f.Kerns) (hl12 : a1.b.Keep.length ≤ c11) (hD13 : Dat Kd.str G A10 a1.b.Keep) (hl16 : a1.l.length ≤ c15) (hD17 : Dat k_api_Float G A14 a1.l) (hgl : Gl G) :
    Calls Tryz.prog 50 [agg [slice A2 a1.f.Glyphs.length c3, slice A6 a1.f.Kerns.length c7, int .i64 a1.b.Before, int .i64 a1.b.Behind, slice A10 a1.b.Keep.length c11, string a1.s, int .i64 a1.scale, int .i64 a1.line, int .i64 a1.align, int .i64 a1.dir, int .i64 a1.width, slice A14 a1.l.length c15].toArray, int .i64 a18].toArray w fun e w' => Hp G L w' ∧ e = .returned (int .i64 r1019) := by
 refine calls_intro (N := 89) Tryz.func50 z z (Nat.le_of_ble_eq_true z)<|?_
 unfold wrap_setter_check at H
 refine sr fun K19 hK20=>bxk hI z z fun g22 wd23 hI24=>asn z<|nl<|hK20 _ _ _<|sQ fun K25 hK26=>sr fun K27 hK28=>fa fl97_2 z<|ld hI24 0 ag9 z z z<|bK H fun y34 hy29 H=>cv bo39 (text_Valid_spec hy29 hI24) z z fun wd32 hI33=>q_not z<|mv z<|bK H fun v35 hC H=>?_
 refine js 7 hI33 [(1, int .i64 a18), (2, pointer (some ⟨g22, 0, none⟩)), (20, bool v35)] ?_ fun _ wd38 hI39=>?_
 refine have H:=hC;dC ((!y34) = true) (fun h41=>?_) fun h41=>?_
 refine yK h41 H fun H=>Sk 6 z z (vY h41) z<|pkt (vY h41) z<|nl<|?_
 cases H
 exact je ⟨z, z, z, tv⟩ hI33
 refine nK h41 H fun H=>fa (hw:=gY z z z (vN h41)) fl97_8 z<|ld (hw:=gY z z z (vN h41)) hI33 0 ag31 z z z<|fa (hw:=gY z z z (vN h41)) fl97_7 z<|ld (hw:=gY z z z (vN h41)) hI33 0 ag3 z z z<|bK H fun y47 hy42 H=>cv (hw:=gY z z z (vN h41)) bo43 (floats_Valid_spec hy42 hI33 hl16 hD17) z z fun wd45 hI46=>q_not (hw:=gY z z z (vN h41)) z<|pkf (vN h41) z<|nl<|?_
 cases H
 exact je ⟨z, z, z, tv⟩ hI46
 refine mv z<|bK H fun v48 hC H=>js 4 hI39 [(1, int .i64 a18), (2, pointer (some ⟨g22, 0, none⟩)), (25, bool v48)] ?_ fun _ wd51 hI52=>?_
 refine have H:=hC;dC (v35 = true) (fun h54=>?_) fun h54=>?_
 refine yK h54 H fun H=>Sk 3 z z (vY h54) z<|pkt (vY h54) z<|nl<|?_
 cases H
 exact je ⟨z, z, z, tv⟩ hI39
 refine nK h54 H fun H=>fa (hw:=gY z z z (vN h54)) fl97_4 z<|ld (hw:=gY z z z (vN h54)) hI39 0 ag3 z z z<|q_lss (hw:=gY z z z (vN h54)) z z<|pkf (vN h54) z<|nl<|?_
 cases H
 exact je ⟨z, z, z, tv⟩ hI39
 refine mv z<|bK H fun v55 hC H=>js 4 hI52 [(1, int .i64 a18), (2, pointer (some ⟨g22, 0, none⟩)), (30, bool v55)] ?_ fun _ wd58 hI59=>?_
 refine have H:=hC;dC (v48 = true) (fun h61=>?_) fun h61=>?_
 refine yK h61 H fun H=>Sk 3 z z (vY h61) z<|pkt (vY h61) z<|nl<|?_
 cases H
 exact je ⟨z, z, z, tv⟩ hI52
 refine nK h61 H fun H=>fa (hw:=gY z z z (vN h61)) fl97_4 z<|ld (hw:=gY z z z (vN h61)) hI52 0 ag3 z z z<|q_gtr (hw:=gY z z z (vN h61)) z z<|pkf (vN h61) z<|nl<|?_
 cases H
 exact je ⟨z, z, z, tv⟩ hI52
 refine mv z<|bK H fun v62 hC H=>js 3 hI59 [(1, int .i64 a18), (2, pointer (some ⟨g22, 0, none⟩)), (34, bool v62)] ?_ fun _ wd65 hI66=>?_
 refine have H:=hC;dC (v55 = true) (fun h68=>?_) fun h68=>?_
 refine yK h68 H fun H=>Sk 2 z z (vY h68) z<|pkt (vY h68) z<|nl<|?_
 cases H
 exact je ⟨z, z, z, tv⟩ hI59
 refine nK h68 H fun H=>mv (hw:=gY z z z (vN h68)) z<|q_lss (hw:=gY z z z (vN h68)) z z<|pkf (vN h68) z<|nl<|?_
 cases H
 exact je ⟨z, z, z, tv⟩ hI59
 refine mv z<|bK H fun v69 hC H=>js 3 hI66 [(2, pointer (some ⟨g22, 0, none⟩)), (38, bool v69)] ?_ fun _ wd72 hI73=>?_
 refine have H:=hC;dC (v62 = true) (fun h75=>?_) fun h75=>?_
 refine yK h75 H fun H=>Sk 2 z z (vY h75) z<|pkt (vY h75) z<|nl<|?_
 cases H
 exact je ⟨z, z, tv⟩ hI66
 refine nK h75 H fun H=>mv (hw:=gY z z z (vN h75)) z<|q_gtr (hw:=gY z z z (vN h75)) z z<|pkf (vN h75) z<|nl<|?_
 cases H
 exact je ⟨z, z, tv⟩ hI66
 refine nl<|hK28 _ _ _<|dC (v69 = true) (fun h76=>?_) fun h76=>?_
 refine yK h76 H fun H=>wt (vY h76)<|sr fun K77 hK78=>asn z<|nl<|hK78 _ _ _<|wr<|have hI79:=Hp.pick 1 [] hI73 z;?_
 cases H
 exact rt ⟨_, _, z, z, z⟩ hI79
 refine nK h76 H fun H=>wf (vN h76)<|ws<|hK26 _ _ _<|sQ fun K80 hK81=>sr fun K82 hK83=>fa fl97_5 z<|ld hI73 0 ag3 z z z<|q_lss z z<|mv z<|bK H fun v84 hC H=>js 4 hI73 [(2, pointer (some ⟨g22, 0, none⟩)), (46, bool v84)] ?_ fun _ wd87 hI88=>?_
 refine have H:=hC;dC (a1.align < 0) (fun h90=>?_) fun h90=>?_
 refine yK h90 H fun H=>Sk 3 z z (bY h90) z<|pkt (bY h90) z<|nl<|?_
 cases H
 exact je ⟨z, z, tv⟩ hI73
 refine nK h90 H fun H=>fa (hw:=gY z z z (bN h90)) fl97_5 z<|ld (hw:=gY z z z (bN h90)) hI73 0 ag3 z z z<|q_gtr (hw:=gY z z z (bN h90)) z z<|pkf (bN h90) z<|nl<|?_
 cases H
 exact je ⟨z, z, tv⟩ hI73
 refine mv z<|bK H fun v91 hC H=>js 4 hI88 [(2, pointer (some ⟨g22, 0, none⟩)), (51, bool v91)] ?_ fun _ wd94 hI95=>?_
 refine have H:=hC;dC (v84 = true) (fun h97=>?_) fun h97=>?_
 refine yK h97 H fun H=>Sk 3 z z (vY h97) z<|pkt (vY h97) z<|nl<|?_
 cases H
 exact je ⟨z, z, tv⟩ hI88
 refine nK h97 H fun H=>fa (hw:=gY z z z (vN h97)) fl97_6 z<|ld (hw:=gY z z z (vN h97)) hI88 0 ag3 z z z<|q_lss (hw:=gY z z z (vN h97)) z z<|pkf (vN h97) z<|nl<|?_
 cases H
 exact je ⟨z, z, tv⟩ hI88
 refine mv z<|bK H fun v98 hC H=>js 4 hI95 [(2, pointer (some ⟨g22, 0, none⟩)), (56, bool v98)] ?_ fun _ wd101 hI102=>?_
 refine have H:=hC;dC (v91 = true) (fun h104=>?_) fun h104=>?_
 refine yK h104 H fun H=>Sk 3 z z (vY h104) z<|pkt (vY h104) z<|nl<|?_
 cases H
 exact je ⟨z, z, tv⟩ hI95
 refine nK h104 H fun H=>fa (hw:=gY z z z (vN h104)) fl97_6 z<|ld (hw:=gY z z z (vN h104)) hI95 0 ag3 z z z<|q_gtr (hw:=gY z z z (vN h104)) z z<|pkf (vN h104) z<|nl<|?_
 cases H
 exact je ⟨z, z, tv⟩ hI95
 refine nl<|hK83 _ _ _<|dC (v98 = true) (fun h105=>?_) fun h105=>?_
 refine yK h105 H fun H=>wt (vY h105)<|sr fun K106 hK107=>asn z<|nl<|hK107 _ _ _<|wr<|have hI108:=Hp.pick 1 [] hI102 z;?_
 cases H
 exact rt ⟨_, _, z, z, z⟩ hI108
 refine nK h105 H fun H=>wf (vN h105)<|ws<|hK81 _ _ _<|sQ fun K109 hK110=>sr fun K111 hK112=>fa fl97_2 z<|ld hI102 0 ag9 z z z<|q_str_eql z z<|nl<|hK112 _ _ _<|dC (a1.s = (⟨#[]⟩ : ByteArray)) (fun h113=>?_) fun h113=>?_
 refine yK h113 H fun H=>wt (bY h113)<|sr fun K114 hK115=>fa fl97_0 z<|lda hI102 0 ag25 z z z z<|fa fl97_1 z<|lda hI102 0 ag28 z z z z<|fa fl97_3 z<|ld hI102 0 ag3 z z z<|fa fl97_7 z<|ld hI102 0 ag3 z z z<|?_
 refine q_bs hI102 (vs := [(0, int .i64 a1.width)]) (cs := [int .i64 a1.width]) el44 ze3 rfl (by decide) rfl rfl (fun g117 wd118 hI119 => ?_)
 obtain ⟨G120, hG121, hI123, hD122⟩ := Hp.publish (xs := ([a1.width] : List Int)) (n := 1) (Kd.int .i64) hI119 ⟨[int .i64 a1.width], _, rfl, rfl, rfl⟩ rfl
 refine bK2 H fun y129 y136 hy124 H=>q_cv (vs := [agg [slice A2 a1.f.Glyphs.length c3, slice A6 a1.f.Kerns.length c7].toArray, agg [int .i64 a1.b.Before, int .i64 a1.b.Behind, slice A10 a1.b.Keep.length c11].toArray, string (⟨#[]⟩ : ByteArray), int .i64 a1.scale, slice (some ⟨g117, 0, none⟩) ([a1.width] : List Int).length 1]) bo16 z z (inline_Lines_spec (a17 := ([a1.width] : List Int)) hy124 hI123 hl4 (Dat.mono hG121 hD5) hl8 (Dat.mono hG121 hD9) hl12 (Dat.mono hG121 hD13) (show ([a1.width] : List Int).length ≤ 1 from Nat.le_of_ble_eq_true z) hD122 (hgl.mono hG121))<|?_
 rintro _ wd127 ⟨A130, c131, G125, hG126, hI128, hl132, hD133, ho134, rfl⟩
 refine ⟨_, rfl, ?_⟩
 refine mv z<|exk z z<|exk z z<|asn z<|asn z<|nl<|hK115 _ _ _<|sr fun K137 hK138=>mv z<|asn z<|nl<|hK138 _ _ _<|wr<|have hI139:=Hp.pick 3 [] hI128 z;?_
 cases H
 exact rt ⟨_, _, z, z, z⟩ (Hp.low (gT hG121 hG126) hI139)
 refine nK h113 H fun H=>wf (bN h113)<|ws<|hK110 _ _ _<|sr fun K140 hK141=>fa fl97_0 z<|lda hI102 0 ag25 z z z z<|fa fl97_1 z<|lda hI102 0 ag28 z z z z<|fa fl97_2 z<|ld hI102 0 ag9 z z z<|fa fl97_3 z<|ld hI102 0 ag3 z z z<|fa fl97_7 z<|?_
 refine ld hI102 0 ag3 z z z<|bK2 H fun y147 y148 hy142 H=>cv bo85 (inline_Next_spec hy142 hI102 hl4 hD5 hl8 hD9 hl12 hD13 (hgl.mono gR)) z z fun wd145 hI146=>mv z<|exk z z<|exk z z<|q_alloc hI146 ze46 fun g150 wd151 hI152=>stk hI152 0 ag46 z z z z z z z fun wd153 hI154=>asn z<|nl<|hK141 _ _ _<|sr fun K155 hK156=>mv z<|asn z<|?_
 refine nl<|hK156 _ _ _<|wr<|have hI157:=Hp.pick 2 [] hI154 z;?_
 cases H
 exact rt ⟨_, _, z, z, z⟩ hI157
theorem wrap_setter_heights_spec {a1 a18 A2 c3 A6 c7 A10 c11 A14 c15 r1021 r1040 G L w} (H : wrap_setter_heights a1 a18 = some (r1021, r1040)) (hI : Hp G L w) (hl4 : a1.f.Glyphs.length ≤ c3) (hD5 : Dat k_api_Glyph G A2 a1.f.Glyphs) (hl8 : a1.f.Kerns.length ≤ c7) (hD9 : Dat k_api_Kern G A6 a1.f.Kerns) (hl12 : a1.b.Keep.length ≤ c11) (hD13 : Dat Kd.str G A10 a1.b.Keep) (hl16 : a1.l.length ≤ c15) (hD17 : Dat k_api_Float G A14 a1.l) :
    Calls Tryz.prog 86 [agg [slice A2 a1.f.Glyphs.length c3, slice A6 a1.f.Kerns.length c7, int .i64 a1.b.Before, int .i64 a1.b.Behind, slice A10 a1.b.Keep.length c11, string a1.s, int .i64 a1.scale, int .i64 a1.line, int .i64 a1.align, int .i64 a1.dir, int .i64 a1.width, slice A14 a1.l.length c15].toArray, int .i64 a18].toArray w fun e w' => ∃ (g1020 : Nat) (A1022 : Option Addr) (c1023 : Nat) (A1026 : Option Addr) (c1027 : Nat) (A1030 : Option Addr) (c1031 : Nat) (A1034 : Option Addr) (c1035 : Nat) (g1039 : Nat) (G' : Gh), G ≤ G' ∧ Hp G' (bx g1020 [slice A1022 r1021.f.Glyphs.length c1023, slice A1026 r1021.f.Kerns.length c1027, int .i64 r1021.b.Before, int .i64 r1021.b.Behind, slice A1030 r1021.b.Keep.length c1031, string r1021.s, int .i64 r1021.scale, int .i64 r1021.line, int .i64 r1021.align, int .i64 r1021.dir, int .i64 r1021.width, slice A1034 r1021.l.length c1035] 97 :: bx g1039 [int .i64 r1040] 3 :: L) w' ∧ r1021.f.Glyphs.length ≤ c1023 ∧ Dat k_api_Glyph G' A1022 r1021.f.Glyphs ∧ r1021.f.Kerns.length ≤ c1027 ∧ Dat k_api_Kern G' A1026 r1021.f.Kerns ∧ r1021.b.Keep.length ≤ c1031 ∧ Dat Kd.str G' A1030 r1021.b.Keep ∧ r1021.l.length ≤ c1035 ∧ Dat k_api_Float G' A1034 r1021.l ∧ e = .returned (func (.func 120) [].toArray [pointer (some ⟨g1020, 0, none⟩), pointer (some ⟨g1039, 0, none⟩)].toArray) := by
 refine calls_intro (N := 6) Tryz.func86 z z (Nat.le_of_ble_eq_true z)<|?_
 unfold wrap_setter_heights at H
 refine sr fun K19 hK20=>bxk hI z z fun g22 wd23 hI24=>bxk hI24 z z fun g26 wd27 hI28=>asn z<|nl<|hK20 _ _ _<|sr fun K29 hK30=>q_fn (vs := []) (us := [pointer (some ⟨g22, 0, none⟩), pointer (some ⟨g26, 0, none⟩)]) z z<|asn z<|nl<|hK30 _ _ _<|wr<|have hI31:=Hp.pick 2 [1, 0] hI28 z;?_
 cases H
 exact ⟨.inr z, z, _, ⟨_, _, z, z, z⟩, g22, A2, c3, A6, c7, A10, c11, A14, c15, g26, _, gR, hI31, hl4, hD5, hl8, hD9, hl12, hD13, hl16, hD17, z⟩
theorem wrap_setter_beside_spec {a1 a18 A2 c3 A6 c7 A10 c11 A14 c15 r1021 r1024 G L w} (H : wrap_setter_beside a1 a18 = some (r1021, r1024)) (hI : Hp G L w) (hl4 : a1.f.Glyphs.length ≤ c3) (hD5 : Dat k_api_Glyph G A2 a1.f.Glyphs) (hl8 : a1.f.Kerns.length ≤ c7) (hD9 : Dat k_api_Kern G A6 a1.f.Kerns) (hl12 : a1.b.Keep.length ≤ c11) (hD13 : Dat Kd.str G A10 a1.b.Keep) (hl16 : a1.l.length ≤ c15) (hD17 : Dat k_api_Float G A14 a1.l) :
    Calls Tryz.prog 121 [agg [slice A2 a1.f.Glyphs.length c3, slice A6 a1.f.Kerns.length c7, int .i64 a1.b.Before, int .i64 a1.b.Behind, slice A10 a1.b.Keep.length c11, string a1.s, int .i64 a1.scale, int .i64 a1.line, int .i64 a1.align, int .i64 a1.dir, int .i64 a1.width, slice A14 a1.l.length c15].toArray, int .i64 a18].toArray w fun e w' => ∃ (g1020 : Nat) (g1023 : Nat) (A1025 : Option Addr) (c1026 : Nat) (A1029 : Option Addr) (c1030 : Nat) (A1033 : Option Addr) (c1034 : Nat) (A1037 : Option Addr) (c1038 : Nat) (G' : Gh), G ≤ G' ∧ Hp G' (bx g1020 [int .i64 r1021] 3 :: bx g1023 [slice A1025 r1024.f.Glyphs.length c1026, slice A1029 r1024.f.Kerns.length c1030, int .i64 r1024.b.Before, int .i64 r1024.b.Behind, slice A1033 r1024.b.Keep.length c1034, string r1024.s, int .i64 r1024.scale, int .i64 r1024.line, int .i64 r1024.align, int .i64 r1024.dir, int .i64 r1024.width, slice A1037 r1024.l.length c1038] 97 :: L) w' ∧ r1024.f.Glyphs.length ≤ c1026 ∧ Dat k_api_Glyph G' A1025 r1024.f.Glyphs ∧ r1024.f.Kerns.length ≤ c1030 ∧ Dat k_api_Kern G' A1029 r1024.f.Kerns ∧ r1024.b.Keep.length ≤ c1034 ∧ Dat Kd.str G' A1033 r1024.b.Keep ∧ r1024.l.length ≤ c1038 ∧ Dat k_api_Float G' A1037 r1024.l ∧ e = .returned (func (.func 152) [].toArray [pointer (some ⟨g1020, 0, none⟩), pointer (some ⟨g1023, 0, none⟩)].toArray) := by
 refine calls_intro (N := 6) Tryz.func121 z z (Nat.le_of_ble_eq_true z)<|?_
 unfold wrap_setter_beside at H
 refine sr fun K19 hK20=>bxk hI z z fun g22 wd23 hI24=>bxk hI24 z z fun g26 wd27 hI28=>asn z<|nl<|hK20 _ _ _<|sr fun K29 hK30=>q_fn (vs := []) (us := [pointer (some ⟨g26, 0, none⟩), pointer (some ⟨g22, 0, none⟩)]) z z<|asn z<|nl<|hK30 _ _ _<|wr<|?_
 cases H
 exact ⟨.inr z, z, _, ⟨_, _, z, z, z⟩, g26, g22, A2, c3, A6, c7, A10, c11, A14, c15, _, gR, hI28, hl4, hD5, hl8, hD9, hl12, hD13, hl16, hD17, z⟩
theorem wrap_setter_beside_1_k1_spec {a1 a4 a7 g3 g6 A8 c9 A12 c13 A16 c17 A20 c21 r1024 G L w} (H : wrap_setter_beside_1_k1 a1 a4 a7 = some r1024) (hI : Hp G (bx g3 [int .i64 a4] 3 :: bx g6 [slice A8 a7.f.Glyphs.length c9, slice A12 a7.f.Kerns.length c13, int .i64 a7.b.Before, int .i64 a7.b.Behind, slice A16 a7.b.Keep.length c17, string a7.s, int .i64 a7.scale, int .i64 a7.line, int .i64 a7.align, int .i64 a7.dir, int .i64 a7.width, slice A20 a7.l.length c21] 97 :: L) w) (hl10 : a7.f.Glyphs.length ≤ c9) (hD11 : Dat k_api_Glyph G A8 a7.f.Glyphs) (hl14 : a7.f.Kerns.length ≤ c13) (hD15 : Dat k_api_Kern G A12 a7.f.Kerns) (hl18 : a7.b.Keep.length ≤ c17) (hD19 : Dat Kd.str G A16 a7.b.Keep) (hl22 : a7.l.length ≤ c21) (hD23 : Dat k_api_Float G A20 a7.l) :
    Calls Tryz.prog 152 [agg [int .i64 a1.Side, int .i64 a1.X, int .i64 a1.Y, int .i64 a1.W, int .i64 a1.H].toArray, pointer (some ⟨g3, 0, none⟩), pointer (some ⟨g6, 0, none⟩)].toArray w fun e w' => Hp G (bx g3 [int .i64 a4] 3 :: bx g6 [slice A8 a7.f.Glyphs.length c9, slice A12 a7.f.Kerns.length c13, int .i64 a7.b.Before, int .i64 a7.b.Behind, slice A16 a7.b.Keep.length c17, string a7.s, int .i64 a7.scale, int .i64 a7.line, int .i64 a7.align, int .i64 a7.dir, int .i64 a7.width, slice A20 a7.l.length c21] 97 :: L) w' ∧ e = .returned (bool r1024) := by
 refine calls_intro (N := 27) Tryz.func152 z z (Nat.le_of_ble_eq_true z)<|?_
 unfold wrap_setter_beside_1_k1 at H
 refine sr fun K24 hK25=>bxk hI z z fun g27 wd28 hI29=>asn z<|nl<|hK25 _ _ _<|sr fun K30 hK31=>fa fl57_4 z<|ld hI29 0 ag3 z z z<|q_gtr z z<|mv z<|bK H fun v32 hC H=>js 9 hI29 [(1, pointer (some ⟨g3, 0, none⟩)), (3, pointer (some ⟨g27, 0, none⟩)), (17, bool v32)] ?_ fun _ wd35 hI36=>?_
 refine have H:=hC;dC (0 < a1.H) (fun h38=>?_) fun h38=>?_
 refine yK h38 H fun H=>fa (hw:=gY z z z (bY h38)) fl57_2 z<|ld (hw:=gY z z z (bY h38)) hI29 0 ag3 z z z<|ld (hw:=gY z z z (bY h38)) hI29 1 ag3 z z z<|fa (hw:=gY z z z (bY h38)) fl97_4 z<|ld (hw:=gY z z z (bY h38)) hI29 2 ag3 z z z<|q_max (hw:=gY z z z (bY h38)) z z<|q_add (hw:=gY z z z (bY h38)) z z<|q_lss (hw:=gY z z z (bY h38)) z z<|pkt (bY h38) z<|nl<|?_
 cases H
 exact je ⟨z, z, z, tv⟩ hI29
 refine nK h38 H fun H=>Sk 8 z z (bN h38) z<|pkf (bN h38) z<|nl<|?_
 cases H
 exact je ⟨z, z, z, tv⟩ hI29
 refine mv z<|bK H fun v39 hC H=>js 8 hI36 [(26, bool v39)] ?_ fun _ wd42 hI43=>?_
 refine have H:=hC;dC (v32 = true) (fun h45=>?_) fun h45=>?_
 refine yK h45 H fun H=>fa (hw:=gY z z z (vY h45)) fl57_2 z<|ld (hw:=gY z z z (vY h45)) hI36 0 ag3 z z z<|fa (hw:=gY z z z (vY h45)) fl57_4 z<|ld (hw:=gY z z z (vY h45)) hI36 0 ag3 z z z<|q_add (hw:=gY z z z (vY h45)) z z<|ld (hw:=gY z z z (vY h45)) hI36 1 ag3 z z z<|q_gtr (hw:=gY z z z (vY h45)) z z<|pkt (vY h45) z<|nl<|?_
 cases H
 exact je ⟨z, tv⟩ hI36
 refine nK h45 H fun H=>Sk 7 z z (vN h45) z<|pkf (vN h45) z<|nl<|?_
 cases H
 exact je ⟨z, tv⟩ hI36
 refine asn z<|nl<|hK31 _ _ _<|wr<|have hI48:=Hp.pick 3 [1, 2] hI43 z;?_
 cases H
 exact rt ⟨_, _, z, z, z⟩ hI48
theorem slices_Min_int_spec {a1 A2 c3 r1006 G L w} (H : slices_Min_int a1 = some r1006) (hI : Hp G L w) (hl4 : a1.length ≤ c3) (hD5 : Dat (Kd.int .i64) G A2 a1) :
    Calls Tryz.prog 122 [slice A2 a1.length c3].toArray w fun e w' => Hp G L w' ∧ e = .returned (int .i64 r1006) := by
 refine calls_intro (N := 25) Tryz.func122 z z (Nat.le_of_ble_eq_true z)<|?_
 unfold slices_Min_int at H
 refine sr fun K6 hK7=>asn z<|nl<|hK7 _ _ _<|sQ fun K8 hK9=>sr fun K10 hK11=>mv z<|q_len so44 z<|q_lss z z<|nl<|hK11 _ _ _<|dC ((a1.length : Int) < 1) (fun h12=>?_) fun h12=>?_
 refine yK h12 H fun H=>wt (bY h12)<|wpc_region<|?_
 cases H
 refine nK h12 H fun H=>wf (bN h12)<|ws<|hK9 _ _ _<|sr fun K13 hK14=>mv z<|iK H fun⟨h15, h15'⟩H=>?_
 obtain ⟨ad16, cs17, hA18, hK19, hn20, hc21⟩ := Dat.get hD5 (0 : Int) (0) h15 h15'
 obtain rfl := hK19
 refine q_ia el44 z hA18 z h15 h15'<|q_lf hI ag3 z (gR.cel _ _ (hc21 0 _ z))<|asn z<|nl<|hK14 _ _ _<|sQ fun K22 hK23=>sr fun K24 hK25=>asn z<|nl<|hK25 _ _ _<|wb<|bK H fun v39 hC H=>wpc_mono (Q := fun e r ds w => e = .exit 0 ∧ ds = [] ∧ Has [(3, int .i64 v39)] r ∧ Hp G (L) w ∧ True) ?_ ?_
 refine wpc_loop fun I hLp=>?_
 refine slices_Min_int_l38.partial_correctness a1 (fun v30 v31 o => ∀ (r : Rg) (w : World), Has [(0, slice A2 a1.length c3), (3, int .i64 v30), (4, int .i64 v31)] r → Hp G (L) w → o = v39 → I r [] w) ?_ (a1.getD (Int.toNat 0) (0 : Int)) 1 _ hC _ _ ⟨rfl, rfl, rfl, tv⟩ hI rfl
 intro _ ih v30 v31 o H r wd47 hHas hI48 ho
 rw [ho] at H; clear ho
 rw [hHas.eq]; clear hHas
 refine hLp _ _ _<|sQ fun K49 hK50=>sr fun K51 hK52=>mv z<|mv z<|q_len so44 z<|q_lss z z<|nl<|hK52 _ _ _<|dC (v31 < (a1.length : Int)) (fun h53=>?_) fun h53=>?_
 refine yK h53 H fun H=>wt (bY h53)<|ws<|hK50 _ _ _<|sQ fun K54 hK55=>wb<|wpc_region<|mv z<|mv z<|mv z<|iK H fun⟨h56, h56'⟩H=>?_
 obtain ⟨ad57, cs58, hA59, hK60, hn61, hc62⟩ := Dat.get hD5 (0 : Int) (v31) h56 h56'
 obtain rfl := hK60
 exact q_ia el44 z hA59 z h56 h56'<|q_lf hI48 ag3 z (gR.cel _ _ (hc62 0 _ z))<|q_min z z<|asn z<|nl<|hK55 _ _ _<|wpc_region<|mv z<|q_add z z<|asn z<|nl<|ih _ _ _ H _ _ ⟨z, z, z, tv⟩ hI48 z
 refine nK h53 H fun H=>wf (bN h53)<|wx<|?_
 cases H
 exact ⟨z, z, ⟨z, tv⟩, hI48, tv⟩
 rintro e r ds wd42 ⟨rfl, rfl, hHas, hI43, _⟩
 rw [hHas.eq]; clear hHas
 refine hK23 _ _ _<|sr fun K63 hK64=>mv z<|asn z<|nl<|hK64 _ _ _<|wr<|?_
 cases H
 exact rt ⟨_, _, z, z, z⟩ hI43
theorem wrap_setter_heights_1_k1_spec {σ : Type} {St : σ → Gh → List Itm → Prop} {yl} {φ : σ → (Int × Bool) → Option (σ × Bool)} {sy : σ} {a3 a22 g2 A4 c5 A8 c9 A12 c13 A16 c17 g21 q1023} {ry : σ} {G T w} (H : wrap_setter_heights_1_k1 φ sy a3 a22 = some (q1023, ry)) (hI : Hp G (bx g2 [slice A4 a3.f.Glyphs.length c5, slice A8 a3.f.Kerns.length c9, int .i64 a3.b.Before, int .i64 a3.b.Behind, slice A12 a3.b.Keep.length c13, string a3.s, int .i64 a3.scale, int .i64 a3.line, int .i64 a3.align, int .i64 a3.dir, int .i64 a3.width, slice A16 a3.l.length c17] 97 :: bx g21 [int .i64 a22] 3 :: T) w) (hl6 : a3.f.Glyphs.length ≤ c5) (hD7 : Dat k_api_Glyph G A4 a3.f.Glyphs) (hl10 : a3.f.Kerns.length ≤ c9) (hD11 : Dat k_api_Kern G A8 a3.f.Kerns) (hl14 : a3.b.Keep.length ≤ c13) (hD15 : Dat Kd.str G A12 a3.b.Keep) (hl18 : a3.l.length ≤ c17) (hD19 : Dat k_api_Float G A16 a3.l) (hy : Yl Tryz.prog φ (encP (enc1 (Kd.int .i64)) (enc1 Kd.bool)) St yl) (hS : St sy G T) :
    Calls Tryz.prog 120 [func (.yield yl) #[] #[], pointer (some ⟨g2, 0, none⟩), pointer (some ⟨g21, 0, none⟩)].toArray w fun e w' => ∃ (T' : List Itm) (G' : Gh), G ≤ G' ∧ Hp G' (bx g2 [slice A4 a3.f.Glyphs.length c5, slice A8 a3.f.Kerns.length c9, int .i64 a3.b.Before, int .i64 a3.b.Behind, slice A12 a3.b.Keep.length c13, string a3.s, int .i64 a3.scale, int .i64 a3.line, int .i64 a3.align, int .i64 a3.dir, int .i64 a3.width, slice A16 a3.l.length c17] 97 :: bx g21 [int .i64 q1023] 3 :: T') w' ∧ St ry G' T' ∧ e = .returned (tuple [].toArray) := by
 refine calls_intro (N := 44) Tryz.func120 z z (Nat.le_of_ble_eq_true z)<|?_
 unfold wrap_setter_heights_1_k1 at H
 refine wb<|bK2 H fun v40 v42 hC H=>?_
 refine wpc_mono (Q := fun e r ds w => e = .ret ∧ ∃ (T41 : List Itm) (G44 : Gh), ds = [] ∧ G ≤ G44 ∧ Has [] r ∧ Hp G44 (bx g2 [slice A4 a3.f.Glyphs.length c5, slice A8 a3.f.Kerns.length c9, int .i64 a3.b.Before, int .i64 a3.b.Behind, slice A12 a3.b.Keep.length c13, string a3.s, int .i64 a3.scale, int .i64 a3.line, int .i64 a3.align, int .i64 a3.dir, int .i64 a3.width, slice A16 a3.l.length c17] 97 :: bx g21 [int .i64 v40] 3 :: T41) w ∧ St v42 G44 T41 ∧ True) ?_ ?_
 refine wpc_loop fun I hLp=>?_
 refine wrap_setter_heights_1_k1_l39.partial_correctness φ a3 (fun v27 v29 o => ∀ (T28 : List Itm) (G49 : Gh) (r : Rg) (w : World), G ≤ G49 → Has [(0, func (.yield yl) #[] #[]), (1, pointer (some ⟨g2, 0, none⟩)), (2, pointer (some ⟨g21, 0, none⟩))] r → Hp G49 (bx g2 [slice A4 a3.f.Glyphs.length c5, slice A8 a3.f.Kerns.length c9, int .i64 a3.b.Before, int .i64 a3.b.Behind, slice A12 a3.b.Keep.length c13, string a3.s, int .i64 a3.scale, int .i64 a3.line, int .i64 a3.align, int .i64 a3.dir, int .i64 a3.width, slice A16 a3.l.length c17] 97 :: bx g21 [int .i64 v27] 3 :: T28) w → St v29 G49 T28 → o = (v40, v42) → I r [] w) ?_ a22 sy _ hC T _ _ _ gR ⟨rfl, rfl, rfl, tv⟩ hI hS rfl
 intro _ ih v27 v29 o H T28 G49 r wd51 hG50 hHas hI52 hS30 ho
 rw [ho] at H; clear ho
 rw [hHas.eq]; clear hHas
 refine hLp _ _ _<|wb<|sr fun K53 hK54=>asn z<|nl<|hK54 _ _ _<|sr fun K55 hK56=>lda hI52 0 ag97 z z z z<|ld hI52 1 ag3 z z z<|bK2 H fun y64 y67 hy57 H=>q_cv (vs := [agg [slice A4 a3.f.Glyphs.length c5, slice A8 a3.f.Kerns.length c9, int .i64 a3.b.Before, int .i64 a3.b.Behind, slice A12 a3.b.Keep.length c13, string a3.s, int .i64 a3.scale, int .i64 a3.line, int .i64 a3.align, int .i64 a3.dir, int .i64 a3.width, slice A16 a3.l.length c17].toArray, int .i64 v27]) bo121 z z (wrap_setter_beside_spec hy57 hI52 hl6 (Dat.mono hG50 hD7) hl10 (Dat.mono hG50 hD11) hl14 (Dat.mono hG50 hD15) hl18 (Dat.mono hG50 hD19))<|?_
 rintro _ wd60 ⟨g63, g66, A68, c69, A72, c73, A76, c77, A80, c81, G58, hG59, hI61, hl70, hD71, hl74, hD75, hl78, hD79, hl82, hD83, rfl⟩
 refine ⟨_, rfl, ?_⟩
 refine asn z<|nl<|hK56 _ _ _<|sQ fun K84 hK85=>sr fun K86 hK87=>fa fl97_8 z<|ld hI61 2 ag31 z z z<|q_len so31 z<|mv z<|nl<|hK87 _ _ _<|wb<|bK H fun v113 hC H=>?_
 refine wpc_mono (Q := fun e r ds w => e = .exit 2 ∧ ∃ (A114 : Option Addr) (c115 : Nat) (G120 : Gh), ds = [] ∧ G58 ≤ G120 ∧ Has [(0, func (.yield yl) #[] #[]), (1, pointer (some ⟨g2, 0, none⟩)), (2, pointer (some ⟨g21, 0, none⟩)), (4, slice A114 v113.length c115)] r ∧ Hp G120 (bx g63 [int .i64 y64] 3 :: bx g66 [slice A68 y67.f.Glyphs.length c69, slice A72 y67.f.Kerns.length c73, int .i64 y67.b.Before, int .i64 y67.b.Behind, slice A76 y67.b.Keep.length c77, string y67.s, int .i64 y67.scale, int .i64 y67.line, int .i64 y67.align, int .i64 y67.dir, int .i64 y67.width, slice A80 y67.l.length c81] 97 :: bx g2 [slice A4 a3.f.Glyphs.length c5, slice A8 a3.f.Kerns.length c9, int .i64 a3.b.Before, int .i64 a3.b.Behind, slice A12 a3.b.Keep.length c13, string a3.s, int .i64 a3.scale, int .i64 a3.line, int .i64 a3.align, int .i64 a3.dir, int .i64 a3.width, slice A16 a3.l.length c17] 97 :: bx g21 [int .i64 v27] 3 :: tk (slice A114 v113.length c115) 1 3 :: T28) w ∧ v113.length ≤ c115 ∧ Dat (Kd.int .i64) G120 A114 v113 ∧ Own A114 c115 ∧ True) ?_ ?_
 refine have hI204:=Hp.emp hI61;have hI209:=Hp.pick 5 [1, 2, 3, 4, 0] hI204 z;wpc_loop fun I hLp=>?_
 refine wrap_setter_heights_1_k1_l112.partial_correctness a3 y64 y67 (fun v92 v99 o => ∀ (A93 : Option Addr) (c94 : Nat) (G125 : Gh) (r : Rg) (w : World), G58 ≤ G125 → Has [(0, func (.yield yl) #[] #[]), (1, pointer (some ⟨g2, 0, none⟩)), (2, pointer (some ⟨g21, 0, none⟩)), (4, slice A93 v92.length c94), (5, func (.func 152) [].toArray [pointer (some ⟨g63, 0, none⟩), pointer (some ⟨g66, 0, none⟩)].toArray), (12, slice A16 a3.l.length c17), (13, int .i64 (a3.l.length : Int)), (14, int .i64 v99)] r → Hp G125 (bx g63 [int .i64 y64] 3 :: bx g66 [slice A68 y67.f.Glyphs.length c69, slice A72 y67.f.Kerns.length c73, int .i64 y67.b.Before, int .i64 y67.b.Behind, slice A76 y67.b.Keep.length c77, string y67.s, int .i64 y67.scale, int .i64 y67.line, int .i64 y67.align, int .i64 y67.dir, int .i64 y67.width, slice A80 y67.l.length c81] 97 :: bx g2 [slice A4 a3.f.Glyphs.length c5, slice A8 a3.f.Kerns.length c9, int .i64 a3.b.Before, int .i64 a3.b.Behind, slice A12 a3.b.Keep.length c13, string a3.s, int .i64 a3.scale, int .i64 a3.line, int .i64 a3.align, int .i64 a3.dir, int .i64 a3.width, slice A16 a3.l.length c17] 97 :: bx g21 [int .i64 v27] 3 :: tk (slice A93 v92.length c94) 1 3 :: T28) w → v92.length ≤ c94 → Dat (Kd.int .i64) G125 A93 v92 → Own A93 c94 → o = v113 → I r [] w) ?_ ([] : List Int) 0 _ hC none 0 _ _ _ gR ⟨rfl, rfl, rfl, rfl, rfl, rfl, rfl, rfl, tv⟩ hI209 (show ([] : List Int).length ≤ 0 from Nat.le_refl 0) (Dat.nil _ _ _) Own.nil rfl
 intro _ ih v92 v99 o H A93 c94 G125 r wd127 hG126 hHas hI128 hl95 hD96 ho97 ho
 rw [ho] at H; clear ho
 rw [hHas.eq]; clear hHas
 refine hLp _ _ _<|sr fun K129 hK130=>q_lss z z<|nl<|hK130 _ _ _<|sQ fun K131 hK132=>dC (v99 < (a3.l.length : Int)) (fun h133=>?_) fun h133=>?_
 refine yK h133 H fun H=>wt (bY h133)<|ws<|hK132 _ _ _<|sQ fun K134 hK135=>bK H fun v136 hC H=>?_
 refine wpc_mono (Q := fun e r ds w => e = .normal ∧ ∃ (A137 : Option Addr) (c138 : Nat) (G143 : Gh), ds = [] ∧ G125 ≤ G143 ∧ Has [(0, func (.yield yl) #[] #[]), (1, pointer (some ⟨g2, 0, none⟩)), (2, pointer (some ⟨g21, 0, none⟩)), (4, slice A137 v136.length c138), (5, func (.func 152) [].toArray [pointer (some ⟨g63, 0, none⟩), pointer (some ⟨g66, 0, none⟩)].toArray), (12, slice A16 a3.l.length c17), (13, int .i64 (a3.l.length : Int)), (14, int .i64 v99)] r ∧ Hp G143 (bx g63 [int .i64 y64] 3 :: bx g66 [slice A68 y67.f.Glyphs.length c69, slice A72 y67.f.Kerns.length c73, int .i64 y67.b.Before, int .i64 y67.b.Behind, slice A76 y67.b.Keep.length c77, string y67.s, int .i64 y67.scale, int .i64 y67.line, int .i64 y67.align, int .i64 y67.dir, int .i64 y67.width, slice A80 y67.l.length c81] 97 :: bx g2 [slice A4 a3.f.Glyphs.length c5, slice A8 a3.f.Kerns.length c9, int .i64 a3.b.Before, int .i64 a3.b.Behind, slice A12 a3.b.Keep.length c13, string a3.s, int .i64 a3.scale, int .i64 a3.line, int .i64 a3.align, int .i64 a3.dir, int .i64 a3.width, slice A16 a3.l.length c17] 97 :: bx g21 [int .i64 v27] 3 :: tk (slice A137 v136.length c138) 1 3 :: T28) w ∧ v136.length ≤ c138 ∧ Dat (Kd.int .i64) G143 A137 v136 ∧ Own A137 c138 ∧ True) ?_ ?_
 refine have H:=hC;wb<|sr fun K148 hK149=>iK H fun⟨h150, h150'⟩H=>?_
 obtain ⟨ad151, cs152, hA153, hK154, hn155, hc156⟩ := Dat.get (Dat.mono (gT (gT hG50 hG59) hG126) hD19) z_api_Float (v99) h150 h150'
 obtain ⟨rfl⟩ := open_api_Float hK154
 refine q_ia el31 z hA153 z h150 h150'<|q_lfA hI128 ag57 z (cs := [int .i64 ((a3.l.getD (Int.toNat v99) z_api_Float).Side), int .i64 ((a3.l.getD (Int.toNat v99) z_api_Float).X), int .i64 ((a3.l.getD (Int.toNat v99) z_api_Float).Y), int .i64 ((a3.l.getD (Int.toNat v99) z_api_Float).W), int .i64 ((a3.l.getD (Int.toNat v99) z_api_Float).H)]) z (fun j v hv => gR.cel _ _ (hc156 j v hv))<|q_alloc hI128 ze57 fun g158 wd159 hI160=>stk hI160 0 ag57 z z z z z z z fun wd161 hI162=>nl<|hK149 _ _ _<|sr fun K163 hK164=>mv z<|lda hI162 0 ag57 z z z z<|have hI170:=Hp.pick 6 [1, 2, 0, 3, 4, 5] hI162 z;bK H fun y176 hy171 H=>cv bo152 (wrap_setter_beside_1_k1_spec (a1 := (a3.l.getD (Int.toNat v99) z_api_Float)) hy171 hI170 hl70 (Dat.mono hG126 hD71) hl74 (Dat.mono hG126 hD75) hl78 (Dat.mono hG126 hD79) hl82 (Dat.mono hG126 hD83)) z z fun wd174 hI175=>nl<|hK164 _ _ _<|?_
 refine dC (y176 = true) (fun h177=>?_) fun h177=>?_
 refine yK h177 H fun H=>wt (vY h177)<|wpc_region<|mv z<|fa fl57_2 z<|ld hI175 2 ag3 z z z<|fa fl57_4 z<|ld hI175 2 ag3 z z z<|q_add z z<|?_
 refine q_bs hI175 (vs := [(0, int .i64 (w64 (((a3.l.getD (Int.toNat v99) z_api_Float).Y) + ((a3.l.getD (Int.toNat v99) z_api_Float).H))))]) (cs := [int .i64 (w64 (((a3.l.getD (Int.toNat v99) z_api_Float).Y) + ((a3.l.getD (Int.toNat v99) z_api_Float).H)))]) el44 ze3 rfl (by decide) rfl rfl (fun g179 wd180 hI181 => ?_)
 refine iK H fun h191 H=>?_
 refine q_app (xs := v92) (ys := [w64 (((a3.l.getD (Int.toNat v99) z_api_Float).Y) + ((a3.l.getD (Int.toNat v99) z_api_Float).H))]) (Kd.int .i64) hI181 6 el44 ze3 rfl rfl rfl rfl ho97 hl95 hD96 (src_bx hI181 0 so44 rfl rfl) ⟨[int .i64 (w64 (((a3.l.getD (Int.toNat v99) z_api_Float).Y) + ((a3.l.getD (Int.toNat v99) z_api_Float).H)))], _, rfl, rfl, rfl⟩ rfl (by simp only [List.length_cons, List.length_nil]; omega) (by simp only [List.length_cons, List.length_nil]; omega) (fun A182 c183 G184 wd185 hG186 ho187 hl188 hD189 hI190 => ?_)
 refine asn z<|nl<|have hI197:=Hp.pick 7 [1, 2, 4, 5, 6] hI190 z;?_
 cases H
 exact ⟨z, A182, c183, _, z, hG186, ⟨z, z, z, z, z, z, z, z, tv⟩, hI197, hl188, hD189, ho187, tv⟩
 refine nK h177 H fun H=>wf (vN h177)<|ws<|have hI203:=Hp.pick 6 [0, 1, 3, 4, 5] hI175 z;?_
 cases H
 exact ⟨z, A93, c94, _, z, gR, ⟨z, z, z, z, z, z, z, z, tv⟩, hI203, hl95, hD96, ho97, tv⟩
 rintro e r ds wd145 ⟨rfl, A137, c138, G143, rfl, hG144, hHas, hI146, hl139, hD140, ho141, _⟩
 rw [hHas.eq]; clear hHas
 exact hK135 _ _ _<|wpc_region<|q_add z z<|mv z<|nl<|ih _ _ _ H A137 c138 _ _ _ (gT hG126 hG144) ⟨z, z, z, z, z, z, z, z, tv⟩ hI146 hl139 hD140 ho141 z
 refine nK h133 H fun H=>wf (bN h133)<|wx<|?_
 cases H
 exact ⟨z, A93, c94, _, z, hG126, ⟨z, z, z, z, tv⟩, hI128, hl95, hD96, ho97, tv⟩
 rintro e r ds wd122 ⟨rfl, A114, c115, G120, rfl, hG121, hHas, hI123, hl116, hD117, ho118, _⟩
 rw [hHas.eq]; clear hHas
 refine hK85 _ _ _<|sQ fun K210 hK211=>sr fun K212 hK213=>mv z<|ld hI123 3 ag3 z z z<|mv z<|q_len so44 z<|q_gtr z z<|bK2 H fun s214 b215 hx216 H=>q_yl hy [bx g63 [int .i64 y64] 3, bx g66 [slice A68 y67.f.Glyphs.length c69, slice A72 y67.f.Kerns.length c73, int .i64 y67.b.Before, int .i64 y67.b.Behind, slice A76 y67.b.Keep.length c77, string y67.s, int .i64 y67.scale, int .i64 y67.line, int .i64 y67.align, int .i64 y67.dir, int .i64 y67.width, slice A80 y67.l.length c81] 97, bx g2 [slice A4 a3.f.Glyphs.length c5, slice A8 a3.f.Kerns.length c9, int .i64 a3.b.Before, int .i64 a3.b.Behind, slice A12 a3.b.Keep.length c13, string a3.s, int .i64 a3.scale, int .i64 a3.line, int .i64 a3.align, int .i64 a3.dir, int .i64 a3.width, slice A16 a3.l.length c17] 97, bx g21 [int .i64 v27] 3, tk (slice A114 v113.length c115) 1 3] hI123 (hy.mono (gT hG59 hG121) hS30) z z ⟨_, _, z, ⟨_, z, z⟩, ⟨_, z, z⟩⟩ hx216 fun wd217 G218 T219 hG220 hS221 hI222=>q_not z<|mv z<|bK H fun v223 hC H=>js 4 hI222 [(0, func (.yield yl) #[] #[]), (1, pointer (some ⟨g2, 0, none⟩)), (2, pointer (some ⟨g21, 0, none⟩)), (4, slice A114 v113.length c115), (41, bool v223)] ?_ fun _ wd226 hI227=>?_
 refine have H:=hC;dC ((!b215) = true) (fun h229=>?_) fun h229=>?_
 refine yK h229 H fun H=>Sk 3 z z (vY h229) z<|pkt (vY h229) z<|nl<|?_
 cases H
 exact je ⟨z, z, z, z, z, tv⟩ hI222
 refine nK h229 H fun H=>mv (hw:=gY z z z (vN h229)) z<|q_len (hw:=gY z z z (vN h229)) so44 z<|q_eql (hw:=gY z z z (vN h229)) z z<|pkf (vN h229) z<|nl<|?_
 cases H
 exact je ⟨z, z, z, z, z, tv⟩ hI222
 refine nl<|hK213 _ _ _<|dC (v223 = true) (fun h230=>?_) fun h230=>?_
 refine yK h230 H fun H=>wt (vY h230)<|wr<|have hI233:=Hp.pick 5 [2, 3] hI227 z;?_
 cases H
 exact ⟨z, T219, _, z, (gT (gT (gT hG50 hG59) hG121) hG220), trivial, hI233, hS221, tv⟩
 exact nK h230 H fun H=>wf (vN h230)<|ws<|hK211 _ _ _<|wpc_region<|mv z<|bK H fun y239 hy234 H=>cv bo122 (slices_Min_int_spec hy234 hI227 hl116 (Dat.mono hG220 hD117)) z z fun wd237 hI238=>stk hI238 3 ag3 z z z z z z z fun wd240 hI241=>nl<|have hI244:=Hp.pick 5 [2, 3] hI241 z;ih _ _ _ H T219 _ _ _ (gT (gT (gT hG50 hG59) hG121) hG220) ⟨z, z, z, tv⟩ hI244 hS221 z
 rintro e r ds wd46 ⟨rfl, T41, G44, rfl, hG45, hHas, hI47, hS43, _⟩
 rw [hHas.eq]; clear hHas
 cases H
 exact ⟨.inr z, z, _, z, T41, _, hG45, hI47, hS43, z⟩
theorem floats_placed_bottom_spec {a1 : floats_placed} {r1002 G L w} (H : floats_placed_bottom a1 = some r1002) (hI : Hp G L w) :
    Calls Tryz.prog 119 [agg [int .i64 a1.Float.Side, int .i64 a1.Float.X, int .i64 a1.Float.Y, int .i64 a1.Float.W, int .i64 a1.Float.H].toArray].toArray w fun e w' => Hp G L w' ∧ e = .returned (int .i64 r1002) := by
 refine calls_intro (N := 10) Tryz.func119 z z (Nat.le_of_ble_eq_true z)<|?_
 unfold floats_placed_bottom at H
 refine sr fun K2 hK3=>bxk hI z z fun g5 wd6 hI7=>asn z<|nl<|hK3 _ _ _<|sr fun K8 hK9=>fa fl137_0 z<|fa fl57_2 z<|ld hI7 0 ag3 z z z<|fa fl137_0 z<|fa fl57_4 z<|ld hI7 0 ag3 z z z<|q_add z z<|asn z<|?_
 refine nl<|hK9 _ _ _<|wr<|have hI10:=Hp.pick 1 [] hI7 z;?_
 cases H
 exact rt ⟨_, _, z, z, z⟩ hI10
theorem floats_placed_beside_spec {a1 : floats_placed} {a2 a3 r1004 G L w} (H : floats_placed_beside a1 a2 a3 = some r1004) (hI : Hp G L w) :
    Calls Tryz.prog 84 [agg [int .i64 a1.Float.Side, int .i64 a1.Float.X, int .i64 a1.Float.Y, int .i64 a1.Float.W, int .i64 a1.Float.H].toArray, int .i64 a2, int .i64 a3].toArray w fun e w' => Hp G L w' ∧ e = .returned (bool r1004) := by
 refine calls_intro (N := 27) Tryz.func84 z z (Nat.le_of_ble_eq_true z)<|?_
 unfold floats_placed_beside at H
 refine sr fun K4 hK5=>bxk hI z z fun g7 wd8 hI9=>asn z<|nl<|hK5 _ _ _<|sr fun K10 hK11=>fa fl137_0 z<|fa fl57_4 z<|ld hI9 0 ag3 z z z<|q_gtr z z<|mv z<|bK H fun v12 hC H=>js 9 hI9 [(1, int .i64 a2), (3, pointer (some ⟨g7, 0, none⟩)), (20, bool v12)] ?_ fun _ wd15 hI16=>?_
 refine have H:=hC;dC (0 < a1.Float.H) (fun h18=>?_) fun h18=>?_
 refine yK h18 H fun H=>fa (hw:=gY z z z (bY h18)) fl137_0 z<|fa (hw:=gY z z z (bY h18)) fl57_2 z<|ld (hw:=gY z z z (bY h18)) hI9 0 ag3 z z z<|mv (hw:=gY z z z (bY h18)) z<|mv (hw:=gY z z z (bY h18)) z<|q_max (hw:=gY z z z (bY h18)) z z<|q_add (hw:=gY z z z (bY h18)) z z<|q_lss (hw:=gY z z z (bY h18)) z z<|pkt (bY h18) z<|nl<|?_
 cases H
 exact je ⟨z, z, z, tv⟩ hI9
 refine nK h18 H fun H=>Sk 8 z z (bN h18) z<|pkf (bN h18) z<|nl<|?_
 cases H
 exact je ⟨z, z, z, tv⟩ hI9
 refine mv z<|bK H fun v19 hC H=>js 5 hI16 [(26, bool v19)] ?_ fun _ wd22 hI23=>?_
 refine have H:=hC;dC (v12 = true) (fun h25=>?_) fun h25=>?_
 refine yK h25 H fun H=>lda (hw:=gY z z z (vY h25)) hI16 0 ag137 z z z z<|bK H fun y31 hy26 H=>cv (hw:=gY z z z (vY h25)) bo119 (floats_placed_bottom_spec hy26 hI16) z z fun wd29 hI30=>mv (hw:=gY z z z (vY h25)) z<|q_gtr (hw:=gY z z z (vY h25)) z z<|pkt (vY h25) z<|nl<|?_
 cases H
 exact je ⟨z, tv⟩ hI30
 refine nK h25 H fun H=>Sk 4 z z (vN h25) z<|pkf (vN h25) z<|nl<|?_
 cases H
 exact je ⟨z, tv⟩ hI16
 refine asn z<|nl<|hK11 _ _ _<|wr<|have hI32:=Hp.pick 1 [] hI23 z;?_
 cases H
 exact rt ⟨_, _, z, z, z⟩ hI32
theorem floats_room_spec {a1 a6 a7 a8 A2 c3 r1009 r1010 G L w} (H : floats_room a1 a6 a7 a8 = some (r1009, r1010)) (hI : Hp G L w) (hl4 : a1.length ≤ c3) (hD5 : Dat k_api_Float G A2 a1) :
    Calls Tryz.prog 45 [slice A2 a1.length c3, int .i64 a6, int .i64 a7, int .i64 a8].toArray w fun e w' => Hp G L w' ∧ e = .returned (tuple [agg [int .i64 r1009.Lo, int .i64 r1009.Hi].toArray, bool r1010].toArray) := by
 refine calls_intro (N := 61) Tryz.func45 z z (Nat.le_of_ble_eq_true z)<|?_
 unfold floats_room at H
 refine sr fun K9 hK10=>q_alloc hI ze53 fun g12 wd13 hI14=>asn z<|nl<|hK10 _ _ _<|sr fun K15 hK16=>mv z<|q_build (vs := [(1, int .i64 a6)]) (cs := [int .i64 0, int .i64 a6]) ze53 pl53 z z<|q_alloc hI14 ze53 fun g18 wd19 hI20=>stk hI20 0 ag53 z z z z z z z fun wd21 hI22=>asn z<|nl<|hK16 _ _ _<|sQ fun K23 hK24=>?_
 refine sr fun K25 hK26=>mv z<|q_len so31 z<|mv z<|nl<|hK26 _ _ _<|wb<|bK3 H fun v44 v45 v46 hC H=>wpc_mono (Q := fun e r ds w => e = .exit 0 ∧ ds = [] ∧ Has [(8, pointer (some ⟨g12, 0, none⟩)), (10, pointer (some ⟨g18, 0, none⟩)), (11, bool v44)] r ∧ Hp G (bx g18 [int .i64 v45, int .i64 v46] 53 :: bx g12 [int .i64 0, int .i64 0] 53 :: L) w ∧ True) ?_ ?_
 refine wpc_loop fun I hLp=>?_
 refine floats_room_l43.partial_correctness a1 a7 a8 (fun v31 v32 v33 v34 o => ∀ (r : Rg) (w : World), Has [(2, int .i64 a7), (3, int .i64 a8), (8, pointer (some ⟨g12, 0, none⟩)), (10, pointer (some ⟨g18, 0, none⟩)), (11, bool v31), (17, slice A2 a1.length c3), (18, int .i64 (a1.length : Int)), (19, int .i64 v32)] r → Hp G (bx g18 [int .i64 v33, int .i64 v34] 53 :: bx g12 [int .i64 0, int .i64 0] 53 :: L) w → o = (v44, v45, v46) → I r [] w) ?_ false 0 0 a6 _ hC _ _ ⟨rfl, rfl, rfl, rfl, rfl, rfl, rfl, rfl, tv⟩ hI22 rfl
 intro _ ih v31 v32 v33 v34 o H r wd54 hHas hI55 ho
 rw [ho] at H; clear ho
 rw [hHas.eq]; clear hHas
 refine hLp _ _ _<|sr fun K56 hK57=>q_lss z z<|nl<|hK57 _ _ _<|sQ fun K58 hK59=>dC (v32 < (a1.length : Int)) (fun h60=>?_) fun h60=>?_
 refine yK h60 H fun H=>wt (bY h60)<|ws<|hK59 _ _ _<|sQ fun K61 hK62=>bK3 H fun v63 v64 v65 hC H=>?_
 refine jC .normal G [(2, int .i64 a7), (3, int .i64 a8), (8, pointer (some ⟨g12, 0, none⟩)), (10, pointer (some ⟨g18, 0, none⟩)), (11, bool v63), (17, slice A2 a1.length c3), (18, int .i64 (a1.length : Int)), (19, int .i64 v32)] (bx g18 [int .i64 v64, int .i64 v65] 53 :: bx g12 [int .i64 0, int .i64 0] 53 :: L) ?_ fun _ wd68 hI69=>?_
 refine have H:=hC;wb<|sr fun K71 hK72=>iK H fun⟨h73, h73'⟩H=>?_
 obtain ⟨ad74, cs75, hA76, hK77, hn78, hc79⟩ := Dat.get hD5 z_api_Float (v32) h73 h73'
 obtain ⟨rfl⟩ := open_api_Float hK77
 refine q_ia el31 z hA76 z h73 h73'<|q_lfA hI55 ag57 z (cs := [int .i64 ((a1.getD (Int.toNat v32) z_api_Float).Side), int .i64 ((a1.getD (Int.toNat v32) z_api_Float).X), int .i64 ((a1.getD (Int.toNat v32) z_api_Float).Y), int .i64 ((a1.getD (Int.toNat v32) z_api_Float).W), int .i64 ((a1.getD (Int.toNat v32) z_api_Float).H)]) z (fun j v hv => gR.cel _ _ (hc79 j v hv))<|q_alloc hI55 ze57 fun g81 wd82 hI83=>stk hI83 0 ag57 z z z z z z z fun wd84 hI85=>nl<|hK72 _ _ _<|sr fun K86 hK87=>lda hI85 0 ag57 z z z z<|q_build (vs := [(0, agg [int .i64 ((a1.getD (Int.toNat v32) z_api_Float).Side), int .i64 ((a1.getD (Int.toNat v32) z_api_Float).X), int .i64 ((a1.getD (Int.toNat v32) z_api_Float).Y), int .i64 ((a1.getD (Int.toNat v32) z_api_Float).W), int .i64 ((a1.getD (Int.toNat v32) z_api_Float).H)].toArray)]) (cs := [int .i64 ((a1.getD (Int.toNat v32) z_api_Float).Side), int .i64 ((a1.getD (Int.toNat v32) z_api_Float).X), int .i64 ((a1.getD (Int.toNat v32) z_api_Float).Y), int .i64 ((a1.getD (Int.toNat v32) z_api_Float).W), int .i64 ((a1.getD (Int.toNat v32) z_api_Float).H)]) ze137 pl137 z z<|q_alloc hI85 ze137 fun g89 wd90 hI91=>stk hI91 0 ag137 z z z z z z z fun wd92 hI93=>nl<|hK87 _ _ _<|sQ fun K94 hK95=>?_
 refine sr fun K96 hK97=>lda hI93 0 ag137 z z z z<|mv z<|mv z<|bK H fun y103 hy98 H=>cv bo84 (floats_placed_beside_spec (a1 := (⟨(a1.getD (Int.toNat v32) z_api_Float)⟩ : floats_placed)) hy98 hI93) z z fun wd101 hI102=>q_not z<|nl<|hK97 _ _ _<|dC ((!y103) = true) (fun h104=>?_) fun h104=>?_
 refine yK h104 H fun H=>wt (vY h104)<|wx<|have hI107:=Hp.pick 4 [2, 3] hI102 z;?_
 cases H
 exact je ⟨z, z, z, z, z, z, z, z, tv⟩ hI107
 refine nK h104 H fun H=>wf (vN h104)<|ws<|hK95 _ _ _<|sr fun K108 hK109=>asn z<|nl<|hK109 _ _ _<|sr fun K110 hK111=>fa fl137_0 z<|fa fl57_0 z<|ld hI102 0 ag3 z z z<|q_eql z z<|nl<|?_
 refine hK111 _ _ _<|dC (((a1.getD (Int.toNat v32) z_api_Float).Side) = 1) (fun h112=>?_) fun h112=>?_
 refine yK h112 H fun H=>wt (bY h112)<|wpc_region<|fa fl53_0 z<|ld hI102 2 ag3 z z z<|fa fl137_0 z<|fa fl57_1 z<|ld hI102 0 ag3 z z z<|fa fl137_0 z<|fa fl57_3 z<|ld hI102 0 ag3 z z z<|q_add z z<|q_max z z<|fa fl53_0 z<|?_
 refine stk hI102 2 ag3 z z z z z z z fun wd113 hI114=>nl<|have hI117:=Hp.pick 4 [2, 3] hI114 z;?_
 cases H
 exact je ⟨z, z, z, z, z, z, z, z, tv⟩ hI117
 refine nK h112 H fun H=>wf (bN h112)<|wpc_region<|fa fl53_1 z<|ld hI102 2 ag3 z z z<|fa fl137_0 z<|fa fl57_1 z<|ld hI102 0 ag3 z z z<|q_min z z<|fa fl53_1 z<|stk hI102 2 ag3 z z z z z z z fun wd118 hI119=>nl<|have hI122:=Hp.pick 4 [2, 3] hI119 z;?_
 cases H
 exact je ⟨z, z, z, z, z, z, z, z, tv⟩ hI122
 exact hK62 _ _ _<|wpc_region<|q_add z z<|mv z<|nl<|ih _ _ _ _ _ H _ _ ⟨z, z, z, z, z, z, z, z, tv⟩ hI69 z
 refine nK h60 H fun H=>wf (bN h60)<|wx<|?_
 cases H
 exact ⟨z, z, ⟨z, z, z, tv⟩, hI55, tv⟩
 rintro e r ds wd49 ⟨rfl, rfl, hHas, hI50, _⟩
 rw [hHas.eq]; clear hHas
 refine hK24 _ _ _<|sr fun K123 hK124=>fa fl53_0 z<|ld hI50 0 ag3 z z z<|fa fl53_1 z<|ld hI50 0 ag3 z z z<|q_max z z<|fa fl53_1 z<|stk hI50 0 ag3 z z z z z z z fun wd125 hI126=>nl<|hK124 _ _ _<|sr fun K127 hK128=>lda hI126 0 ag53 z z z z<|mv z<|?_
 refine stk hI126 1 ag53 z z z z z z z fun wd129 hI130=>asn z<|nl<|hK128 _ _ _<|wr<|have hr131:=res_cell (P := Tryz.prog) hI130 1 (cs := [int .i64 v45, int .i64 (max v45 v46)]) (g := g12) (o := 0) ag53 z z z;have hI132:=Hp.pick 2 [] hI130 z;?_
 cases H
 exact rt ⟨_, _, _, z, z, hr131, ⟨_, _, z, z, z⟩⟩ hI132
theorem floats_Room_spec {a1 a6 a7 a8 A2 c3 r1009 r1010 G L w} (H : floats_Room a1 a6 a7 a8 = some (r1009, r1010)) (hI : Hp G L w) (hl4 : a1.length ≤ c3) (hD5 : Dat k_api_Float G A2 a1) :
    Calls Tryz.prog 18 [slice A2 a1.length c3, int .i64 a6, int .i64 a7, int .i64 a8].toArray w fun e w' => Hp G L w' ∧ e = .returned (tuple [agg [int .i64 r1009.Lo, int .i64 r1009.Hi].toArray, int .i64 r1010].toArray) := by
 refine calls_intro (N := 36) Tryz.func18 z z (Nat.le_of_ble_eq_true z)<|?_
 unfold floats_Room at H
 refine sr fun K9 hK10=>q_alloc hI ze53 fun g12 wd13 hI14=>asn z<|nl<|hK10 _ _ _<|sQ fun K15 hK16=>sr fun K17 hK18=>mv z<|mv z<|bK H fun y24 hy19 H=>cv bo43 (floats_Valid_spec hy19 hI14 hl4 hD5) z z fun wd22 hI23=>q_not z<|mv z<|bK H fun v25 hC H=>?_
 refine js 4 hI23 [(0, slice A2 a1.length c3), (1, int .i64 a6), (2, int .i64 a7), (3, int .i64 a8), (8, pointer (some ⟨g12, 0, none⟩)), (20, bool v25)] ?_ fun _ wd28 hI29=>?_
 refine have H:=hC;dC ((!y24) = true) (fun h31=>?_) fun h31=>?_
 refine yK h31 H fun H=>Sk 3 z z (vY h31) z<|pkt (vY h31) z<|nl<|?_
 cases H
 exact je ⟨z, z, z, z, z, z, tv⟩ hI23
 refine nK h31 H fun H=>mv (hw:=gY z z z (vN h31)) z<|bK H fun y37 hy32 H=>cv (hw:=gY z z z (vN h31)) bo44 (floats_within_spec hy32 hI23) z z fun wd35 hI36=>q_not (hw:=gY z z z (vN h31)) z<|pkf (vN h31) z<|nl<|?_
 cases H
 exact je ⟨z, z, z, z, z, z, tv⟩ hI36
 refine mv z<|bK H fun v38 hC H=>js 4 hI29 [(0, slice A2 a1.length c3), (1, int .i64 a6), (2, int .i64 a7), (3, int .i64 a8), (8, pointer (some ⟨g12, 0, none⟩)), (25, bool v38)] ?_ fun _ wd41 hI42=>?_
 refine have H:=hC;dC (v25 = true) (fun h44=>?_) fun h44=>?_
 refine yK h44 H fun H=>Sk 3 z z (vY h44) z<|pkt (vY h44) z<|nl<|?_
 cases H
 exact je ⟨z, z, z, z, z, z, tv⟩ hI29
 refine nK h44 H fun H=>mv (hw:=gY z z z (vN h44)) z<|bK H fun y50 hy45 H=>cv (hw:=gY z z z (vN h44)) bo44 (floats_within_spec hy45 hI29) z z fun wd48 hI49=>q_not (hw:=gY z z z (vN h44)) z<|pkf (vN h44) z<|nl<|?_
 cases H
 exact je ⟨z, z, z, z, z, z, tv⟩ hI49
 refine nl<|hK18 _ _ _<|dC (v38 = true) (fun h51=>?_) fun h51=>?_
 refine yK h51 H fun H=>wt (vY h51)<|sr fun K52 hK53=>q_build (vs := []) (cs := [int .i64 0, int .i64 0]) ze53 pl53 z z<|stk hI42 0 ag53 z z z z z z z fun wd54 hI55=>asn z<|nl<|hK53 _ _ _<|wr<|have hr56:=res_cell (P := Tryz.prog) hI55 0 (cs := [int .i64 0, int .i64 0]) (g := g12) (o := 0) ag53 z z z;have hI57:=Hp.pick 1 [] hI55 z;?_
 cases H
 exact rt ⟨_, _, _, z, z, hr56, ⟨_, _, z, z, z⟩⟩ hI57
 refine nK h51 H fun H=>wf (vN h51)<|ws<|hK16 _ _ _<|sr fun K58 hK59=>mv z<|mv z<|mv z<|mv z<|bK2 H fun y65 y66 hy60 H=>cv bo45 (floats_room_spec hy60 hI42 hl4 hD5) z z fun wd63 hI64=>mv z<|exk z z<|exk z z<|?_
 refine q_alloc hI64 ze53 fun g68 wd69 hI70=>stk hI70 0 ag53 z z z z z z z fun wd71 hI72=>asn z<|nl<|hK59 _ _ _<|sr fun K73 hK74=>lda hI72 0 ag53 z z z z<|stk hI72 1 ag53 z z z z z z z fun wd75 hI76=>asn z<|nl<|hK74 _ _ _<|wr<|have hr77:=res_cell (P := Tryz.prog) hI76 1 (cs := [int .i64 y65.Lo, int .i64 y65.Hi]) (g := g12) (o := 0) ag53 z z z;have hI78:=Hp.pick 2 [] hI76 z;?_
 cases H
 exact rt ⟨_, _, _, z, z, hr77, ⟨_, _, z, z, z⟩⟩ hI78
theorem bidi_isLine_spec {a1 a2 r1003 G L w} (H : bidi_isLine a1 a2 = some r1003) (hI : Hp G L w) :
    Calls Tryz.prog 146 [string a1, int .i64 a2].toArray w fun e w' => Hp G L w' ∧ e = .returned (bool r1003) := by
 refine calls_intro (N := 15) Tryz.func146 z z (Nat.le_of_ble_eq_true z)<|?_
 unfold bidi_isLine at H
 refine sr fun K3 hK4=>asn z<|nl<|hK4 _ _ _<|sr fun K5 hK6=>mv z<|bK H fun y12 hy7 H=>cv bo39 (text_Valid_spec hy7 hI) z z fun wd10 hI11=>mv z<|bK H fun v13 hC H=>js 7 hI11 [(14, bool v13)] ?_ fun _ wd16 hI17=>?_
 refine have H:=hC;dC (y12 = true) (fun h19=>?_) fun h19=>?_
 refine yK h19 H fun H=>mv (hw:=gY z z z (vY h19)) z<|q_eql (hw:=gY z z z (vY h19)) z z<|mv (hw:=gY z z z (vY h19)) z<|bK H fun v20 hC H=>js 3 hI11 [(7, bool y12), (13, bool v20)] ?_ fun _ wd23 hI24=>?_
 refine have H:=hC;dC (a2 = 0) (fun h26=>?_) fun h26=>?_
 refine yK h26 H fun H=>Sk 2 z z (bY h26) z<|pkt (hw:=gY z z z (vY h19)) (bY h26) z<|nl<|?_
 cases H
 exact je ⟨z, z, tv⟩ hI11
 refine nK h26 H fun H=>mv (hw:=gY z z z (bN h26)) z<|q_eql (hw:=gY z z z (bN h26)) z z<|pkf (hw:=gY z z z (vY h19)) (bN h26) z<|nl<|?_
 cases H
 exact je ⟨z, z, tv⟩ hI11
 refine pkt (vY h19) z<|nl<|?_
 cases H
 exact je ⟨z, tv⟩ hI24
 refine nK h19 H fun H=>Sk 3 z z (vN h19) z<|Su 2 z<|wN (gN z z z (vN h19) z)<|pkf (vN h19) z<|nl<|?_
 cases H
 exact je ⟨z, tv⟩ hI11
 refine asn z<|nl<|hK6 _ _ _<|wr<|?_
 cases H
 exact rt ⟨_, _, z, z, z⟩ hI17
theorem bidi_runs_byte_k1_spec {a1 A2 c3 r1008 G L w} (H : bidi_runs_byte_k1 a1 = some r1008) (hI : Hp G L w) (hl4 : a1.length ≤ c3) (hD5 : Dat (Kd.int .u8) G A2 a1) :
    Calls Tryz.prog 173 [slice A2 a1.length c3, func (.func 174) [].toArray [].toArray].toArray w fun e w' => ∃ (g1007 : Nat) (A1009 : Option Addr) (c1010 : Nat) (g1014 : Nat) (G' : Gh), G ≤ G' ∧ Hp G' (bx g1007 [slice A1009 r1008.length c1010] 133 :: bx g1014 [func (.func 174) [].toArray [].toArray] 186 :: L) w' ∧ r1008.length ≤ c1010 ∧ Dat (Kd.int .u8) G' A1009 r1008 ∧ e = .returned (func (.func 187) [].toArray [pointer (some ⟨g1007, 0, none⟩), pointer (some ⟨g1014, 0, none⟩)].toArray) := by
 refine calls_intro (N := 6) Tryz.func173 z z (Nat.le_of_ble_eq_true z)<|?_
 unfold bidi_runs_byte_k1 at H
 refine sr fun K6 hK7=>bxk hI z z fun g9 wd10 hI11=>bxk hI11 z z fun g13 wd14 hI15=>asn z<|nl<|hK7 _ _ _<|sr fun K16 hK17=>q_fn (vs := []) (us := [pointer (some ⟨g9, 0, none⟩), pointer (some ⟨g13, 0, none⟩)]) z z<|asn z<|nl<|hK17 _ _ _<|wr<|have hI18:=Hp.pick 2 [1, 0] hI15 z;?_
 cases H
 exact ⟨.inr z, z, _, ⟨_, _, z, z, z⟩, g9, A2, c3, g13, _, gR, hI18, hl4, hD5, z⟩
theorem bidi_directions_2_spec {a1 r1002 G L w} (H : bidi_directions_2 a1 = some r1002) (hI : Hp G L w) :
    Calls Tryz.prog 174 [int .u8 a1].toArray w fun e w' => Hp G L w' ∧ e = .returned (bool r1002) := by
 refine calls_intro (N := 6) Tryz.func174 z z (Nat.le_of_ble_eq_true z)<|?_
 unfold bidi_directions_2 at H
 refine sr fun K2 hK3=>asn z<|nl<|hK3 _ _ _<|sr fun K4 hK5=>mv z<|bK H fun y11 hy6 H=>cv bo77 (text_Class_spec hy6 hI) z z fun wd9 hI10=>q_gtr z z<|asn z<|nl<|hK5 _ _ _<|wr<|?_
 cases H
 exact rt ⟨_, _, z, z, z⟩ hI10
theorem bidi_runs_1_byte_k1_spec {σ : Type} {St : σ → Gh → List Itm → Prop} {yl} {φ : σ → (Int × Int) → Option (σ × Bool)} {sy : σ} {a3 g2 A4 c5 g9} {ry : σ} {G T w} (H : bidi_runs_1_byte_k1 φ sy a3 = some ry) (hI : Hp G (bx g2 [slice A4 a3.length c5] 133 :: bx g9 [func (.func 174) [].toArray [].toArray] 186 :: T) w) (hl6 : a3.length ≤ c5) (hD7 : Dat (Kd.int .u8) G A4 a3) (hy : Yl Tryz.prog φ (encP (enc1 (Kd.int .i64)) (enc1 (Kd.int .i64))) St yl) (hS : St sy G T) :
    Calls Tryz.prog 187 [func (.yield yl) #[] #[], pointer (some ⟨g2, 0, none⟩), pointer (some ⟨g9, 0, none⟩)].toArray w fun e w' => ∃ (T' : List Itm) (G' : Gh), G ≤ G' ∧ Hp G' (bx g2 [slice A4 a3.length c5] 133 :: bx g9 [func (.func 174) [].toArray [].toArray] 186 :: T') w' ∧ St ry G' T' ∧ e = .returned (tuple [].toArray) := by
 refine calls_intro (N := 40) Tryz.func187 z z (Nat.le_of_ble_eq_true z)<|?_
 unfold bidi_runs_1_byte_k1 at H
 refine sr fun K10 hK11=>asn z<|nl<|hK11 _ _ _<|wb<|bK H fun o43 hC H=>?_
 refine wpc_mono (Q := fun e r ds w => match (generalizing := false) o43 with | (Sum.inl v30) => e = .ret ∧ ∃ (T29 : List Itm) (G35 : Gh), ds = [] ∧ G ≤ G35 ∧ Has [] r ∧ Hp G35 (bx g2 [slice A4 a3.length c5] 133 :: bx g9 [func (.func 174) [].toArray [].toArray] 186 :: T29) w ∧ St v30 G35 T29 ∧ True | (Sum.inr v33) => e = .exit 0 ∧ ∃ (T32 : List Itm) (G39 : Gh), ds = [] ∧ G ≤ G39 ∧ Has [] r ∧ Hp G39 (bx g2 [slice A4 a3.length c5] 133 :: bx g9 [func (.func 174) [].toArray [].toArray] 186 :: T32) w ∧ St v33 G39 T32 ∧ True) ?_ ?_
 refine wpc_loop fun I hLp=>?_
 refine bidi_runs_1_byte_k1_l28.partial_correctness φ a3 (fun v16 v18 o => ∀ (T17 : List Itm) (G44 : Gh) (r : Rg) (w : World), G ≤ G44 → Has [(0, func (.yield yl) #[] #[]), (1, pointer (some ⟨g2, 0, none⟩)), (2, pointer (some ⟨g9, 0, none⟩)), (4, int .i64 v16)] r → Hp G44 (bx g2 [slice A4 a3.length c5] 133 :: bx g9 [func (.func 174) [].toArray [].toArray] 186 :: T17) w → St v18 G44 T17 → o = o43 → I r [] w) ?_ 0 sy _ hC T _ _ _ gR ⟨rfl, rfl, rfl, rfl, tv⟩ hI hS rfl
 intro _ ih v16 v18 o H T17 G44 r wd46 hG45 hHas hI47 hS19 ho
 rw [ho] at H; clear ho
 rw [hHas.eq]; clear hHas
 refine hLp _ _ _<|sQ fun K48 hK49=>sr fun K50 hK51=>mv z<|ld hI47 0 ag133 z z z<|q_len so133 z<|q_lss z z<|nl<|hK51 _ _ _<|dC (v16 < (a3.length : Int)) (fun h52=>?_) fun h52=>?_
 refine yK h52 H fun H=>wt (bY h52)<|ws<|hK49 _ _ _<|sQ fun K53 hK54=>wb<|sr fun K55 hK56=>mv z<|asn z<|nl<|hK56 _ _ _<|sQ fun K57 hK58=>wb<|bK H fun v70 hC H=>?_
 refine wpc_mono (Q := fun e r ds w => e = .exit 2 ∧ ds = [] ∧ Has [(0, func (.yield yl) #[] #[]), (1, pointer (some ⟨g2, 0, none⟩)), (2, pointer (some ⟨g9, 0, none⟩)), (4, int .i64 v16), (5, int .i64 v70)] r ∧ Hp G44 (bx g2 [slice A4 a3.length c5] 133 :: bx g9 [func (.func 174) [].toArray [].toArray] 186 :: T17) w ∧ True) ?_ ?_
 refine wpc_loop fun I hLp=>?_
 refine bidi_runs_1_byte_k1_l69.partial_correctness a3 (fun v63 o => ∀ (r : Rg) (w : World), Has [(0, func (.yield yl) #[] #[]), (1, pointer (some ⟨g2, 0, none⟩)), (2, pointer (some ⟨g9, 0, none⟩)), (4, int .i64 v16), (5, int .i64 v63)] r → Hp G44 (bx g2 [slice A4 a3.length c5] 133 :: bx g9 [func (.func 174) [].toArray [].toArray] 186 :: T17) w → o = v70 → I r [] w) ?_ v16 _ hC _ _ ⟨rfl, rfl, rfl, rfl, rfl, tv⟩ hI47 rfl
 intro _ ih v63 o H r wd78 hHas hI79 ho
 rw [ho] at H; clear ho
 rw [hHas.eq]; clear hHas
 refine hLp _ _ _<|sQ fun K80 hK81=>sQ fun K82 hK83=>bK H fun v93 hC H=>jc .normal hI79 [(0, func (.yield yl) #[] #[]), (1, pointer (some ⟨g2, 0, none⟩)), (2, pointer (some ⟨g9, 0, none⟩)), (4, int .i64 v16), (5, int .i64 v63), (24, bool v93)] ?_ fun _ wd96 hI97=>?_
 refine have H:=hC;?_
 refine wpc_class hI79 mixo (by kernel_rfl) ?_
 refine wq' (fun Gq w hGq Iq=>mv z wqd) z z<|wq' (fun Gq w hGq Iq=>ld Iq 0 ag133 z z z wqd) z z<|wq' (fun Gq w hGq Iq=>q_len so133 z wqd) z z<|wq' (fun Gq w hGq Iq=>q_lss z z wqd) z z<|wq' (fun Gq w hGq Iq=>mv z wqd) z z<|dC (v63 < (a3.length : Int)) (fun h103=>?_) fun h103=>?_
 refine yK h103 H fun H=>wq' (fun Gq w hGq Iq=>ld (hw:=gY z z z (bY h103)) Iq 1 ag186 z z z wqd) z z<|wq' (fun Gq w hGq Iq=>ld (hw:=gY z z z (bY h103)) Iq 0 ag133 z z z wqd) z z<|wq' (fun Gq w hGq Iq=>mv (hw:=gY z z z (bY h103)) z wqd) z z<|iK H fun⟨h104, h104'⟩H=>?_
 obtain ⟨ad105, cs106, hA107, hK108, hn109, hc110⟩ := Dat.get (Dat.mono hG45 hD7) (0 : Int) (v63) h104 h104'
 obtain rfl := hK108
 refine wq' (fun Gq w hGq Iq=>q_ia (hw:=gY z z z (bY h103)) el133 z hA107 z h104 h104' wqd) z z<|wq' (fun Gq w hGq Iq=>q_lf (hw:=gY z z z (bY h103)) Iq ag5 z (hGq.cel _ _ (hc110 0 _ z)) wqd) z z<|bK H fun y112 hy111 H=>wk (vs := [int .u8 (a3.getD (Int.toNat v63) (0 : Int))]) (v := bool y112) bo174 z z (fun Gq w hGq Iq => ?_) ?_ (hw := gY z z z (bool_yes h103))
 refine Calls.mono (bidi_directions_2_spec hy111 Iq)<|?_
 rintro _ w2 ⟨I2, rfl⟩
 exact ⟨z, _, hGq, I2⟩
 refine wq' (fun Gq w hGq Iq=>pkt (bY h103) z wqd) z z<|wz fun wd101 G99 hG100 hI102=>?_
 cases H
 exact je ⟨z, z, z, z, z, z, tv⟩ (Hp.low hG100 hI102)
 refine nK h103 H fun H=>wp (guard_no z z z (bN h103) z)<|wp (guard_no z z z (bN h103) z)<|wp (guard_no z z z (bN h103) z)<|wp (guard_no z z z (bN h103) z)<|wp (guard_no z z z (bN h103) z)<|wp (guard_no z z z (bN h103) z)<|wq' (fun Gq w hGq Iq=>pkf (bN h103) z wqd) z z<|wz fun wd101 G99 hG100 hI102=>?_
 cases H
 exact je ⟨z, z, z, z, z, z, tv⟩ (Hp.low hG100 hI102)
 refine hK83 _ _ _<|dC (v93 = true) (fun h113=>?_) fun h113=>?_
 exact yK h113 H fun H=>wt (vY h113)<|ws<|hK81 _ _ _<|wb<|wpc_region<|mv z<|q_add z z<|asn z<|nl<|ih _ _ H _ _ ⟨z, z, z, z, z, tv⟩ hI97 z
 refine nK h113 H fun H=>wf (vN h113)<|wx<|?_
 cases H
 exact ⟨z, z, ⟨z, z, z, z, z, tv⟩, hI97, tv⟩
 rintro e r ds wd73 ⟨rfl, rfl, hHas, hI74, _⟩
 rw [hHas.eq]; clear hHas
 refine hK58 _ _ _<|sQ fun K114 hK115=>sr fun K116 hK117=>mv z<|mv z<|q_gtr z z<|mv z<|bK2 H fun v118 v120 hC H=>?_
 refine wpq_split 6 (K := fun e r ds w => e = .normal ∧ ∃ (T119 : List Itm) (G122 : Gh), ds = [] ∧ G44 ≤ G122 ∧ Has [(0, func (.yield yl) #[] #[]), (1, pointer (some ⟨g2, 0, none⟩)), (2, pointer (some ⟨g9, 0, none⟩)), (4, int .i64 v16), (5, int .i64 v70), (36, bool v118)] r ∧ Hp G122 (bx g2 [slice A4 a3.length c5] 133 :: bx g9 [func (.func 174) [].toArray [].toArray] 186 :: T119) w ∧ St v120 G122 T119 ∧ True) ?_ ?_
 refine have H:=hC;dC (v16 < v70) (fun h127=>?_) fun h127=>?_
 refine yK h127 H fun H=>mv (hw:=gY z z z (bY h127)) z<|mv (hw:=gY z z z (bY h127)) z<|mv (hw:=gY z z z (bY h127)) z<|bK2 H fun s128 b129 hx130 H=>q_yl (hw:=gY z z z (bY h127)) hy [bx g2 [slice A4 a3.length c5] 133, bx g9 [func (.func 174) [].toArray [].toArray] 186] hI74 hS19 z z ⟨_, _, z, ⟨_, z, z⟩, ⟨_, z, z⟩⟩ hx130 fun wd131 G132 T133 hG134 hS135 hI136=>q_not (hw:=gY z z z (bY h127)) z<|pkt (bY h127) z<|nl<|?_
 cases H
 exact ⟨z, T133, _, z, hG134, ⟨z, z, z, z, z, z, tv⟩, hI136, hS135, tv⟩
 refine nK h127 H fun H=>Sk 5 z z (bN h127) z<|pkf (bN h127) z<|nl<|?_
 cases H
 exact ⟨z, T17, _, z, gR, ⟨z, z, z, z, z, z, tv⟩, hI74, hS19, tv⟩
 rintro e r ds wd124 ⟨rfl, T119, G122, rfl, hG123, hHas, hI125, hS121, _⟩
 rw [hHas.eq]; clear hHas
 refine nl<|hK117 _ _ _<|dC (v118 = true) (fun h137=>?_) fun h137=>?_
 refine yK h137 H fun H=>wt (vY h137)<|wr<|?_
 cases H
 exact ⟨z, T119, _, z, (gT hG45 hG123), trivial, hI125, hS121, tv⟩
 refine nK h137 H fun H=>wf (vN h137)<|ws<|hK115 _ _ _<|wpc_region<|mv z<|mv z<|q_max z z<|asn z<|nl<|hK54 _ _ _<|wpc_region<|mv z<|q_add z z<|?_
 exact asn z<|nl<|ih _ _ _ H T119 _ _ _ (gT hG45 hG123) ⟨z, z, z, z, tv⟩ hI125 hS121 z
 refine nK h52 H fun H=>wf (bN h52)<|wx<|?_
 cases H
 exact ⟨z, T17, _, z, hG45, trivial, hI47, hS19, tv⟩
 rcases o43 with v30 | v33
 rintro e r ds wd37 ⟨rfl, T29, G35, rfl, hG36, hHas, hI38, hS31, _⟩
 rw [hHas.eq]; clear hHas
 cases H
 exact ⟨.inr z, z, _, z, T29, _, hG36, hI38, hS31, z⟩
 rintro e r ds wd41 ⟨rfl, T32, G39, rfl, hG40, hHas, hI42, hS34, _⟩
 rw [hHas.eq]; clear hHas
 cases H
 exact ⟨.inl z, z, _, z, T32, _, hG40, hI42, hS34, z⟩
theorem bidi_directions_1_k1_spec {a1 a4 a17 g3 A9 n10 c11 g16 r1018 G L w} (H : bidi_directions_1_k1 a1 a4 a17 = some r1018) (hI : Hp G (bx g3 [slice A9 n10 c11] 44 :: rwI G (Kd.int .i64) A9 [] a4 [] c11 3 :: bx g16 [int .i64 a17] 3 :: L) w) (hn12 : a4.length = n10) (hM13 : Mw A9 A9 ([] : List Int).length n10 c11 c11 1) :
    Calls Tryz.prog 172 [int .i64 a1, pointer (some ⟨g3, 0, none⟩), pointer (some ⟨g16, 0, none⟩)].toArray w fun e w' => ∃ (G' : Gh), G ≤ G' ∧ Hp G' (bx g3 [slice A9 n10 c11] 44 :: rwI G' (Kd.int .i64) A9 [] a4 [] c11 3 :: bx g16 [int .i64 a17] 3 :: L) w' ∧ e = .returned (int .i64 r1018) := by
 refine calls_intro (N := 18) Tryz.func172 z z (Nat.le_of_ble_eq_true z)<|?_
 unfold bidi_directions_1_k1 at H
 refine sr fun K18 hK19=>asn z<|nl<|hK19 _ _ _<|sQ fun K20 hK21=>sr fun K22 hK23=>mv z<|q_lss z z<|mv z<|bK H fun v24 hC H=>jS 5 G [(0, int .i64 a1), (1, pointer (some ⟨g3, 0, none⟩)), (2, pointer (some ⟨g16, 0, none⟩)), (12, bool v24)] (bx g3 [slice A9 n10 c11] 44 :: bx g16 [int .i64 a17] 3 :: rwI G (Kd.int .i64) A9 [] a4 [] c11 3 :: L) ?_ fun _ wd27 hI28=>?_
 refine have H:=hC;dC (a1 < 0) (fun h30=>?_) fun h30=>?_
 refine yK h30 H fun H=>Sk 4 z z (bY h30) z<|pkt (bY h30) z<|nl<|have hI33:=Hp.pick 3 [0, 2, 1] hI z;?_
 cases H
 exact je ⟨z, z, z, z, tv⟩ hI33
 refine nK h30 H fun H=>mv (hw:=gY z z z (bN h30)) z<|ld (hw:=gY z z z (bN h30)) hI 0 ag44 z z z<|q_lenm (hw:=gY z z z (bN h30)) so44 z hn12<|q_geq (hw:=gY z z z (bN h30)) z z<|pkf (bN h30) z<|nl<|have hI36:=Hp.pick 3 [0, 2, 1] hI z;?_
 cases H
 exact je ⟨z, z, z, z, tv⟩ hI36
 refine nl<|hK23 _ _ _<|dC (v24 = true) (fun h37=>?_) fun h37=>?_
 refine yK h37 H fun H=>wt (vY h37)<|sr fun K38 hK39=>ld hI28 1 ag3 z z z<|asn z<|nl<|hK39 _ _ _<|wr<|have hI42:=Hp.pick 3 [0, 2, 1] hI28 z;?_
 cases H
 exact ⟨.inr z, z, _, ⟨_, _, z, z, z⟩, _, gR, hI42, z⟩
 refine nK h37 H fun H=>wf (vN h37)<|ws<|hK21 _ _ _<|sr fun K43 hK44=>ld hI28 0 ag44 z z z<|mv z<|iK H fun⟨h45, h45'⟩H=>have hb46:=lt_n hn12 h45';?_
 obtain ⟨ad47, hA48⟩ := Mw.ad hM13 h45 hb46
 refine q_ia el44 z hA48 z h45 hb46<|?_
 obtain ⟨_, rfl, _, hc50⟩ := Hp.rwGet hI28 2 rfl hM13 hn12 hA48 (0 : Int) h45 hb46
 refine q_load1 (v := int .i64 (a4.getD (Int.toNat a1) (0 : Int))) ag3 z (cell0 (hc50 0 _ z))<|asn z<|nl<|hK44 _ _ _<|wr<|have hI53:=Hp.pick 3 [0, 2, 1] hI28 z;?_
 cases H
 exact ⟨.inr z, z, _, ⟨_, _, z, z, z⟩, _, gR, hI53, z⟩
theorem bidi_fill_k1_spec {a1 a12 A2 pre3 post4 A5 n6 c7 lim8 q1013 G L w} (H : bidi_fill_k1 a1 a12 = some q1013) (hI : Hp G (rwI G (Kd.int .i64) A2 pre3 a1 post4 lim8 3 :: L) w) (hn9 : a1.length = n6) (hM10 : Mw A2 A5 pre3.length n6 c7 lim8 1) :
    Calls Tryz.prog 175 [slice A5 n6 c7, int .i64 a12].toArray w fun e w' => ∃ (G' : Gh), G ≤ G' ∧ Hp G' (rwI G' (Kd.int .i64) A2 pre3 q1013 post4 lim8 3 :: L) w' ∧ q1013.length = n6 ∧ e = .returned (tuple [].toArray) := by
 refine calls_intro (N := 15) Tryz.func175 z z (Nat.le_of_ble_eq_true z)<|?_
 unfold bidi_fill_k1 at H
 refine sr fun K13 hK14=>mv z<|q_lenm so44 z hn9<|mv z<|nl<|hK14 _ _ _<|wb<|bK H fun v34 hC H=>wpc_mono (Q := fun e r ds w => e = .exit 0 ∧ ∃ (Gr36 : Gh) (G38 : Gh), ds = [] ∧ G ≤ G38 ∧ Has [] r ∧ Hp G38 (rwI Gr36 (Kd.int .i64) A2 pre3 v34 post4 lim8 3 :: L) w ∧ v34.length = n6 ∧ Gr36 ≤ G38 ∧ True) ?_ ?_
 refine wpc_loop fun I hLp=>?_
 refine bidi_fill_k1_l33.partial_correctness a1 a12 (fun v19 v21 o => ∀ (Gr22 : Gh) (G43 : Gh) (r : Rg) (w : World), G ≤ G43 → Has [(0, slice A5 n6 c7), (1, int .i64 a12), (6, int .i64 (a1.length : Int)), (7, int .i64 v21)] r → Hp G43 (rwI Gr22 (Kd.int .i64) A2 pre3 v19 post4 lim8 3 :: L) w → v19.length = n6 → Gr22 ≤ G43 → o = v34 → I r [] w) ?_ a1 0 _ hC G _ _ _ gR ⟨rfl, rfl, rfl, rfl, tv⟩ hI hn9 gR rfl
 intro _ ih v19 v21 o H Gr22 G43 r wd45 hG44 hHas hI46 hn20 hGr23 ho
 rw [ho] at H; clear ho
 rw [hHas.eq]; clear hHas
 refine hLp _ _ _<|sr fun K47 hK48=>q_lss z z<|nl<|hK48 _ _ _<|sQ fun K49 hK50=>dC (v21 < (a1.length : Int)) (fun h51=>?_) fun h51=>?_
 refine yK h51 H fun H=>wt (bY h51)<|ws<|hK50 _ _ _<|sQ fun K52 hK53=>wb<|sr fun K54 hK55=>mv z<|asn z<|nl<|hK55 _ _ _<|wpc_region<|mv z<|mv z<|?_
 refine mv z<|iK H fun⟨h56, h56'⟩H=>have hb57:=lt_n hn9 h56';?_
 obtain ⟨ad58, hA59⟩ := Mw.ad hM10 h56 hb57
 exact q_ia el44 z hA59 z h56 hb57<|q_stm (kd := (Kd.int .i64)) hI46 0 (v := int .i64 a12) (news := [int .i64 a12]) (0 : Int) a12 ag3 z hM10 hn20 hA59 h56 hb57 (add_zero' _) z z z z z (Nat.le_of_ble_eq_true z) gR (fun _ ho => setAll_K ho z z) fun wd60 hI61=>nl<|hK53 _ _ _<|wpc_region<|q_add z z<|mv z<|nl<|have hI62:=Hp.rwUp hI61 0 z hGr23;ih _ _ _ H G43 _ _ _ hG44 ⟨z, z, z, z, tv⟩ hI62 (set_len hn20) gR z
 refine nK h51 H fun H=>wf (bN h51)<|wx<|have hI63:=Hp.rwUp hI46 0 z hGr23;?_
 cases H
 exact ⟨z, G43, _, z, hG44, trivial, hI63, hn20, gR, tv⟩
 rintro e r ds wd40 ⟨rfl, Gr36, G38, rfl, hG39, hHas, hI41, hn35, hGr37, _⟩
 rw [hHas.eq]; clear hHas
 refine have hI64:=Hp.rwUp hI41 0 z hGr37;?_
 cases H
 exact ⟨.inl z, z, _, z, _, hG39, hI64, hn35, z⟩
theorem bidi_directions_spec {a1 a2 r1003 G L w} (H : bidi_directions a1 a2 = some r1003) (hI : Hp G L w) :
    Calls Tryz.prog 147 [string a1, int .i64 a2].toArray w fun e w' => ∃ (A1004 : Option Addr) (n1005 : Nat) (c1006 : Nat) (G' : Gh), G ≤ G' ∧ Hp G' (rwI G' (Kd.int .i64) A1004 [] r1003 [] c1006 3 :: L) w' ∧ r1003.length = n1005 ∧ Mw A1004 A1004 ([] : List Int).length n1005 c1006 c1006 1 ∧ e = .returned (slice A1004 n1005 c1006) := by
 refine calls_intro_m (N := 59) Tryz.func147 z z (Nat.le_of_ble_eq_true z)<|?_
 unfold bidi_directions at H
 refine sr fun K3 hK4=>bxk hI z z fun g6 wd7 hI8=>asn z<|nl<|hK4 _ _ _<|sr fun K9 hK10=>mv z<|q_lens so9 z<|iK H fun⟨h11, h11', h11''⟩H=>q_mks (kd := (Kd.int .i64)) (z := (0 : Int)) hI8 el44 ze3 z z z z h11 h11' h11'' fun g13 n14 wd15 hn17 hI16=>q_alloc hI16 ze44 fun g19 wd20 hI21=>stk hI21 0 ag44 z z z z z z z fun wd22 hI23=>nl<|hK10 _ _ _<|?_
 refine sr fun K24 hK25=>ld hI23 2 ag3 z z z<|asn z<|nl<|hK25 _ _ _<|sQ fun K26 hK27=>sr fun K28 hK29=>ld hI23 0 ag44 z z z<|q_lenm so44 z hn17<|mv z<|nl<|hK29 _ _ _<|wb<|bK H fun v51 hC H=>?_
 refine wpc_mono (Q := fun e r ds w => e = .exit 0 ∧ ∃ (Gr53 : Gh) (G55 : Gh), ds = (List.map Go.LG.mark ([] : List Nat)) ∧ G ≤ G55 ∧ Has [(0, string a1), (3, pointer (some ⟨g6, 0, none⟩)), (5, pointer (some ⟨g19, 0, none⟩))] r ∧ Hp G55 (bx g19 [slice (some ⟨g13, 0, none⟩) n14 n14] 44 :: bx g6 [int .i64 a2] 3 :: rwI Gr53 (Kd.int .i64) (some ⟨g13, 0, none⟩) [] v51 [] n14 3 :: (List.map mkI ([] : List Nat) ++ L)) w ∧ v51.length = n14 ∧ Gr53 ≤ G55 ∧ True) ?_ ?_
 refine have hI125:=Hp.pick 3 [0, 2, 1] hI23 z;wpc_loop fun I hLp=>?_
 refine bidi_directions_l50.partial_correctness a1 (fun v34 v36 v37 o => ∀ (Gr38 : Gh) (G60 : Gh) (r : Rg) (w : World), G ≤ G60 → Has [(0, string a1), (3, pointer (some ⟨g6, 0, none⟩)), (5, pointer (some ⟨g19, 0, none⟩)), (6, int .i64 v36), (18, int .i64 ((List.replicate (Int.toNat (a1.size : Int)) (0 : Int)).length : Int)), (19, int .i64 v37)] r → Hp G60 (bx g19 [slice (some ⟨g13, 0, none⟩) n14 n14] 44 :: bx g6 [int .i64 a2] 3 :: rwI Gr38 (Kd.int .i64) (some ⟨g13, 0, none⟩) [] v34 [] n14 3 :: (List.map mkI ([] : List Nat) ++ L)) w → v34.length = n14 → Gr38 ≤ G60 → o = v51 → I r (List.map Go.LG.mark ([] : List Nat)) w) ?_ (List.replicate (Int.toNat (a1.size : Int)) (0 : Int)) a2 0 _ hC G _ _ _ gR ⟨rfl, rfl, rfl, rfl, rfl, rfl, tv⟩ hI125 hn17 gR rfl
 intro _ ih v34 v36 v37 o H Gr38 G60 r wd62 hG61 hHas hI63 hn35 hGr39 ho
 rw [ho] at H; clear ho
 rw [hHas.eq]; clear hHas
 refine hLp _ _ _<|sr fun K64 hK65=>q_lss z z<|nl<|hK65 _ _ _<|sQ fun K66 hK67=>dC (v37 < ((List.replicate (Int.toNat (a1.size : Int)) (0 : Int)).length : Int)) (fun h68=>?_) fun h68=>?_
 refine yK h68 H fun H=>wt (bY h68)<|ws<|hK67 _ _ _<|sQ fun K69 hK70=>bK2 H fun v71 v73 hC H=>?_
 refine wpc_mono (Q := fun e r ds w => e = .normal ∧ ∃ (Gr74 : Gh) (G76 : Gh), ds = (List.map Go.LG.mark ([] : List Nat)) ∧ G60 ≤ G76 ∧ Has [(0, string a1), (3, pointer (some ⟨g6, 0, none⟩)), (5, pointer (some ⟨g19, 0, none⟩)), (6, int .i64 v73), (18, int .i64 ((List.replicate (Int.toNat (a1.size : Int)) (0 : Int)).length : Int)), (19, int .i64 v37)] r ∧ Hp G76 (bx g19 [slice (some ⟨g13, 0, none⟩) n14 n14] 44 :: bx g6 [int .i64 a2] 3 :: rwI Gr74 (Kd.int .i64) (some ⟨g13, 0, none⟩) [] v71 [] n14 3 :: (List.map mkI ([] : List Nat) ++ L)) w ∧ v71.length = n14 ∧ Gr74 ≤ G76 ∧ True) ?_ ?_
 refine have H:=hC;wb<|sr fun K81 hK82=>mv z<|asn z<|nl<|hK82 _ _ _<|sQ fun K83 hK84=>sr fun K85 hK86=>mv z<|mv z<|iK H fun⟨h87, h87'⟩H=>q_is so9 z z h87 h87' z<|bK H fun y93 hy88 H=>?_
 refine cv bo77 (text_Class_spec hy88 hI63) z z fun wd91 hI92=>nl<|hK86 _ _ _<|wb<|sr fun K94 hK95=>q_eql z z<|asn z<|nl<|hK95 _ _ _<|dC (y93 = 1) (fun h96=>?_) fun h96=>?_
 refine yK h96 H fun H=>wt (bY h96)<|wpc_region<|asn z<|nl<|hK84 _ _ _<|wpc_region<|ld hI92 0 ag44 z z z<|mv z<|mv z<|iK H fun⟨h97, h97'⟩H=>have hb98:=lt_n hn17 h97';?_
 obtain ⟨ad99, hA100⟩ := Mw.ad (Mw.new (α := Int) g13 n14 1) h97 hb98
 refine q_ia el44 z hA100 z h97 hb98<|q_stm (kd := (Kd.int .i64)) hI92 2 (v := int .i64 0) (news := [int .i64 0]) (0 : Int) 0 ag3 z (Mw.new (α := Int) g13 n14 1) hn35 hA100 h97 hb98 (add_zero' _) z z z z z (Nat.le_of_ble_eq_true z) gR (fun _ ho => setAll_K ho z z) fun wd101 hI102=>nl<|have hI103:=Hp.rwUp hI102 2 z hGr39;?_
 cases H
 exact ⟨z, G60, _, z, gR, ⟨z, z, z, z, z, z, tv⟩, hI103, (set_len hn35), gR, tv⟩
 refine nK h96 H fun H=>wf (bN h96)<|sr fun K104 hK105=>q_eql z z<|asn z<|nl<|hK105 _ _ _<|dC (y93 = 2) (fun h106=>?_) fun h106=>?_
 refine yK h106 H fun H=>wt (bY h106)<|wpc_region<|asn z<|nl<|hK84 _ _ _<|wpc_region<|ld hI92 0 ag44 z z z<|mv z<|mv z<|iK H fun⟨h107, h107'⟩H=>have hb108:=lt_n hn17 h107';?_
 obtain ⟨ad109, hA110⟩ := Mw.ad (Mw.new (α := Int) g13 n14 1) h107 hb108
 refine q_ia el44 z hA110 z h107 hb108<|q_stm (kd := (Kd.int .i64)) hI92 2 (v := int .i64 1) (news := [int .i64 1]) (0 : Int) 1 ag3 z (Mw.new (α := Int) g13 n14 1) hn35 hA110 h107 hb108 (add_zero' _) z z z z z (Nat.le_of_ble_eq_true z) gR (fun _ ho => setAll_K ho z z) fun wd111 hI112=>nl<|have hI113:=Hp.rwUp hI112 2 z hGr39;?_
 cases H
 exact ⟨z, G60, _, z, gR, ⟨z, z, z, z, z, z, tv⟩, hI113, (set_len hn35), gR, tv⟩
 refine nK h106 H fun H=>wf (bN h106)<|ws<|hK84 _ _ _<|wpc_region<|ld hI92 0 ag44 z z z<|mv z<|mv z<|iK H fun⟨h114, h114'⟩H=>have hb115:=lt_n hn17 h114';?_
 obtain ⟨ad116, hA117⟩ := Mw.ad (Mw.new (α := Int) g13 n14 1) h114 hb115
 refine q_ia el44 z hA117 z h114 hb115<|q_stm (kd := (Kd.int .i64)) hI92 2 (v := int .i64 v36) (news := [int .i64 v36]) (0 : Int) v36 ag3 z (Mw.new (α := Int) g13 n14 1) hn35 hA117 h114 hb115 (add_zero' _) z z z z z (Nat.le_of_ble_eq_true z) gR (fun _ ho => setAll_K ho z z) fun wd118 hI119=>nl<|have hI120:=Hp.rwUp hI119 2 z hGr39;?_
 cases H
 exact ⟨z, G60, _, z, gR, ⟨z, z, z, z, z, z, tv⟩, hI120, (set_len hn35), gR, tv⟩
 rintro e r ds wd78 ⟨rfl, Gr74, G76, rfl, hG77, hHas, hI79, hn72, hGr75, _⟩
 rw [hHas.eq]; clear hHas
 exact hK70 _ _ _<|wpc_region<|q_add z z<|mv z<|nl<|have hI121:=Hp.rwUp hI79 2 z hGr75;ih _ _ _ _ H G76 _ _ _ (gT hG61 hG77) ⟨z, z, z, z, z, z, tv⟩ hI121 hn72 gR z
 refine nK h68 H fun H=>wf (bN h68)<|wx<|have hI122:=Hp.rwUp hI63 2 z hGr39;?_
 cases H
 exact ⟨z, G60, _, z, hG61, ⟨z, z, z, tv⟩, hI122, hn35, gR, tv⟩
 rintro e r ds wd57 ⟨rfl, Gr53, G55, rfl, hG56, hHas, hI58, hn52, hGr54, _⟩
 rw [hHas.eq]; clear hHas
 refine hK27 _ _ _<|sr fun K126 hK127=>q_fn (vs := []) (us := [pointer (some ⟨g19, 0, none⟩), pointer (some ⟨g6, 0, none⟩)]) z z<|q_alloc hI58 ze221 fun g129 wd130 hI131=>stk hI131 0 ag221 z z z z z z z fun wd132 hI133=>nl<|hK127 _ _ _<|sQ fun K134 hK135=>sr fun K136 hK137=>mv z<|q_cbs hI133 so9 el133 ik5 z fun A138 c139 G140 wd141 hG142 hl143 hD144 hI145=>bK H fun y153 hy146 H=>q_cv (vs := [slice A138 (sbytes a1).length c139, func (.func 174) [].toArray [].toArray]) bo173 z z (bidi_runs_byte_k1_spec (a1 := sbytes a1) hy146 hI145 hl143 hD144)<|?_
 rintro _ wd149 ⟨g152, A154, c155, g159, G147, hG148, hI150, hl156, hD157, rfl⟩
 refine ⟨_, rfl, ?_⟩
 refine nl<|hK137 _ _ _<|wb<|have hI160:=Hp.rwUp hI150 5 z (gT hGr54 (gT hG142 hG148));bK2 H fun v162 jo172 hr259 H=>wpc_range hI160 bo187 z fun fn tmps gl gd161 wd280 hA256 hI257=>?_
 have hY258 : Yl Tryz.prog (rnd (fun (u : (List Int)) (x : Int × Int) => bidi_directions_r170 a1 a2 u x.1 x.2)) (encP (enc1 (Kd.int .i64)) (enc1 (Kd.int .i64))) _ gl := yl_intro (pp := [39, 40]) (gdd := gd161) hI257 (fun (u : (List Int)) (x : Int × Int) => bidi_directions_r170 a1 a2 u x.1 x.2) [] (fun (u : (List Int)) (G' : Gh) (K : List Itm) => ∃ (Gr164 : Gh) (_ : G147 ≤ G'), K = bx g129 [func (.func 172) [].toArray [pointer (some ⟨g19, 0, none⟩), pointer (some ⟨g6, 0, none⟩)].toArray] 221 :: bx g19 [slice (some ⟨g13, 0, none⟩) n14 n14] 44 :: bx g6 [int .i64 a2] 3 :: rwI Gr164 (Kd.int .i64) (some ⟨g13, 0, none⟩) [] u [] n14 3 :: (List.map mkI (gd161 :: ([] : List Nat)) ++ L) ∧ u.length = n14 ∧ Gr164 ≤ G' ∧ True) hA256 (fun _ _ _ h => (fun h => encP_len (fun h => enc1_len h) (fun h => enc1_len h) h) h) (fun hG' ⟨Gr164, h0', hK', hn163, hGr165, _⟩ => ⟨Gr164, gT h0' hG', hK', hn163, (gT hGr165 hG'), tv⟩) (by
 rintro Rd Bs v162 u' ⟨x178, x180⟩ jo' G174 K M wd176 vs ⟨Gr164, hG175, rfl, hn163, hGr165, _⟩ ⟨_, _, rfl, ⟨_, rfl, hv179⟩, ⟨_, rfl, hv181⟩⟩ H hI182
 cases hv179
 cases hv181
 replace H : bidi_directions_r170 a1 a2 v162 x178 x180 = some (u', jo') := H
 unfold bidi_directions_r170 at H
 refine sr fun K183 hK184=>asn z<|nl<|hK184 _ _ _<|wpc_region<|asn z<|nl<|?_
 refine ⟨rfl, rfl, _, _, gR, hI182, fun wd186 hI185 => ?_⟩
 refine wb<|sr fun K187 hK188=>ld hI185 3 ag3 z z z<|asn z<|nl<|hK188 _ _ _<|sQ fun K189 hK190=>sr fun K191 hK192=>ld hI185 1 ag221 z z z<|mv z<|q_sub z z<|have hI193:=Hp.rwUp hI185 4 z hGr165;have hI198:=Hp.pick 5 [2, 4, 3, 0, 1] hI193 z;bK H fun y204 hy199 H=>?_
 refine q_cv (vs := [int .i64 (w64 (x178 - 1)), pointer (some ⟨g19, 0, none⟩), pointer (some ⟨g6, 0, none⟩)]) bo172 z z (bidi_directions_1_k1_spec hy199 hI198 hn163 (Mw.new (α := Int) g13 n14 1))<|?_
 rintro _ wd202 ⟨G200, hG201, hI203, rfl⟩
 refine ⟨_, rfl, ?_⟩
 refine asn z<|nl<|hK192 _ _ _<|sr fun K205 hK206=>mv z<|ld hI203 4 ag221 z z z<|mv z<|bK H fun y212 hy207 H=>q_cv (vs := [int .i64 x180, pointer (some ⟨g19, 0, none⟩), pointer (some ⟨g6, 0, none⟩)]) bo172 z z (bidi_directions_1_k1_spec hy207 hI203 hn163 (Mw.new (α := Int) g13 n14 1))<|?_
 rintro _ wd210 ⟨G208, hG209, hI211, rfl⟩
 refine ⟨_, rfl, ?_⟩
 refine q_eql z z<|nl<|hK206 _ _ _<|dC (y204 = y212) (fun h213=>?_) fun h213=>?_
 refine yK h213 H fun H=>wt (bY h213)<|wpc_region<|mv z<|asn z<|nl<|hK190 _ _ _<|wpc_region<|ld hI211 0 ag44 z z z<|mv z<|mv z<|iK H fun⟨h214, h215, h216⟩H=>q_sl (l := x178) (h := x180) el44 z (.inr ⟨_, z, z⟩) (.inr ⟨_, z, z⟩) (Mw.new (α := Int) g13 n14 1).le h214 h215 (le_n hn17 h216)<|mv z<|?_
 refine have hI217:=Hp.rwRe hI211 1 z (win_eq v162 [] [] h214 h215 (le_t hn163 hn17 h216));have hI222:=Hp.pick 5 [1, 0, 2, 3, 4] hI217 z;bK H fun y228 hy223 H=>q_cv (vs := [slice (if n14 = Int.toNat x178 then (some ⟨g13, 0, none⟩) else Option.map (fun a => Addr.add a (Int.toNat x178 * 1)) (some ⟨g13, 0, none⟩)) (Int.toNat x180 - Int.toNat x178) (n14 - Int.toNat x178), int .i64 y204]) bo175 z z (bidi_fill_k1_spec (a1 := cutl v162 x178 x180) hy223 hI222 (cut_len h214 h215 (le_t hn163 hn17 h216)) (Mw.win (kd := (Kd.int .i64)) (A := (some ⟨g13, 0, none⟩)) (c := n14) (pre := []) (Mw.new (α := Int) g13 n14 1) hn163 h214 h215 (le_t hn163 hn17 h216)))<|?_
 rintro _ wd226 ⟨G224, hG225, hI227, hn229, rfl⟩
 refine ⟨_, rfl, ?_⟩
 refine have hI230:=Hp.rwRe hI227 0 z (unwin_eq v162 [] [] y228 x178 x180);nl<|have hI234:=Hp.pick 5 [3, 4, 1, 2, 0] hI230 z;?_
 cases H
 exact ⟨z, _, _, (gT (gT hG201 hG209) hG225), ⟨G224, (gT (gT (gT hG175 hG201) hG209) hG225), z, (unwin_len hn163 h214 h215 (le_t hn163 hn17 h216) hn229), gR, tv⟩, hI234⟩
 refine nK h213 H fun H=>wf (bN h213)<|ws<|hK190 _ _ _<|wpc_region<|ld hI211 0 ag44 z z z<|mv z<|mv z<|iK H fun⟨h235, h236, h237⟩H=>q_sl (l := x178) (h := x180) el44 z (.inr ⟨_, z, z⟩) (.inr ⟨_, z, z⟩) (Mw.new (α := Int) g13 n14 1).le h235 h236 (le_n hn17 h237)<|mv z<|have hI238:=Hp.rwRe hI211 1 z (win_eq v162 [] [] h235 h236 (le_t hn163 hn17 h237));have hI243:=Hp.pick 5 [1, 0, 2, 3, 4] hI238 z;bK H fun y249 hy244 H=>?_
 refine q_cv (vs := [slice (if n14 = Int.toNat x178 then (some ⟨g13, 0, none⟩) else Option.map (fun a => Addr.add a (Int.toNat x178 * 1)) (some ⟨g13, 0, none⟩)) (Int.toNat x180 - Int.toNat x178) (n14 - Int.toNat x178), int .i64 a2]) bo175 z z (bidi_fill_k1_spec (a1 := cutl v162 x178 x180) hy244 hI243 (cut_len h235 h236 (le_t hn163 hn17 h237)) (Mw.win (kd := (Kd.int .i64)) (A := (some ⟨g13, 0, none⟩)) (c := n14) (pre := []) (Mw.new (α := Int) g13 n14 1) hn163 h235 h236 (le_t hn163 hn17 h237)))<|?_
 rintro _ wd247 ⟨G245, hG246, hI248, hn250, rfl⟩
 refine ⟨_, rfl, ?_⟩
 refine have hI251:=Hp.rwRe hI248 0 z (unwin_eq v162 [] [] y249 x178 x180);nl<|have hI255:=Hp.pick 5 [3, 4, 1, 2, 0] hI251 z;?_
 cases H
 exact ⟨z, _, _, (gT (gT hG201 hG209) hG246), ⟨G245, (gT (gT (gT hG175 hG201) hG209) hG246), z, (unwin_len hn163 h235 h236 (le_t hn163 hn17 h237) hn250), gR, tv⟩, hI255⟩)
 refine have hI281:=Hp.sink (A := [bx g152 [slice A154 y153.length c155] 133, bx g159 [func (.func 174) [].toArray [].toArray] 186]) (K := [bx g129 [func (.func 172) [].toArray [pointer (some ⟨g19, 0, none⟩), pointer (some ⟨g6, 0, none⟩)].toArray] 221, bx g19 [slice (some ⟨g13, 0, none⟩) n14 n14] 44, bx g6 [int .i64 a2] 3, rwI G147 (Kd.int .i64) (some ⟨g13, 0, none⟩) [] v51 [] n14 3]) hI257;(bidi_runs_1_byte_k1_spec (sy := (v51, none)) hr259 hI281 hl156 hD157 hY258 ⟨_, z, G147, Gh.le_refl _, z, hn52, gR, tv⟩).mono<|?_
 rintro _ wd262 ⟨T266, G260, hG2610, hI263, ⟨K, rfl, Gr164, hG261, rfl, hn163, hGr165, _⟩, rfl⟩
 refine have hH268:=Hp.front hI263 2 z;?_
 rcases jo172 with _ | j
 refine ⟨_, rfl, LoopState.ready, none, G260, _, (fun h => nomatch h), hH268, fun wd264 hI265 => ?_⟩
 refine hK135 _ _ _<|sr fun K273 hK274=>ld hI265 3 ag44 z z z<|asn z<|nl<|hK274 _ _ _<|wr<|?_
 refine ⟨.inr rfl, (gd161 :: ([] : List Nat)), _, _, rfl, Hp.marks (K := [bx g152 [slice A154 y153.length c155] 133, bx g159 [func (.func 174) [].toArray [].toArray] 186, bx g129 [func (.func 172) [].toArray [pointer (some ⟨g19, 0, none⟩), pointer (some ⟨g6, 0, none⟩)].toArray] 221, bx g19 [slice (some ⟨g13, 0, none⟩) n14 n14] 44, bx g6 [int .i64 a2] 3, rwI Gr164 (Kd.int .i64) (some ⟨g13, 0, none⟩) [] v162 [] n14 3]) hI265, fun wd276 hI275 => ?_⟩
 refine have hI277:=Hp.rwUp hI275 5 z hGr165;have hI279:=Hp.pick 6 [5] hI277 z;?_
 cases H
 exact ⟨_, ⟨_, _, z, z, z⟩, (some ⟨g13, 0, none⟩), n14, n14, _, (gT (gT (gT hG56 hG142) hG148) hG261), hI279, hn163, (Mw.new (α := Int) g13 n14 1), z⟩
 cases H
theorem bidi_Levels_spec {a1 a2 r1003 r1010 G L w} (H : bidi_Levels a1 a2 = some (r1003, r1010)) (hI : Hp G L w) :
    Calls Tryz.prog 116 [string a1, int .i64 a2].toArray w fun e w' => ∃ (A1004 : Option Addr) (n1005 : Nat) (c1006 : Nat) (G' : Gh), G ≤ G' ∧ Hp G' (rwI G' (Kd.int .i64) A1004 [] r1003 [] c1006 3 :: L) w' ∧ r1003.length = n1005 ∧ Mw A1004 A1004 ([] : List Int).length n1005 c1006 c1006 1 ∧ e = .returned (tuple [slice A1004 n1005 c1006, int .i64 r1010].toArray) := by
 refine calls_intro (N := 49) Tryz.func116 z z (Nat.le_of_ble_eq_true z)<|?_
 unfold bidi_Levels at H
 refine sr fun K3 hK4=>asn z<|asn z<|nl<|hK4 _ _ _<|sQ fun K5 hK6=>sr fun K7 hK8=>mv z<|mv z<|bK H fun y14 hy9 H=>cv bo146 (bidi_isLine_spec hy9 hI) z z fun wd12 hI13=>q_not z<|nl<|hK8 _ _ _<|?_
 refine dC ((!y14) = true) (fun h15=>?_) fun h15=>?_
 refine yK h15 H fun H=>wt (vY h15)<|sr fun K16 hK17=>asn z<|asn z<|nl<|hK17 _ _ _<|wr<|have hI18:=Hp.emp hI13;?_
 cases H
 exact ⟨.inr z, z, _, ⟨_, _, z, z, ⟨_, _, z, z, z⟩⟩, none, 0, 0, _, gR, hI18, z, ⟨.inl z, Nat.le_refl _⟩, z⟩
 refine nK h15 H fun H=>wf (vN h15)<|ws<|hK6 _ _ _<|sr fun K20 hK21=>q_buildA (vs := [(0, int .i64 0), (1, int .i64 1)]) (cs := [int .i64 0, int .i64 1]) ze206 ar206 z z<|q_buildA (vs := [(0, int .i64 2), (1, int .i64 1)]) (cs := [int .i64 2, int .i64 1]) ze206 ar206 z z<|q_buildA (vs := [(0, agg [int .i64 0, int .i64 1].toArray), (1, agg [int .i64 2, int .i64 1].toArray)]) (cs := [int .i64 0, int .i64 1, int .i64 2, int .i64 1]) ze207 ar207 z z<|q_alloc hI13 ze207 fun g23 wd24 hI25=>?_
 have hI26 : Hp G (bx g23 (List.map (int .i64) (List.replicate 4 0 : List Int)) 207 :: L) _ := hI25
 refine stk hI26 0 ag207 z z z z z z z fun wd27 hI28=>?_
 have hI29 : Hp G (bx g23 (List.map (int .i64) ([0, 1, 2, 1] : List Int)) 207 :: L) _ := hI28
 refine nl<|hK21 _ _ _<|sr fun K30 hK31=>mv z<|mv z<|bK H fun y37 hy32 H=>q_cv (vs := [string a1, int .i64 a2]) bo147 z z (bidi_directions_spec hy32 hI29)<|?_
 rintro _ wd35 ⟨A38, n39, c40, G33, hG34, hI36, hn41, hM42, rfl⟩
 refine ⟨_, rfl, ?_⟩
 refine asn z<|nl<|hK31 _ _ _<|sQ fun K44 hK45=>sr fun K46 hK47=>mv z<|q_lenm so44 z hn41<|mv z<|nl<|hK47 _ _ _<|wb<|bK H fun v67 hC H=>wpc_mono (Q := fun e r ds w => e = .exit 0 ∧ ∃ (Gr69 : Gh) (G71 : Gh), ds = [] ∧ G33 ≤ G71 ∧ Has [(7, slice A38 n39 c40)] r ∧ Hp G71 (rwI Gr69 (Kd.int .i64) A38 [] v67 [] c40 3 :: bx g23 (List.map (int .i64) ([0, 1, 2, 1] : List Int)) 207 :: L) w ∧ v67.length = n39 ∧ Gr69 ≤ G71 ∧ True) ?_ ?_
 refine wpc_loop fun I hLp=>?_
 refine bidi_Levels_l66.partial_correctness a1 a2 y37 (fun v52 v54 o => ∀ (Gr55 : Gh) (G76 : Gh) (r : Rg) (w : World), G33 ≤ G76 → Has [(0, string a1), (1, int .i64 a2), (6, pointer (some ⟨g23, 0, none⟩)), (7, slice A38 n39 c40), (20, slice A38 n39 c40), (21, int .i64 (y37.length : Int)), (22, int .i64 v54)] r → Hp G76 (rwI Gr55 (Kd.int .i64) A38 [] v52 [] c40 3 :: bx g23 (List.map (int .i64) ([0, 1, 2, 1] : List Int)) 207 :: L) w → v52.length = n39 → Gr55 ≤ G76 → o = v67 → I r [] w) ?_ y37 0 _ hC G33 _ _ _ gR ⟨rfl, rfl, rfl, rfl, rfl, rfl, rfl, tv⟩ hI36 hn41 gR rfl
 intro _ ih v52 v54 o H Gr55 G76 r wd78 hG77 hHas hI79 hn53 hGr56 ho
 rw [ho] at H; clear ho
 rw [hHas.eq]; clear hHas
 refine hLp _ _ _<|sr fun K80 hK81=>q_lss z z<|nl<|hK81 _ _ _<|sQ fun K82 hK83=>dC (v54 < (y37.length : Int)) (fun h84=>?_) fun h84=>?_
 refine yK h84 H fun H=>wt (bY h84)<|ws<|hK83 _ _ _<|sQ fun K85 hK86=>bK H fun v87 hC H=>?_
 refine wpc_mono (Q := fun e r ds w => e = .normal ∧ ∃ (Gr89 : Gh) (G91 : Gh), ds = [] ∧ G76 ≤ G91 ∧ Has [(0, string a1), (1, int .i64 a2), (6, pointer (some ⟨g23, 0, none⟩)), (7, slice A38 n39 c40), (20, slice A38 n39 c40), (21, int .i64 (y37.length : Int)), (22, int .i64 v54)] r ∧ Hp G91 (rwI Gr89 (Kd.int .i64) A38 [] v87 [] c40 3 :: bx g23 (List.map (int .i64) ([0, 1, 2, 1] : List Int)) 207 :: L) w ∧ v87.length = n39 ∧ Gr89 ≤ G91 ∧ True) ?_ ?_
 refine have H:=hC;wb<|sr fun K96 hK97=>mv z<|iK H fun⟨h98, h98'⟩H=>have hb99:=lt_n hn41 h98';?_
 obtain ⟨ad100, hA101⟩ := Mw.ad hM42 h98 hb99
 refine q_ia el44 z hA101 z h98 hb99<|?_
 obtain ⟨_, rfl, _, hc103⟩ := Hp.rwGet hI79 0 rfl hM42 hn53 hA101 (0 : Int) h98 hb99
 refine q_load1 (v := int .i64 (v52.getD (Int.toNat v54) (0 : Int))) ag3 z (cell0 (hc103 0 _ z))<|asn z<|asn z<|nl<|hK97 _ _ _<|sr fun K104 hK105=>mv z<|mv z<|mv z<|mv z<|iK H fun⟨h106, h106'⟩H=>?_
 have ho107 : 0 + Int.toNat a2 * 2 + 2 ≤ 4 := by omega
 refine q_iaA (a' := ⟨g23, 0 + Int.toNat a2 * 2, none⟩) ar207 z z h106 h106' (add_plain _ _ _)<|iK H fun⟨h108, h108'⟩H=>?_
 have ho109 : 0 + Int.toNat a2 * 2 + Int.toNat (v52.getD (Int.toNat v54) (0 : Int)) * 1 + 1 ≤ 4 := by have := ho107; omega
 refine q_iaA (a' := ⟨g23, 0 + Int.toNat a2 * 2 + Int.toNat (v52.getD (Int.toNat v54) (0 : Int)) * 1, none⟩) ar206 z z h108 h108' (add_plain _ _ _)<|q_lda (int .i64) hI79 1 0 ag3 z z z (Nat.lt_of_succ_le ho109)<|iK H fun⟨h110, h110'⟩H=>have hb111:=lt_n hn41 h110';?_
 obtain ⟨ad112, hA113⟩ := Mw.ad hM42 h110 hb111
 refine q_ia el44 z hA113 z h110 hb111<|q_stm (kd := (Kd.int .i64)) hI79 0 (v := int .i64 (([0, 1, 2, 1] : List Int).getD (0 + Int.toNat a2 * 2 + Int.toNat (v52.getD (Int.toNat v54) (0 : Int)) * 1) 0)) (news := [int .i64 (([0, 1, 2, 1] : List Int).getD (0 + Int.toNat a2 * 2 + Int.toNat (v52.getD (Int.toNat v54) (0 : Int)) * 1) 0)]) (0 : Int) (([0, 1, 2, 1] : List Int).getD (0 + Int.toNat a2 * 2 + Int.toNat (v52.getD (Int.toNat v54) (0 : Int)) * 1) 0) ag3 z hM42 hn53 hA113 h110 hb111 (add_zero' _) z z z z z (Nat.le_of_ble_eq_true z) gR (fun _ ho => setAll_K ho z z) fun wd114 hI115=>nl<|hK105 _ _ _<|sr fun K116 hK117=>mv z<|q_eql z z<|mv z<|bK H fun v118 hC H=>js 6 hI115 [(0, string a1), (1, int .i64 a2), (6, pointer (some ⟨g23, 0, none⟩)), (7, slice A38 n39 c40), (8, int .i64 v54), (20, slice A38 n39 c40), (21, int .i64 (y37.length : Int)), (22, int .i64 v54), (43, bool v118)] ?_ fun _ wd121 hI122=>?_
 refine have H:=hC;dC ((v52.getD (Int.toNat v54) (0 : Int)) = 1) (fun h124=>?_) fun h124=>?_
 refine yK h124 H fun H=>mv (hw:=gY z z z (bY h124)) z<|mv (hw:=gY z z z (bY h124)) z<|iK H fun⟨h125, h125'⟩H=>q_is (hw:=gY z z z (bY h124)) so9 z z h125 h125' z<|bK H fun y131 hy126 H=>cv (hw:=gY z z z (bY h124)) bo77 (text_Class_spec hy126 hI115) z z fun wd129 hI130=>q_eql (hw:=gY z z z (bY h124)) z z<|pkt (bY h124) z<|nl<|?_
 cases H
 exact je ⟨z, z, z, z, z, z, z, z, z, tv⟩ hI130
 refine nK h124 H fun H=>Sk 5 z z (bN h124) z<|pkf (bN h124) z<|nl<|?_
 cases H
 exact je ⟨z, z, z, z, z, z, z, z, z, tv⟩ hI115
 refine nl<|hK117 _ _ _<|dC (v118 = true) (fun h132=>?_) fun h132=>?_
 refine yK h132 H fun H=>wt (vY h132)<|wpc_region<|mv z<|mv z<|iK H fun⟨h133, h133'⟩H=>have hb134:=lt_n hn41 h133';?_
 obtain ⟨ad135, hA136⟩ := Mw.ad hM42 h133 hb134
 refine q_ia el44 z hA136 z h133 hb134<|q_stm (kd := (Kd.int .i64)) hI122 0 (v := int .i64 2) (news := [int .i64 2]) (0 : Int) 2 ag3 z hM42 (set_len hn53) hA136 h133 hb134 (add_zero' _) z z z z z (Nat.le_of_ble_eq_true z) gR (fun _ ho => setAll_K ho z z) fun wd137 hI138=>nl<|have hI139:=Hp.rwUp hI138 0 z hGr56;?_
 cases H
 exact ⟨z, G76, _, z, gR, ⟨z, z, z, z, z, z, z, tv⟩, hI139, (set_len (set_len hn53)), gR, tv⟩
 refine nK h132 H fun H=>wf (vN h132)<|ws<|have hI140:=Hp.rwUp hI122 0 z hGr56;?_
 cases H
 exact ⟨z, G76, _, z, gR, ⟨z, z, z, z, z, z, z, tv⟩, hI140, (set_len hn53), gR, tv⟩
 rintro e r ds wd93 ⟨rfl, Gr89, G91, rfl, hG92, hHas, hI94, hn88, hGr90, _⟩
 rw [hHas.eq]; clear hHas
 exact hK86 _ _ _<|wpc_region<|q_add z z<|mv z<|nl<|have hI141:=Hp.rwUp hI94 0 z hGr90;ih _ _ _ H G91 _ _ _ (gT hG77 hG92) ⟨z, z, z, z, z, z, z, tv⟩ hI141 hn88 gR z
 refine nK h84 H fun H=>wf (bN h84)<|wx<|have hI142:=Hp.rwUp hI79 0 z hGr56;?_
 cases H
 exact ⟨z, G76, _, z, hG77, ⟨z, tv⟩, hI142, hn53, gR, tv⟩
 rintro e r ds wd73 ⟨rfl, Gr69, G71, rfl, hG72, hHas, hI74, hn68, hGr70, _⟩
 rw [hHas.eq]; clear hHas
 refine hK45 _ _ _<|sr fun K143 hK144=>mv z<|asn z<|asn z<|nl<|hK144 _ _ _<|wr<|have hI145:=Hp.rwUp hI74 0 z hGr70;have hI146:=Hp.pick 2 [0] hI145 z;?_
 cases H
 exact ⟨.inr z, z, _, ⟨_, _, z, z, ⟨_, _, z, z, z⟩⟩, A38, n39, c40, _, (gT hG34 hG72), hI146, hn68, hM42, z⟩
theorem slices_Clone_int_k1_spec {a1 A2 pre3 post4 A5 n6 c7 lim8 r1012 q1019 G L w} (H : slices_Clone_int_k1 a1 = some (r1012, q1019)) (hI : Hp G (rwI G (Kd.int .i64) A2 pre3 a1 post4 lim8 3 :: L) w) (hn9 : a1.length = n6) (hM10 : Mw A2 A5 pre3.length n6 c7 lim8 1) :
    Calls Tryz.prog 150 [slice A5 n6 c7].toArray w fun e w' => ∃ (A1013 : Option Addr) (c1014 : Nat) (G' : Gh), G ≤ G' ∧ Hp G' (tk (slice A1013 r1012.length c1014) 1 3 :: rwI G' (Kd.int .i64) A2 pre3 q1019 post4 lim8 3 :: L) w' ∧ r1012.length ≤ c1014 ∧ Dat (Kd.int .i64) G' A1013 r1012 ∧ Own A1013 c1014 ∧ q1019.length = n6 ∧ e = .returned (slice A1013 r1012.length c1014) := by
 refine calls_intro (N := 8) Tryz.func150 z z (Nat.le_of_ble_eq_true z)<|?_
 unfold slices_Clone_int_k1 at H
 refine sr fun K12 hK13=>asn z<|nl<|hK13 _ _ _<|sQ fun K14 hK15=>sr fun K16 hK17=>mv z<|?_
 rcases A5 with _ | a18
 obtain rfl : a1 = [] := Mw.nil hM10 hn9
 rw [show (if ([] : List Int).length + ([] : List Int).length ≤ 17592186044416 then some (([] : List Int) ++ ([] : List Int), ([] : List Int)) else none) = some (([] : List Int), ([] : List Int)) from by simp] at H
 refine q_slnil_eql_y so44 z z<|nl<|hK17 _ _ _<|wt z<|sr fun K19 hK20=>asn z<|nl<|hK20 _ _ _<|wr<|have hI21:=Hp.emp hI;?_
 cases H
 exact ⟨.inr z, z, _, ⟨_, _, z, z, z⟩, none, 0, _, gR, hI21, (show ([] : List Int).length ≤ 0 from Nat.le_refl 0), (Dat.nil _ _ _), Own.nil, hn9, z⟩
 refine q_slnil_eql_n so44 z z<|nl<|hK17 _ _ _<|wf z<|ws<|hK15 _ _ _<|sr fun K23 hK24=>?_
 refine q_bs hI (vs := []) (cs := []) el44 ze3 rfl (by decide) rfl rfl (fun g26 wd27 hI28 => ?_)
 obtain ⟨G29, hG30, hI32, hD31⟩ := Hp.publish (xs := ([] : List Int)) (n := 0) (Kd.int .i64) hI28 rfl rfl
 refine mv z<|?_
 obtain ⟨nw43, hs44, hf45⟩ := src_rw (u := 44) hI32 1 so44 rfl hM10 hn9
 refine iK H fun h42 H=>?_
 refine q_app (xs := ([] : List Int)) (ys := a1) (Kd.int .i64) hI32 0 el44 ze3 rfl rfl rfl rfl (Own.mk _ _ _) (show ([] : List Int).length ≤ 0 from Nat.le_of_ble_eq_true rfl) hD31 hs44 (Flat.mono hG30 hf45) (Eq.symm hn9) (by (try simp only [List.length_cons, List.length_nil]); omega) (by (try simp only [List.length_cons, List.length_nil]); omega) (fun A33 c34 G35 wd36 hG37 ho38 hl39 hD40 hI41 => ?_)
 refine asn z<|nl<|hK24 _ _ _<|wr<|have hI46:=Hp.rwUp hI41 1 z (gT hG30 hG37);?_
 cases H
 exact ⟨.inr z, z, _, ⟨_, _, z, z, z⟩, A33, c34, _, (gT hG30 hG37), hI46, hl39, hD40, ho38, hn9, z⟩
theorem bidi_runs_int_k2_spec {a1 a8 a15 A2 c3 g7 A9 c10 g14 r1018 G L w} (H : bidi_runs_int_k2 a1 a8 a15 = some r1018) (hI : Hp G (bx g7 [slice A9 a8.length c10] 44 :: bx g14 [int .i64 a15] 3 :: L) w) (hl4 : a1.length ≤ c3) (hD5 : Dat (Kd.int .i64) G A2 a1) (hl11 : a8.length ≤ c10) (hD12 : Dat (Kd.int .i64) G A9 a8) :
    Calls Tryz.prog 149 [slice A2 a1.length c3, func (.func 148) [].toArray [pointer (some ⟨g7, 0, none⟩), pointer (some ⟨g14, 0, none⟩)].toArray].toArray w fun e w' => ∃ (g1017 : Nat) (A1019 : Option Addr) (c1020 : Nat) (g1024 : Nat) (G' : Gh), G ≤ G' ∧ Hp G' (bx g1017 [slice A1019 r1018.length c1020] 44 :: bx g1024 [func (.func 148) [].toArray [pointer (some ⟨g7, 0, none⟩), pointer (some ⟨g14, 0, none⟩)].toArray] 75 :: bx g7 [slice A9 a8.length c10] 44 :: bx g14 [int .i64 a15] 3 :: L) w' ∧ r1018.length ≤ c1020 ∧ Dat (Kd.int .i64) G' A1019 r1018 ∧ e = .returned (func (.func 176) [].toArray [pointer (some ⟨g1017, 0, none⟩), pointer (some ⟨g1024, 0, none⟩)].toArray) := by
 refine calls_intro (N := 6) Tryz.func149 z z (Nat.le_of_ble_eq_true z)<|?_
 unfold bidi_runs_int_k2 at H
 refine sr fun K16 hK17=>bxk hI z z fun g19 wd20 hI21=>bxk hI21 z z fun g23 wd24 hI25=>asn z<|nl<|hK17 _ _ _<|sr fun K26 hK27=>q_fn (vs := []) (us := [pointer (some ⟨g19, 0, none⟩), pointer (some ⟨g23, 0, none⟩)]) z z<|asn z<|nl<|hK27 _ _ _<|wr<|have hI31:=Hp.pick 4 [1, 0, 2, 3] hI25 z;?_
 cases H
 exact ⟨.inr z, z, _, ⟨_, _, z, z, z⟩, g19, A2, c3, g23, _, gR, hI31, hl4, hD5, z⟩
theorem bidi_turn_1_k1_spec {a1 a4 a11 g3 A5 c6 g10 r1012 G L w} (H : bidi_turn_1_k1 a1 a4 a11 = some r1012) (hI : Hp G (bx g3 [slice A5 a4.length c6] 44 :: bx g10 [int .i64 a11] 3 :: L) w) (hl7 : a4.length ≤ c6) (hD8 : Dat (Kd.int .i64) G A5 a4) :
    Calls Tryz.prog 148 [int .i64 a1, pointer (some ⟨g3, 0, none⟩), pointer (some ⟨g10, 0, none⟩)].toArray w fun e w' => Hp G (bx g3 [slice A5 a4.length c6] 44 :: bx g10 [int .i64 a11] 3 :: L) w' ∧ e = .returned (bool r1012) := by
 refine calls_intro (N := 11) Tryz.func148 z z (Nat.le_of_ble_eq_true z)<|?_
 unfold bidi_turn_1_k1 at H
 refine sr fun K12 hK13=>asn z<|nl<|hK13 _ _ _<|sQ fun K14 hK15=>?_
 refine wpc_quiet mixo (by kernel_rfl) ?_
 refine have hI16:=hI.drew;wq (ld hI16 0 ag44 z z z wqd) z<|wq (mv z wqd) z<|iK H fun⟨h17, h17'⟩H=>?_
 obtain ⟨ad18, cs19, hA20, hK21, hn22, hc23⟩ := Dat.get hD8 (0 : Int) (a1) h17 h17'
 obtain rfl := hK21
 refine wq (q_ia el44 z hA20 z h17 h17' wqd) z<|wq (q_lf hI16 ag3 z (gR.cel _ _ (hc23 0 _ z)) wqd) z<|wq (ld hI16 1 ag3 z z z wqd) z<|wq (q_geq z z wqd) z<|wq (asn z wqd) z<|wqq_nil<|hK15 _ _ _<|wr<|?_
 cases H
 exact rt ⟨_, _, z, z, z⟩ hI16
theorem bidi_runs_1_int_k1_spec {σ : Type} {St : σ → Gh → List Itm → Prop} {yl} {φ : σ → (Int × Int) → Option (σ × Bool)} {sy : σ} {a3 a12 a19 g2 A4 c5 g9 g11 A13 c14 g18} {ry : σ} {G T w} (H : bidi_runs_1_int_k1 φ sy a3 a12 a19 = some ry) (hI : Hp G (bx g2 [slice A4 a3.length c5] 44 :: bx g9 [func (.func 148) [].toArray [pointer (some ⟨g11, 0, none⟩), pointer (some ⟨g18, 0, none⟩)].toArray] 75 :: bx g11 [slice A13 a12.length c14] 44 :: bx g18 [int .i64 a19] 3 :: T) w) (hl6 : a3.length ≤ c5) (hD7 : Dat (Kd.int .i64) G A4 a3) (hl15 : a12.length ≤ c14) (hD16 : Dat (Kd.int .i64) G A13 a12) (hy : Yl Tryz.prog φ (encP (enc1 (Kd.int .i64)) (enc1 (Kd.int .i64))) St yl) (hS : St sy G T) :
    Calls Tryz.prog 176 [func (.yield yl) #[] #[], pointer (some ⟨g2, 0, none⟩), pointer (some ⟨g9, 0, none⟩)].toArray w fun e w' => ∃ (T' : List Itm) (G' : Gh), G ≤ G' ∧ Hp G' (bx g2 [slice A4 a3.length c5] 44 :: bx g9 [func (.func 148) [].toArray [pointer (some ⟨g11, 0, none⟩), pointer (some ⟨g18, 0, none⟩)].toArray] 75 :: bx g11 [slice A13 a12.length c14] 44 :: bx g18 [int .i64 a19] 3 :: T') w' ∧ St ry G' T' ∧ e = .returned (tuple [].toArray) := by
 refine calls_intro (N := 40) Tryz.func176 z z (Nat.le_of_ble_eq_true z)<|?_
 unfold bidi_runs_1_int_k1 at H
 refine sr fun K20 hK21=>asn z<|nl<|hK21 _ _ _<|wb<|bK H fun o53 hC H=>?_
 refine wpc_mono (Q := fun e r ds w => match (generalizing := false) o53 with | (Sum.inl v40) => e = .ret ∧ ∃ (T39 : List Itm) (G45 : Gh), ds = [] ∧ G ≤ G45 ∧ Has [] r ∧ Hp G45 (bx g2 [slice A4 a3.length c5] 44 :: bx g9 [func (.func 148) [].toArray [pointer (some ⟨g11, 0, none⟩), pointer (some ⟨g18, 0, none⟩)].toArray] 75 :: bx g11 [slice A13 a12.length c14] 44 :: bx g18 [int .i64 a19] 3 :: T39) w ∧ St v40 G45 T39 ∧ True | (Sum.inr v43) => e = .exit 0 ∧ ∃ (T42 : List Itm) (G49 : Gh), ds = [] ∧ G ≤ G49 ∧ Has [] r ∧ Hp G49 (bx g2 [slice A4 a3.length c5] 44 :: bx g9 [func (.func 148) [].toArray [pointer (some ⟨g11, 0, none⟩), pointer (some ⟨g18, 0, none⟩)].toArray] 75 :: bx g11 [slice A13 a12.length c14] 44 :: bx g18 [int .i64 a19] 3 :: T42) w ∧ St v43 G49 T42 ∧ True) ?_ ?_
 refine wpc_loop fun I hLp=>?_
 refine bidi_runs_1_int_k1_l38.partial_correctness φ a3 a12 a19 (fun v26 v28 o => ∀ (T27 : List Itm) (G54 : Gh) (r : Rg) (w : World), G ≤ G54 → Has [(0, func (.yield yl) #[] #[]), (1, pointer (some ⟨g2, 0, none⟩)), (2, pointer (some ⟨g9, 0, none⟩)), (4, int .i64 v26)] r → Hp G54 (bx g2 [slice A4 a3.length c5] 44 :: bx g9 [func (.func 148) [].toArray [pointer (some ⟨g11, 0, none⟩), pointer (some ⟨g18, 0, none⟩)].toArray] 75 :: bx g11 [slice A13 a12.length c14] 44 :: bx g18 [int .i64 a19] 3 :: T27) w → St v28 G54 T27 → o = o53 → I r [] w) ?_ 0 sy _ hC T _ _ _ gR ⟨rfl, rfl, rfl, rfl, tv⟩ hI hS rfl
 intro _ ih v26 v28 o H T27 G54 r wd56 hG55 hHas hI57 hS29 ho
 rw [ho] at H; clear ho
 rw [hHas.eq]; clear hHas
 refine hLp _ _ _<|sQ fun K58 hK59=>sr fun K60 hK61=>mv z<|ld hI57 0 ag44 z z z<|q_len so44 z<|q_lss z z<|nl<|hK61 _ _ _<|dC (v26 < (a3.length : Int)) (fun h62=>?_) fun h62=>?_
 refine yK h62 H fun H=>wt (bY h62)<|ws<|hK59 _ _ _<|sQ fun K63 hK64=>wb<|sr fun K65 hK66=>mv z<|asn z<|nl<|hK66 _ _ _<|sQ fun K67 hK68=>wb<|bK H fun v80 hC H=>?_
 refine wpc_mono (Q := fun e r ds w => e = .exit 2 ∧ ds = [] ∧ Has [(0, func (.yield yl) #[] #[]), (1, pointer (some ⟨g2, 0, none⟩)), (2, pointer (some ⟨g9, 0, none⟩)), (4, int .i64 v26), (5, int .i64 v80)] r ∧ Hp G54 (bx g2 [slice A4 a3.length c5] 44 :: bx g9 [func (.func 148) [].toArray [pointer (some ⟨g11, 0, none⟩), pointer (some ⟨g18, 0, none⟩)].toArray] 75 :: bx g11 [slice A13 a12.length c14] 44 :: bx g18 [int .i64 a19] 3 :: T27) w ∧ True) ?_ ?_
 refine wpc_loop fun I hLp=>?_
 refine bidi_runs_1_int_k1_l79.partial_correctness a3 a12 a19 (fun v73 o => ∀ (r : Rg) (w : World), Has [(0, func (.yield yl) #[] #[]), (1, pointer (some ⟨g2, 0, none⟩)), (2, pointer (some ⟨g9, 0, none⟩)), (4, int .i64 v26), (5, int .i64 v73)] r → Hp G54 (bx g2 [slice A4 a3.length c5] 44 :: bx g9 [func (.func 148) [].toArray [pointer (some ⟨g11, 0, none⟩), pointer (some ⟨g18, 0, none⟩)].toArray] 75 :: bx g11 [slice A13 a12.length c14] 44 :: bx g18 [int .i64 a19] 3 :: T27) w → o = v80 → I r [] w) ?_ v26 _ hC _ _ ⟨rfl, rfl, rfl, rfl, rfl, tv⟩ hI57 rfl
 intro _ ih v73 o H r wd88 hHas hI89 ho
 rw [ho] at H; clear ho
 rw [hHas.eq]; clear hHas
 refine hLp _ _ _<|sQ fun K90 hK91=>sQ fun K92 hK93=>bK H fun v103 hC H=>jc .normal hI89 [(0, func (.yield yl) #[] #[]), (1, pointer (some ⟨g2, 0, none⟩)), (2, pointer (some ⟨g9, 0, none⟩)), (4, int .i64 v26), (5, int .i64 v73), (24, bool v103)] ?_ fun _ wd106 hI107=>?_
 refine have H:=hC;?_
 refine wpc_class hI89 mixo (by kernel_rfl) ?_
 refine wq' (fun Gq w hGq Iq=>mv z wqd) z z<|wq' (fun Gq w hGq Iq=>ld Iq 0 ag44 z z z wqd) z z<|wq' (fun Gq w hGq Iq=>q_len so44 z wqd) z z<|wq' (fun Gq w hGq Iq=>q_lss z z wqd) z z<|wq' (fun Gq w hGq Iq=>mv z wqd) z z<|dC (v73 < (a3.length : Int)) (fun h113=>?_) fun h113=>?_
 refine yK h113 H fun H=>wq' (fun Gq w hGq Iq=>ld (hw:=gY z z z (bY h113)) Iq 1 ag75 z z z wqd) z z<|wq' (fun Gq w hGq Iq=>ld (hw:=gY z z z (bY h113)) Iq 0 ag44 z z z wqd) z z<|wq' (fun Gq w hGq Iq=>mv (hw:=gY z z z (bY h113)) z wqd) z z<|iK H fun⟨h114, h114'⟩H=>?_
 obtain ⟨ad115, cs116, hA117, hK118, hn119, hc120⟩ := Dat.get (Dat.mono hG55 hD7) (0 : Int) (v73) h114 h114'
 obtain rfl := hK118
 refine wq' (fun Gq w hGq Iq=>q_ia (hw:=gY z z z (bY h113)) el44 z hA117 z h114 h114' wqd) z z<|wq' (fun Gq w hGq Iq=>q_lf (hw:=gY z z z (bY h113)) Iq ag3 z (hGq.cel _ _ (hc120 0 _ z)) wqd) z z<|bK H fun y126 hy125 H=>wk (vs := [int .i64 (a3.getD (Int.toNat v73) (0 : Int)), pointer (some ⟨g11, 0, none⟩), pointer (some ⟨g18, 0, none⟩)]) (v := bool y126) bo148 z z (fun Gq w hGq Iq => ?_) ?_ (hw := gY z z z (bool_yes h113))
 refine have hI124:=Hp.pick 4 [2, 3, 0, 1] Iq z;Calls.mono (bidi_turn_1_k1_spec hy125 hI124 hl15 (Dat.mono (gT hG55 hGq) hD16))<|?_
 rintro _ w2 ⟨I2, rfl⟩
 exact have hI130:=Hp.pick 4 [2, 3, 0, 1] I2 z;⟨z, _, hGq, hI130⟩
 refine wq' (fun Gq w hGq Iq=>pkt (bY h113) z wqd) z z<|wz fun wd111 G109 hG110 hI112=>?_
 cases H
 exact je ⟨z, z, z, z, z, z, tv⟩ (Hp.low hG110 hI112)
 refine nK h113 H fun H=>wp (guard_no z z z (bN h113) z)<|wp (guard_no z z z (bN h113) z)<|wp (guard_no z z z (bN h113) z)<|wp (guard_no z z z (bN h113) z)<|wp (guard_no z z z (bN h113) z)<|wp (guard_no z z z (bN h113) z)<|wq' (fun Gq w hGq Iq=>pkf (bN h113) z wqd) z z<|wz fun wd111 G109 hG110 hI112=>?_
 cases H
 exact je ⟨z, z, z, z, z, z, tv⟩ (Hp.low hG110 hI112)
 refine hK93 _ _ _<|dC (v103 = true) (fun h131=>?_) fun h131=>?_
 exact yK h131 H fun H=>wt (vY h131)<|ws<|hK91 _ _ _<|wb<|wpc_region<|mv z<|q_add z z<|asn z<|nl<|ih _ _ H _ _ ⟨z, z, z, z, z, tv⟩ hI107 z
 refine nK h131 H fun H=>wf (vN h131)<|wx<|?_
 cases H
 exact ⟨z, z, ⟨z, z, z, z, z, tv⟩, hI107, tv⟩
 rintro e r ds wd83 ⟨rfl, rfl, hHas, hI84, _⟩
 rw [hHas.eq]; clear hHas
 refine hK68 _ _ _<|sQ fun K132 hK133=>sr fun K134 hK135=>mv z<|mv z<|q_gtr z z<|mv z<|bK2 H fun v136 v138 hC H=>?_
 refine wpq_split 6 (K := fun e r ds w => e = .normal ∧ ∃ (T137 : List Itm) (G140 : Gh), ds = [] ∧ G54 ≤ G140 ∧ Has [(0, func (.yield yl) #[] #[]), (1, pointer (some ⟨g2, 0, none⟩)), (2, pointer (some ⟨g9, 0, none⟩)), (4, int .i64 v26), (5, int .i64 v80), (36, bool v136)] r ∧ Hp G140 (bx g2 [slice A4 a3.length c5] 44 :: bx g9 [func (.func 148) [].toArray [pointer (some ⟨g11, 0, none⟩), pointer (some ⟨g18, 0, none⟩)].toArray] 75 :: bx g11 [slice A13 a12.length c14] 44 :: bx g18 [int .i64 a19] 3 :: T137) w ∧ St v138 G140 T137 ∧ True) ?_ ?_
 refine have H:=hC;dC (v26 < v80) (fun h145=>?_) fun h145=>?_
 refine yK h145 H fun H=>mv (hw:=gY z z z (bY h145)) z<|mv (hw:=gY z z z (bY h145)) z<|mv (hw:=gY z z z (bY h145)) z<|bK2 H fun s146 b147 hx148 H=>q_yl (hw:=gY z z z (bY h145)) hy [bx g2 [slice A4 a3.length c5] 44, bx g9 [func (.func 148) [].toArray [pointer (some ⟨g11, 0, none⟩), pointer (some ⟨g18, 0, none⟩)].toArray] 75, bx g11 [slice A13 a12.length c14] 44, bx g18 [int .i64 a19] 3] hI84 hS29 z z ⟨_, _, z, ⟨_, z, z⟩, ⟨_, z, z⟩⟩ hx148 fun wd149 G150 T151 hG152 hS153 hI154=>q_not (hw:=gY z z z (bY h145)) z<|pkt (bY h145) z<|nl<|?_
 cases H
 exact ⟨z, T151, _, z, hG152, ⟨z, z, z, z, z, z, tv⟩, hI154, hS153, tv⟩
 refine nK h145 H fun H=>Sk 5 z z (bN h145) z<|pkf (bN h145) z<|nl<|?_
 cases H
 exact ⟨z, T27, _, z, gR, ⟨z, z, z, z, z, z, tv⟩, hI84, hS29, tv⟩
 rintro e r ds wd142 ⟨rfl, T137, G140, rfl, hG141, hHas, hI143, hS139, _⟩
 rw [hHas.eq]; clear hHas
 refine nl<|hK135 _ _ _<|dC (v136 = true) (fun h155=>?_) fun h155=>?_
 refine yK h155 H fun H=>wt (vY h155)<|wr<|?_
 cases H
 exact ⟨z, T137, _, z, (gT hG55 hG141), trivial, hI143, hS139, tv⟩
 refine nK h155 H fun H=>wf (vN h155)<|ws<|hK133 _ _ _<|wpc_region<|mv z<|mv z<|q_max z z<|asn z<|nl<|hK64 _ _ _<|wpc_region<|mv z<|q_add z z<|?_
 exact asn z<|nl<|ih _ _ _ H T137 _ _ _ (gT hG55 hG141) ⟨z, z, z, z, tv⟩ hI143 hS139 z
 refine nK h62 H fun H=>wf (bN h62)<|wx<|?_
 cases H
 exact ⟨z, T27, _, z, hG55, trivial, hI57, hS29, tv⟩
 rcases o53 with v40 | v43
 rintro e r ds wd47 ⟨rfl, T39, G45, rfl, hG46, hHas, hI48, hS41, _⟩
 rw [hHas.eq]; clear hHas
 cases H
 exact ⟨.inr z, z, _, z, T39, _, hG46, hI48, hS41, z⟩
 rintro e r ds wd51 ⟨rfl, T42, G49, rfl, hG50, hHas, hI52, hS44, _⟩
 rw [hHas.eq]; clear hHas
 cases H
 exact ⟨.inl z, z, _, z, T42, _, hG50, hI52, hS44, z⟩
theorem slices_Reverse_int_k1_spec {a1 A2 pre3 post4 A5 n6 c7 lim8 q1012 G L w} (H : slices_Reverse_int_k1 a1 = some q1012) (hI : Hp G (rwI G (Kd.int .i64) A2 pre3 a1 post4 lim8 3 :: L) w) (hn9 : a1.length = n6) (hM10 : Mw A2 A5 pre3.length n6 c7 lim8 1) :
    Calls Tryz.prog 151 [slice A5 n6 c7].toArray w fun e w' => ∃ (G' : Gh), G ≤ G' ∧ Hp G' (rwI G' (Kd.int .i64) A2 pre3 q1012 post4 lim8 3 :: L) w' ∧ q1012.length = n6 ∧ e = .returned (tuple [].toArray) := by
 refine calls_intro (N := 28) Tryz.func151 z z (Nat.le_of_ble_eq_true z)<|?_
 unfold slices_Reverse_int_k1 at H
 refine sr fun K12 hK13=>mv z<|q_lenm so44 z hn9<|q_sub z z<|asn z<|asn z<|nl<|hK13 _ _ _<|wb<|bK H fun v35 hC H=>wpc_mono (Q := fun e r ds w => e = .exit 0 ∧ ∃ (Gr37 : Gh) (G39 : Gh), ds = [] ∧ G ≤ G39 ∧ Has [] r ∧ Hp G39 (rwI Gr37 (Kd.int .i64) A2 pre3 v35 post4 lim8 3 :: L) w ∧ v35.length = n6 ∧ Gr37 ≤ G39 ∧ True) ?_ ?_
 refine wpc_loop fun I hLp=>?_
 refine slices_Reverse_int_k1_l34.partial_correctness a1 (fun v18 v20 v21 o => ∀ (Gr22 : Gh) (G44 : Gh) (r : Rg) (w : World), G ≤ G44 → Has [(0, slice A5 n6 c7), (2, int .i64 v20), (3, int .i64 v21)] r → Hp G44 (rwI Gr22 (Kd.int .i64) A2 pre3 v18 post4 lim8 3 :: L) w → v18.length = n6 → Gr22 ≤ G44 → o = v35 → I r [] w) ?_ a1 0 (w64 ((a1.length : Int) - 1)) _ hC G _ _ _ gR ⟨rfl, rfl, rfl, tv⟩ hI hn9 gR rfl
 intro _ ih v18 v20 v21 o H Gr22 G44 r wd46 hG45 hHas hI47 hn19 hGr23 ho
 rw [ho] at H; clear ho
 rw [hHas.eq]; clear hHas
 refine hLp _ _ _<|sQ fun K48 hK49=>sr fun K50 hK51=>mv z<|mv z<|q_lss z z<|nl<|hK51 _ _ _<|dC (v20 < v21) (fun h52=>?_) fun h52=>?_
 refine yK h52 H fun H=>wt (bY h52)<|ws<|hK49 _ _ _<|sQ fun K53 hK54=>wb<|iK H fun⟨h84, h84'⟩H=>have hb85:=lt_n hn9 h84';?_
 obtain ⟨ad86, hA87⟩ := Mw.ad hM10 h84 hb85
 refine iK H fun⟨h90, h90'⟩H=>have hb91:=lt_n hn9 h90';?_
 obtain ⟨ad92, hA93⟩ := Mw.ad hM10 h90 hb91
 refine iK H fun⟨h96, h96'⟩H=>have hb97:=lt_n hn9 h96';?_
 obtain ⟨ad98, hA99⟩ := Mw.ad hM10 h96 hb97
 refine iK H fun⟨h102, h102'⟩H=>have hb103:=lt_n hn9 h102';?_
 obtain ⟨ad104, hA105⟩ := Mw.ad hM10 h102 hb103
 refine wpc_drawL [0, 0, 0, 0, 0, 0, 48, 112, 0, 0, 768, 1792, 4083, 8179, 16383, 32767] (fun D r w => (D 13 = false ∧ ∃ (G' : Gh), G44 ≤ G' ∧ Regs [(0, slice A5 n6 c7), (2, int .i64 v20), (3, int .i64 v21)] [] [(0, 14, slice A5 n6 c7), (1, 15, int .i64 v20), (2, 16, slice A5 n6 c7), (3, 17, int .i64 v21), (4, 18, slice A5 n6 c7), (5, 19, int .i64 v21), (6, 20, pointer (some (ad86.add (Int.toNat v21 * 1)))), (7, 21, int .i64 (v18.getD (Int.toNat v21) (0 : Int))), (8, 22, slice A5 n6 c7), (9, 23, int .i64 v20), (10, 24, pointer (some (ad92.add (Int.toNat v20 * 1)))), (11, 25, int .i64 (v18.getD (Int.toNat v20) (0 : Int))), (12, 26, pointer (some (ad98.add (Int.toNat v20 * 1))))] D r ∧ Hp G' (rwI Gr22 (Kd.int .i64) A2 pre3 v18 post4 lim8 3 :: L) w) ∨ (D 13 = true ∧ D 15 = false ∧ ∃ (G' : Gh), G44 ≤ G' ∧ Regs [(0, slice A5 n6 c7), (2, int .i64 v20), (3, int .i64 v21)] [] [(0, 14, slice A5 n6 c7), (1, 15, int .i64 v20), (2, 16, slice A5 n6 c7), (3, 17, int .i64 v21), (4, 18, slice A5 n6 c7), (5, 19, int .i64 v21), (6, 20, pointer (some (ad86.add (Int.toNat v21 * 1)))), (7, 21, int .i64 (v18.getD (Int.toNat v21) (0 : Int))), (8, 22, slice A5 n6 c7), (9, 23, int .i64 v20), (10, 24, pointer (some (ad92.add (Int.toNat v20 * 1)))), (11, 25, int .i64 (v18.getD (Int.toNat v20) (0 : Int))), (12, 26, pointer (some (ad98.add (Int.toNat v20 * 1)))), (14, 27, pointer (some (ad104.add (Int.toNat v21 * 1))))] D r ∧ Hp G' (rwI Gr22 (Kd.int .i64) A2 pre3 (List.set v18 (Int.toNat v20) (v18.getD (Int.toNat v21) (0 : Int))) post4 lim8 3 :: L) w) ∨ (D 15 = true ∧ ∃ (G' : Gh), G44 ≤ G' ∧ Regs [(0, slice A5 n6 c7), (2, int .i64 v20), (3, int .i64 v21)] [] [(0, 14, slice A5 n6 c7), (1, 15, int .i64 v20), (2, 16, slice A5 n6 c7), (3, 17, int .i64 v21), (4, 18, slice A5 n6 c7), (5, 19, int .i64 v21), (6, 20, pointer (some (ad86.add (Int.toNat v21 * 1)))), (7, 21, int .i64 (v18.getD (Int.toNat v21) (0 : Int))), (8, 22, slice A5 n6 c7), (9, 23, int .i64 v20), (10, 24, pointer (some (ad92.add (Int.toNat v20 * 1)))), (11, 25, int .i64 (v18.getD (Int.toNat v20) (0 : Int))), (12, 26, pointer (some (ad98.add (Int.toNat v20 * 1)))), (14, 27, pointer (some (ad104.add (Int.toNat v21 * 1))))] D r ∧ Hp G' (rwI Gr22 (Kd.int .i64) A2 pre3 (List.set (List.set v18 (Int.toNat v20) (v18.getD (Int.toNat v21) (0 : Int))) (Int.toNat v21) (v18.getD (Int.toNat v20) (0 : Int))) post4 lim8 3 :: L) w)) mixo z z ?_ ?_ ?_
 exact (.inl ⟨z, _, Gh.le_refl _, Regs.start ⟨z, z, z, tv⟩ trivial, hI47.drew⟩)
 refine ⟨?_, ?_, ?_, ?_, ?_, ?_, ?_, ?_, ?_, ?_, ?_, ?_, ?_, ?_, ?_, ?_, tv⟩
 rintro D r wd112 (⟨hd2, G108, hG109, hReg111, hI110⟩ | ⟨hd1, hd2, G108, hG109, hReg111, hI110⟩ | ⟨hd1, G108, hG109, hReg111, hI110⟩) hDi hpre hpost
 obtain ⟨r0, rfl⟩ := Has.ex (cC (hReg111.ins.get 0 rfl) cN)
 exact mv z<|nl ⟨z, (.inl ⟨hd2, _, hG109, (Regs.step hReg111 hDi z z z z), hI110⟩)⟩
 cases (hpost 13 rfl).symm.trans hd1
 cases (hpost 15 rfl).symm.trans hd1
 rintro D r wd112 (⟨hd2, G108, hG109, hReg111, hI110⟩ | ⟨hd1, hd2, G108, hG109, hReg111, hI110⟩ | ⟨hd1, G108, hG109, hReg111, hI110⟩) hDi hpre hpost
 obtain ⟨r0, rfl⟩ := Has.ex (cC (hReg111.ins.get 1 rfl) cN)
 exact mv z<|nl ⟨z, (.inl ⟨hd2, _, hG109, (Regs.step hReg111 hDi z z z z), hI110⟩)⟩
 cases (hpost 13 rfl).symm.trans hd1
 cases (hpost 15 rfl).symm.trans hd1
 rintro D r wd112 (⟨hd2, G108, hG109, hReg111, hI110⟩ | ⟨hd1, hd2, G108, hG109, hReg111, hI110⟩ | ⟨hd1, G108, hG109, hReg111, hI110⟩) hDi hpre hpost
 obtain ⟨r0, rfl⟩ := Has.ex (cC (hReg111.ins.get 0 rfl) cN)
 exact mv z<|nl ⟨z, (.inl ⟨hd2, _, hG109, (Regs.step hReg111 hDi z z z z), hI110⟩)⟩
 obtain ⟨r0, rfl⟩ := Has.ex (cC (hReg111.ins.get 0 rfl) cN)
 exact mv z<|nl ⟨z, (.inr (.inl ⟨hd1, hd2, _, hG109, (Regs.step hReg111 hDi z z z z), hI110⟩))⟩
 cases (hpost 15 rfl).symm.trans hd1
 rintro D r wd112 (⟨hd2, G108, hG109, hReg111, hI110⟩ | ⟨hd1, hd2, G108, hG109, hReg111, hI110⟩ | ⟨hd1, G108, hG109, hReg111, hI110⟩) hDi hpre hpost
 obtain ⟨r0, rfl⟩ := Has.ex (cC (hReg111.ins.get 2 rfl) cN)
 exact mv z<|nl ⟨z, (.inl ⟨hd2, _, hG109, (Regs.step hReg111 hDi z z z z), hI110⟩)⟩
 obtain ⟨r0, rfl⟩ := Has.ex (cC (hReg111.ins.get 2 rfl) cN)
 exact mv z<|nl ⟨z, (.inr (.inl ⟨hd1, hd2, _, hG109, (Regs.step hReg111 hDi z z z z), hI110⟩))⟩
 cases (hpost 15 rfl).symm.trans hd1
 rintro D r wd112 (⟨hd2, G108, hG109, hReg111, hI110⟩ | ⟨hd1, hd2, G108, hG109, hReg111, hI110⟩ | ⟨hd1, G108, hG109, hReg111, hI110⟩) hDi hpre hpost
 obtain ⟨r0, rfl⟩ := Has.ex (cC (hReg111.ins.get 0 rfl) cN)
 exact mv z<|nl ⟨z, (.inl ⟨hd2, _, hG109, (Regs.step hReg111 hDi z z z z), hI110⟩)⟩
 cases (hpost 13 rfl).symm.trans hd1
 cases (hpost 15 rfl).symm.trans hd1
 rintro D r wd112 (⟨hd2, G108, hG109, hReg111, hI110⟩ | ⟨hd1, hd2, G108, hG109, hReg111, hI110⟩ | ⟨hd1, G108, hG109, hReg111, hI110⟩) hDi hpre hpost
 obtain ⟨r0, rfl⟩ := Has.ex (cC (hReg111.ins.get 2 rfl) cN)
 exact mv z<|nl ⟨z, (.inl ⟨hd2, _, hG109, (Regs.step hReg111 hDi z z z z), hI110⟩)⟩
 cases (hpost 13 rfl).symm.trans hd1
 cases (hpost 15 rfl).symm.trans hd1
 rintro D r wd112 (⟨hd2, G108, hG109, hReg111, hI110⟩ | ⟨hd1, hd2, G108, hG109, hReg111, hI110⟩ | ⟨hd1, G108, hG109, hReg111, hI110⟩) hDi hpre hpost
 obtain ⟨r0, rfl⟩ := Has.ex (cC (hReg111.get 4 rfl (hpre 4 rfl)) (cC (hReg111.get 5 rfl (hpre 5 rfl)) cN))
 exact q_ia el44 z hA87 z h84 hb85<|nl ⟨z, (.inl ⟨hd2, _, hG109, (Regs.step hReg111 hDi z z z z), hI110⟩)⟩
 cases (hpost 13 rfl).symm.trans hd1
 cases (hpost 15 rfl).symm.trans hd1
 rintro D r wd112 (⟨hd2, G108, hG109, hReg111, hI110⟩ | ⟨hd1, hd2, G108, hG109, hReg111, hI110⟩ | ⟨hd1, G108, hG109, hReg111, hI110⟩) hDi hpre hpost
 obtain ⟨r0, rfl⟩ := Has.ex (cC (hReg111.get 6 rfl (hpre 6 rfl)) cN)
 obtain ⟨_, rfl, _, hc89⟩ := Hp.rwGet hI110 0 rfl hM10 hn19 hA87 (0 : Int) h84 hb85
 exact q_load1 (v := int .i64 (v18.getD (Int.toNat v21) (0 : Int))) ag3 z (cell0 (hc89 0 _ z))<|nl ⟨z, (.inl ⟨hd2, _, hG109, (Regs.step hReg111 hDi z z z z), hI110⟩)⟩
 cases (hpost 13 rfl).symm.trans hd1
 cases (hpost 15 rfl).symm.trans hd1
 rintro D r wd112 (⟨hd2, G108, hG109, hReg111, hI110⟩ | ⟨hd1, hd2, G108, hG109, hReg111, hI110⟩ | ⟨hd1, G108, hG109, hReg111, hI110⟩) hDi hpre hpost
 obtain ⟨r0, rfl⟩ := Has.ex (cC (hReg111.ins.get 0 rfl) cN)
 exact mv z<|nl ⟨z, (.inl ⟨hd2, _, hG109, (Regs.step hReg111 hDi z z z z), hI110⟩)⟩
 cases (hpost 13 rfl).symm.trans hd1
 cases (hpost 15 rfl).symm.trans hd1
 rintro D r wd112 (⟨hd2, G108, hG109, hReg111, hI110⟩ | ⟨hd1, hd2, G108, hG109, hReg111, hI110⟩ | ⟨hd1, G108, hG109, hReg111, hI110⟩) hDi hpre hpost
 obtain ⟨r0, rfl⟩ := Has.ex (cC (hReg111.ins.get 1 rfl) cN)
 exact mv z<|nl ⟨z, (.inl ⟨hd2, _, hG109, (Regs.step hReg111 hDi z z z z), hI110⟩)⟩
 cases (hpost 13 rfl).symm.trans hd1
 cases (hpost 15 rfl).symm.trans hd1
 rintro D r wd112 (⟨hd2, G108, hG109, hReg111, hI110⟩ | ⟨hd1, hd2, G108, hG109, hReg111, hI110⟩ | ⟨hd1, G108, hG109, hReg111, hI110⟩) hDi hpre hpost
 obtain ⟨r0, rfl⟩ := Has.ex (cC (hReg111.get 8 rfl (hpre 8 rfl)) (cC (hReg111.get 9 rfl (hpre 9 rfl)) cN))
 exact q_ia el44 z hA93 z h90 hb91<|nl ⟨z, (.inl ⟨hd2, _, hG109, (Regs.step hReg111 hDi z z z z), hI110⟩)⟩
 cases (hpost 13 rfl).symm.trans hd1
 cases (hpost 15 rfl).symm.trans hd1
 rintro D r wd112 (⟨hd2, G108, hG109, hReg111, hI110⟩ | ⟨hd1, hd2, G108, hG109, hReg111, hI110⟩ | ⟨hd1, G108, hG109, hReg111, hI110⟩) hDi hpre hpost
 obtain ⟨r0, rfl⟩ := Has.ex (cC (hReg111.get 10 rfl (hpre 10 rfl)) cN)
 obtain ⟨_, rfl, _, hc95⟩ := Hp.rwGet hI110 0 rfl hM10 hn19 hA93 (0 : Int) h90 hb91
 exact q_load1 (v := int .i64 (v18.getD (Int.toNat v20) (0 : Int))) ag3 z (cell0 (hc95 0 _ z))<|nl ⟨z, (.inl ⟨hd2, _, hG109, (Regs.step hReg111 hDi z z z z), hI110⟩)⟩
 cases (hpost 13 rfl).symm.trans hd1
 cases (hpost 15 rfl).symm.trans hd1
 rintro D r wd112 (⟨hd2, G108, hG109, hReg111, hI110⟩ | ⟨hd1, hd2, G108, hG109, hReg111, hI110⟩ | ⟨hd1, G108, hG109, hReg111, hI110⟩) hDi hpre hpost
 obtain ⟨r0, rfl⟩ := Has.ex (cC (hReg111.get 0 rfl (hpre 0 rfl)) (cC (hReg111.get 1 rfl (hpre 1 rfl)) cN))
 exact q_ia el44 z hA99 z h96 hb97<|nl ⟨z, (.inl ⟨hd2, _, hG109, (Regs.step hReg111 hDi z z z z), hI110⟩)⟩
 cases (hpost 13 rfl).symm.trans hd1
 cases (hpost 15 rfl).symm.trans hd1
 rintro D r wd112 (⟨hd2, G108, hG109, hReg111, hI110⟩ | ⟨hd1, hd2, G108, hG109, hReg111, hI110⟩ | ⟨hd1, G108, hG109, hReg111, hI110⟩) hDi hpre hpost
 obtain ⟨r0, rfl⟩ := Has.ex (cC (hReg111.get 7 rfl (hpre 7 rfl)) (cC (hReg111.get 12 rfl (hpre 12 rfl)) cN))
 exact q_stm (kd := (Kd.int .i64)) hI110 0 (v := int .i64 (v18.getD (Int.toNat v21) (0 : Int))) (news := [int .i64 (v18.getD (Int.toNat v21) (0 : Int))]) (0 : Int) (v18.getD (Int.toNat v21) (0 : Int)) ag3 z hM10 hn19 hA99 h96 hb97 (add_zero' _) z z z z z (Nat.le_of_ble_eq_true z) gR (fun _ ho => setAll_K ho z z) fun wd100 hI101=>nl ⟨z, (.inr (.inl ⟨z, (hpost 15 z), _, hG109, (Regs.stepN (Regs.more (new := [(14, 27, pointer (some (ad104.add (Int.toNat v21 * 1))))]) hReg111 (List.forall_mem_cons.2 ⟨hpost 14 z, (fun _ h => nomatch h)⟩)) z z), hI101⟩))⟩
 cases hDi.symm.trans hd1
 cases (hpost 15 rfl).symm.trans hd1
 rintro D r wd112 (⟨hd2, G108, hG109, hReg111, hI110⟩ | ⟨hd1, hd2, G108, hG109, hReg111, hI110⟩ | ⟨hd1, G108, hG109, hReg111, hI110⟩) hDi hpre hpost
 cases (hpre 13 rfl).symm.trans hd2
 obtain ⟨r0, rfl⟩ := Has.ex (cC (hReg111.get 2 rfl (hpre 2 rfl)) (cC (hReg111.get 3 rfl (hpre 3 rfl)) cN))
 exact q_ia el44 z hA105 z h102 hb103<|nl ⟨z, (.inr (.inl ⟨hd1, hd2, _, hG109, (Regs.step hReg111 hDi z z z z), hI110⟩))⟩
 cases (hpost 15 rfl).symm.trans hd1
 rintro D r wd112 (⟨hd2, G108, hG109, hReg111, hI110⟩ | ⟨hd1, hd2, G108, hG109, hReg111, hI110⟩ | ⟨hd1, G108, hG109, hReg111, hI110⟩) hDi hpre hpost
 cases (hpre 13 rfl).symm.trans hd2
 obtain ⟨r0, rfl⟩ := Has.ex (cC (hReg111.get 11 rfl (hpre 11 rfl)) (cC (hReg111.get 13 rfl (hpre 14 rfl)) cN))
 exact q_stm (kd := (Kd.int .i64)) hI110 0 (v := int .i64 (v18.getD (Int.toNat v20) (0 : Int))) (news := [int .i64 (v18.getD (Int.toNat v20) (0 : Int))]) (0 : Int) (v18.getD (Int.toNat v20) (0 : Int)) ag3 z hM10 (set_len hn19) hA105 h102 hb103 (add_zero' _) z z z z z (Nat.le_of_ble_eq_true z) gR (fun _ ho => setAll_K ho z z) fun wd106 hI107=>nl ⟨z, (.inr (.inr ⟨z, _, hG109, (Regs.stepN hReg111 z z), hI107⟩))⟩
 cases hDi.symm.trans hd1
 intro D r wd112 hall hR
 rcases hR with ⟨hd2, G108, hG109, hReg111, hI110⟩ | ⟨hd1, hd2, G108, hG109, hReg111, hI110⟩ | ⟨hd1, G108, hG109, hReg111, hI110⟩
 cases (hall 13 (Nat.le_of_ble_eq_true rfl)).symm.trans hd2
 cases (hall 15 (Nat.le_of_ble_eq_true rfl)).symm.trans hd2
 obtain ⟨r0, rfl⟩ := Has.ex (cC (hReg111.ins.get 0 rfl) (cC (hReg111.ins.get 1 rfl) (cC (hReg111.ins.get 2 rfl) cN)))
 exact hK54 _ _ _<|wpc_region<|mv z<|q_add z z<|mv z<|q_sub z z<|asn z<|asn z<|nl<|have hI113:=Hp.rwUp hI110 0 z (gT hGr23 hG109);ih _ _ _ _ H G108 _ _ _ (gT hG45 hG109) ⟨z, z, z, tv⟩ hI113 (set_len (set_len hn19)) gR z
 refine nK h52 H fun H=>wf (bN h52)<|wx<|have hI114:=Hp.rwUp hI47 0 z hGr23;?_
 cases H
 exact ⟨z, G44, _, z, hG45, trivial, hI114, hn19, gR, tv⟩
 rintro e r ds wd41 ⟨rfl, Gr37, G39, rfl, hG40, hHas, hI42, hn36, hGr38, _⟩
 rw [hHas.eq]; clear hHas
 refine have hI115:=Hp.rwUp hI42 0 z hGr38;?_
 cases H
 exact ⟨.inl z, z, _, z, _, hG40, hI115, hn36, z⟩
theorem bidi_turn_k3_spec {a1 a12 a17 A2 pre3 post4 A5 n6 c7 lim8 A13 c14 A18 c19 q1022 G L w} (H : bidi_turn_k3 a1 a12 a17 = some q1022) (hI : Hp G (rwI G (Kd.int .i64) A2 pre3 a1 post4 lim8 3 :: L) w) (hn9 : a1.length = n6) (hM10 : Mw A2 A5 pre3.length n6 c7 lim8 1) (hl15 : a12.length ≤ c14) (hD16 : Dat (Kd.int .i64) G A13 a12) (hl20 : a17.length ≤ c19) (hD21 : Dat (Kd.int .i64) G A18 a17) :
    Calls Tryz.prog 117 [slice A5 n6 c7, slice A13 a12.length c14, slice A18 a17.length c19].toArray w fun e w' => ∃ (G' : Gh), G ≤ G' ∧ Hp G' (rwI G' (Kd.int .i64) A2 pre3 q1022 post4 lim8 3 :: L) w' ∧ q1022.length = n6 ∧ e = .returned (tuple [].toArray) := by
 refine calls_intro_m (N := 30) Tryz.func117 z z (Nat.le_of_ble_eq_true z)<|?_
 unfold bidi_turn_k3 at H
 refine sr fun K22 hK23=>bxk hI z z fun g25 wd26 hI27=>bxk hI27 z z fun g29 wd30 hI31=>nl<|hK23 _ _ _<|sr fun K32 hK33=>mv z<|q_len so44 z<|mv z<|nl<|hK33 _ _ _<|wb<|bK H fun v55 hC H=>?_
 refine wpc_mono (Q := fun e r ds w => e = .exit 0 ∧ ∃ (D59 : List Nat) (Gr57 : Gh) (G60 : Gh), ds = (List.map Go.LG.mark D59) ∧ G ≤ G60 ∧ Has [] r ∧ Hp G60 (bx g29 [slice A13 a12.length c14] 44 :: bx g25 [slice A5 n6 c7] 44 :: rwI Gr57 (Kd.int .i64) A2 pre3 v55 post4 lim8 3 :: (List.map mkI D59 ++ L)) w ∧ v55.length = n6 ∧ Gr57 ≤ G60 ∧ True) ?_ ?_
 refine wpc_loop fun I hLp=>?_
 refine bidi_turn_k3_l54.partial_correctness a1 a12 a17 (fun v38 v40 o => ∀ (D43 : List Nat) (Gr41 : Gh) (G65 : Gh) (r : Rg) (w : World), G ≤ G65 → Has [(3, pointer (some ⟨g25, 0, none⟩)), (4, pointer (some ⟨g29, 0, none⟩)), (11, slice A18 a17.length c19), (12, int .i64 (a17.length : Int)), (13, int .i64 v40)] r → Hp G65 (bx g29 [slice A13 a12.length c14] 44 :: bx g25 [slice A5 n6 c7] 44 :: rwI Gr41 (Kd.int .i64) A2 pre3 v38 post4 lim8 3 :: (List.map mkI D43 ++ L)) w → v38.length = n6 → Gr41 ≤ G65 → o = v55 → I r (List.map Go.LG.mark D43) w) ?_ a1 0 _ hC ([] : List Nat) G _ _ _ gR ⟨rfl, rfl, rfl, rfl, rfl, tv⟩ hI31 hn9 gR rfl
 intro _ ih v38 v40 o H D43 Gr41 G65 r wd67 hG66 hHas hI68 hn39 hGr42 ho
 rw [ho] at H; clear ho
 rw [hHas.eq]; clear hHas
 refine hLp _ _ _<|sr fun K69 hK70=>q_lss z z<|nl<|hK70 _ _ _<|sQ fun K71 hK72=>dC (v40 < (a17.length : Int)) (fun h73=>?_) fun h73=>?_
 refine yK h73 H fun H=>wt (bY h73)<|ws<|hK72 _ _ _<|sQ fun K74 hK75=>wb<|sr fun K76 hK77=>iK H fun⟨h78, h78'⟩H=>?_
 obtain ⟨ad79, cs80, hA81, hK82, hn83, hc84⟩ := Dat.get (Dat.mono hG66 hD21) (0 : Int) (v40) h78 h78'
 obtain rfl := hK82
 refine q_ia el44 z hA81 z h78 h78'<|q_lf hI68 ag3 z (gR.cel _ _ (hc84 0 _ z))<|q_alloc hI68 ze3 fun g86 wd87 hI88=>stk hI88 0 ag3 z z z z z z z fun wd89 hI90=>nl<|hK77 _ _ _<|sr fun K91 hK92=>q_fn (vs := []) (us := [pointer (some ⟨g29, 0, none⟩), pointer (some ⟨g86, 0, none⟩)]) z z<|asn z<|nl<|hK92 _ _ _<|sr fun K93 hK94=>ld hI90 2 ag44 z z z<|have hI95:=Hp.rwUp hI90 3 z hGr42;?_
 refine have hI99:=Hp.pick 4 [3, 0, 1, 2] hI95 z;bK2 H fun y105 y112 hy100 H=>q_cv (vs := [slice A5 n6 c7]) bo150 z z (slices_Clone_int_k1_spec hy100 hI99 hn39 hM10)<|?_
 rintro _ wd103 ⟨A106, c107, G101, hG102, hI104, hl108, hD109, ho110, hn113, rfl⟩
 refine ⟨_, rfl, ?_⟩
 refine mv z<|have hI118:=Hp.pick 5 [3, 2, 0, 1, 4] hI104 z;bK H fun y126 hy119 H=>q_cv (vs := [slice A106 y105.length c107, func (.func 148) [].toArray [pointer (some ⟨g29, 0, none⟩), pointer (some ⟨g86, 0, none⟩)].toArray]) bo149 z z (bidi_runs_int_k2_spec hy119 hI118 hl108 hD109 hl15 (Dat.mono (gT hG66 hG102) hD16))<|?_
 rintro _ wd122 ⟨g125, A127, c128, g132, G120, hG121, hI123, hl129, hD130, rfl⟩
 refine ⟨_, rfl, ?_⟩
 refine nl<|hK94 _ _ _<|wb<|have hI133:=Hp.rwUp hI123 5 z hG121;have hI152:=Hp.pick 7 [0, 1, 2, 3, 6, 4, 5] hI133 z;bK2 H fun v135 jo155 hr193 H=>wpc_range hI152 bo176 z fun fn tmps gl gd134 wd212 hA190 hI191=>?_
 have hY192 : Yl Tryz.prog (rnd (fun (u : (List Int)) (x : Int × Int) => bidi_turn_k3_r153 a1 u x.1 x.2)) (encP (enc1 (Kd.int .i64)) (enc1 (Kd.int .i64))) _ gl := yl_intro (pp := [22, 23]) (gdd := gd134) hI191 (fun (u : (List Int)) (x : Int × Int) => bidi_turn_k3_r153 a1 u x.1 x.2) [] (fun (u : (List Int)) (G' : Gh) (K : List Itm) => ∃ (Gr137 : Gh) (_ : G120 ≤ G'), K = bx g25 [slice A5 n6 c7] 44 :: tk (slice A106 y105.length c107) 1 3 :: rwI Gr137 (Kd.int .i64) A2 pre3 u post4 lim8 3 :: (List.map mkI (gd134 :: D43) ++ L) ∧ u.length = n6 ∧ Gr137 ≤ G' ∧ True) hA190 (fun _ _ _ h => (fun h => encP_len (fun h => enc1_len h) (fun h => enc1_len h) h) h) (fun hG' ⟨Gr137, h0', hK', hn136, hGr138, _⟩ => ⟨Gr137, gT h0' hG', hK', hn136, (gT hGr138 hG'), tv⟩) (by
 rintro Rd Bs v135 u' ⟨x161, x163⟩ jo' G157 K M wd159 vs ⟨Gr137, hG158, rfl, hn136, hGr138, _⟩ ⟨_, _, rfl, ⟨_, rfl, hv162⟩, ⟨_, rfl, hv164⟩⟩ H hI165
 cases hv162
 cases hv164
 replace H : bidi_turn_k3_r153 a1 v135 x161 x163 = some (u', jo') := H
 unfold bidi_turn_k3_r153 at H
 refine sr fun K166 hK167=>asn z<|nl<|hK167 _ _ _<|wpc_region<|asn z<|nl<|?_
 refine ⟨rfl, rfl, _, _, gR, hI165, fun wd169 hI168 => ?_⟩
 refine wb<|wpc_region<|ld hI168 1 ag44 z z z<|mv z<|mv z<|iK H fun⟨h170, h171, h172⟩H=>q_sl (l := x161) (h := x163) el44 z (.inr ⟨_, z, z⟩) (.inr ⟨_, z, z⟩) hM10.le h170 h171 (le_n hn9 h172)<|have hI173:=Hp.rwRe hI168 3 z (win_eq v135 post4 pre3 h170 h171 (le_t hn136 hn9 h172));have hI174:=Hp.rwUp hI173 3 z hGr138;have hI178:=Hp.pick 4 [3, 0, 1, 2] hI174 z;bK H fun y184 hy179 H=>q_cv (vs := [slice (if c7 = Int.toNat x161 then A5 else Option.map (fun a => Addr.add a (Int.toNat x161 * 1)) A5) (Int.toNat x163 - Int.toNat x161) (c7 - Int.toNat x161)]) bo151 z z (slices_Reverse_int_k1_spec (a1 := cutl v135 x161 x163) hy179 hI178 (cut_len h170 h171 (le_t hn136 hn9 h172)) (Mw.win (kd := (Kd.int .i64)) (A := A5) (c := c7) (pre := pre3) hM10 hn136 h170 h171 (le_t hn136 hn9 h172)))<|?_
 rintro _ wd182 ⟨G180, hG181, hI183, hn185, rfl⟩
 refine ⟨_, rfl, ?_⟩
 refine have hI186:=Hp.rwRe hI183 0 z (unwin_eq v135 post4 pre3 y184 x161 x163);nl<|have hI189:=Hp.pick 4 [1, 2, 3, 0] hI186 z;?_
 cases H
 exact ⟨z, _, _, hG181, ⟨G180, (gT hG158 hG181), z, (unwin_len hn136 h170 h171 (le_t hn136 hn9 h172) hn185), gR, tv⟩, hI189⟩)
 refine have hI213:=Hp.sink (A := [bx g125 [slice A127 y126.length c128] 44, bx g132 [func (.func 148) [].toArray [pointer (some ⟨g29, 0, none⟩), pointer (some ⟨g86, 0, none⟩)].toArray] 75, bx g29 [slice A13 a12.length c14] 44, bx g86 [int .i64 (a17.getD (Int.toNat v40) (0 : Int))] 3]) (K := [bx g25 [slice A5 n6 c7] 44, tk (slice A106 y105.length c107) 1 3, rwI G120 (Kd.int .i64) A2 pre3 y112 post4 lim8 3]) hI191;(bidi_runs_1_int_k1_spec (sy := (y112, none)) hr193 hI213 hl129 hD130 hl15 (Dat.mono (gT (gT hG66 hG102) hG121) hD16) hY192 ⟨_, z, G120, Gh.le_refl _, z, hn113, gR, tv⟩).mono<|?_
 rintro _ wd196 ⟨T200, G194, hG1950, hI197, ⟨K, rfl, Gr137, hG195, rfl, hn136, hGr138, _⟩, rfl⟩
 refine have hH202:=Hp.front hI197 4 z;?_
 rcases jo155 with _ | j
 refine ⟨_, rfl, LoopState.ready, none, G194, _, (fun h => nomatch h), hH202, fun wd198 hI199 => ?_⟩
 exact hK75 _ _ _<|wpc_region<|q_add z z<|mv z<|nl<|have hI207:=Hp.rwUp hI199 6 z hGr138;have hI211:=Hp.pick 7 [2, 4, 6] hI207 z;ih _ _ _ H (gd134 :: D43) G194 _ _ _ (gT (gT (gT hG66 hG102) hG121) hG195) ⟨z, z, z, z, z, tv⟩ hI211 hn136 gR z
 cases H
 refine nK h73 H fun H=>wf (bN h73)<|wx<|have hI214:=Hp.rwUp hI68 2 z hGr42;?_
 cases H
 exact ⟨z, D43, G65, _, z, hG66, trivial, hI214, hn39, gR, tv⟩
 rintro e r ds wd62 ⟨rfl, D59, Gr57, G60, rfl, hG61, hHas, hI63, hn56, hGr58, _⟩
 rw [hHas.eq]; clear hHas
 refine ⟨.inl rfl, D59, _, _, rfl, Hp.marks (K := [bx g29 [slice A13 a12.length c14] 44, bx g25 [slice A5 n6 c7] 44, rwI Gr57 (Kd.int .i64) A2 pre3 v55 post4 lim8 3]) hI63, fun wd216 hI215 => ?_⟩
 refine have hI217:=Hp.rwUp hI215 2 z hGr58;have hI219:=Hp.pick 3 [2] hI217 z;?_
 cases H
 exact ⟨_, z, _, hG61, hI219, hn56, z⟩
end Go.Proofs.YtaemgcpcfnbmdaaGreatDoor.LG
