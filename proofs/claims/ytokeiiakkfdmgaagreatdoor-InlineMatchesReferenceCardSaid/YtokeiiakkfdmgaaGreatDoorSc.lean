/-
  The walks: each function computes its plain function: printed by a program out of the translation.
-/
import Derived.Test.YtokeiiakkfdmgaaGreatDoorSb
set_option linter.unusedVariables false
set_option linter.unusedSimpArgs false
set_option maxRecDepth 100000
namespace Go.Proofs.YtokeiiakkfdmgaaGreatDoor.LG
open Go Go.LG Go.RowKit Go.Value
set_option maxHeartbeats 1000000
open Go.Lib Go.Shelf Go.Proofs
theorem formelaw17_head_spec {r1001 G L w} (H : formelaw17_head = some r1001) (hI : Hp G L w) (hgl : Gl G) :
    Calls Tryz.prog 9 [].toArray w fun e w' => Hp G L w' ∧ e = .returned (bool r1001) := by
 refine calls_intro (N := 123) Tryz.func9 z z (Nat.le_of_ble_eq_true z)<|?_
 unfold formelaw17_head at H
 refine sr fun K1 hK2=>asn z<|nl<|hK2 _ _ _<|sr fun K3 hK4=>q_build (vs := [(0, int .i64 2), (1, int .i64 2)]) (cs := [int .i64 2, int .i64 2, slice none 0 0]) ze28 pl28 z z<|q_alloc hI ze28 fun g6 wd7 hI8=>stk hI8 0 ag28 z z z z z z z fun wd9 hI10=>nl<|hK4 _ _ _<|sQ fun K11 hK12=>bK H fun y22 hy207 H=>bK2 H fun y230 y237 hy415 H=>?_
 refine wpc_drawL [0, 0, 0, 7, 15, 31, 31, 63, 255] (fun D r w => (D 0 = false ∧ D 2 = false ∧ D 3 = false ∧ ∃ (G' : Gh), G ≤ G' ∧ Regs [(1, pointer (some ⟨g6, 0, none⟩))] [] [(1, 22, agg [int .i64 2, int .i64 2, slice none 0 0].toArray)] D r ∧ Hp G' (bx g6 [int .i64 2, int .i64 2, slice none 0 0] 28 :: L) w) ∨ (D 0 = true ∧ D 2 = false ∧ D 3 = false ∧ ∃ (A23 : Option Addr) (c24 : Nat) (A27 : Option Addr) (c28 : Nat) (G' : Gh), G ≤ G' ∧ y22.Glyphs.length ≤ c24 ∧ Dat k_api_Glyph G' A23 y22.Glyphs ∧ y22.Kerns.length ≤ c28 ∧ Dat k_api_Kern G' A27 y22.Kerns ∧ Regs [(1, pointer (some ⟨g6, 0, none⟩))] [] [(0, 21, agg [slice A23 y22.Glyphs.length c24, slice A27 y22.Kerns.length c28].toArray), (1, 22, agg [int .i64 2, int .i64 2, slice none 0 0].toArray)] D r ∧ Hp G' (bx g6 [int .i64 2, int .i64 2, slice none 0 0] 28 :: L) w) ∨ (D 0 = false ∧ D 2 = true ∧ D 3 = false ∧ ∃ (g219 : Nat) (G' : Gh), G ≤ G' ∧ Dat (Kd.int .i64) G' (some ⟨g219, 0, none⟩) ([50] : List Int) ∧ Regs [(1, pointer (some ⟨g6, 0, none⟩))] [] [(1, 22, agg [int .i64 2, int .i64 2, slice none 0 0].toArray), (2, 23, slice (some ⟨g219, 0, none⟩) ([50] : List Int).length 1)] D r ∧ Hp G' (tk (slice (some ⟨g219, 0, none⟩) ([50] : List Int).length 1) 1 3 :: bx g6 [int .i64 2, int .i64 2, slice none 0 0] 28 :: L) w) ∨ (D 0 = true ∧ D 2 = true ∧ D 3 = false ∧ ∃ (A23 : Option Addr) (c24 : Nat) (A27 : Option Addr) (c28 : Nat) (g219 : Nat) (G' : Gh), G ≤ G' ∧ y22.Glyphs.length ≤ c24 ∧ Dat k_api_Glyph G' A23 y22.Glyphs ∧ y22.Kerns.length ≤ c28 ∧ Dat k_api_Kern G' A27 y22.Kerns ∧ Dat (Kd.int .i64) G' (some ⟨g219, 0, none⟩) ([50] : List Int) ∧ Regs [(1, pointer (some ⟨g6, 0, none⟩))] [] [(0, 21, agg [slice A23 y22.Glyphs.length c24, slice A27 y22.Kerns.length c28].toArray), (1, 22, agg [int .i64 2, int .i64 2, slice none 0 0].toArray), (2, 23, slice (some ⟨g219, 0, none⟩) ([50] : List Int).length 1)] D r ∧ Hp G' (tk (slice (some ⟨g219, 0, none⟩) ([50] : List Int).length 1) 1 3 :: bx g6 [int .i64 2, int .i64 2, slice none 0 0] 28 :: L) w) ∨ (D 0 = true ∧ D 2 = true ∧ D 3 = true ∧ ∃ (A23 : Option Addr) (c24 : Nat) (A27 : Option Addr) (c28 : Nat) (g219 : Nat) (A231 : Option Addr) (c232 : Nat) (G' : Gh), G ≤ G' ∧ y22.Glyphs.length ≤ c24 ∧ Dat k_api_Glyph G' A23 y22.Glyphs ∧ y22.Kerns.length ≤ c28 ∧ Dat k_api_Kern G' A27 y22.Kerns ∧ Dat (Kd.int .i64) G' (some ⟨g219, 0, none⟩) ([50] : List Int) ∧ y230.length ≤ c232 ∧ Dat k_api_Line G' A231 y230 ∧ Own A231 c232 ∧ Regs [(1, pointer (some ⟨g6, 0, none⟩))] [] [(0, 21, agg [slice A23 y22.Glyphs.length c24, slice A27 y22.Kerns.length c28].toArray), (1, 22, agg [int .i64 2, int .i64 2, slice none 0 0].toArray), (2, 23, slice (some ⟨g219, 0, none⟩) ([50] : List Int).length 1), (3, 24, tuple [slice A231 y230.length c232, int .i64 y237].toArray), (4, 20, tuple [slice A231 y230.length c232, int .i64 y237].toArray), (5, 25, slice A231 y230.length c232), (6, 26, int .i64 y237), (7, 2, slice A231 y230.length c232), (8, 3, int .i64 y237)] D r ∧ Hp G' (tk (slice A231 y230.length c232) 4 31 :: tk (slice (some ⟨g219, 0, none⟩) ([50] : List Int).length 1) 1 3 :: bx g6 [int .i64 2, int .i64 2, slice none 0 0] 28 :: L) w)) mixo z z ?_ ?_ ?_
 exact (.inl ⟨z, z, z, _, Gh.le_refl _, Regs.start ⟨z, tv⟩ trivial, hI10.drew⟩)
 refine ⟨?_, ?_, ?_, ?_, ?_, ?_, ?_, ?_, ?_, tv⟩
 rintro D r wd430 (⟨hd0, hd2, hd3, G426, hG427, hReg429, hI428⟩ | ⟨hd0, hd2, hd3, A23, c24, A27, c28, G426, hG427, hl25, hD26, hl29, hD30, hReg429, hI428⟩ | ⟨hd0, hd2, hd3, g219, G426, hG427, hD224, hReg429, hI428⟩ | ⟨hd0, hd2, hd3, A23, c24, A27, c28, g219, G426, hG427, hl25, hD26, hl29, hD30, hD224, hReg429, hI428⟩ | ⟨hd0, hd2, hd3, A23, c24, A27, c28, g219, A231, c232, G426, hG427, hl25, hD26, hl29, hD30, hD224, hl233, hD234, ho235, hReg429, hI428⟩) hDi hpre hpost
 obtain ⟨r0, rfl⟩ := Has.ex (r := r) cN
 refine q_cv (vs := []) bo23 z z (formelaw17_plain_spec hy207 hI428)<|?_
 rintro _ wd20 ⟨A23, c24, A27, c28, G18, hG19, hI21, hl25, hD26, hl29, hD30, rfl⟩
 refine ⟨_, rfl, ?_⟩
 exact nl ⟨z, (.inr (.inl ⟨z, hd2, hd3, A23, c24, A27, c28, _, (gT hG427 hG19), hl25, hD26, hl29, hD30, (Regs.step (Regs.re (vals' := [(0, 21, agg [slice A23 y22.Glyphs.length c24, slice A27 y22.Kerns.length c28].toArray), (1, 22, agg [int .i64 2, int .i64 2, slice none 0 0].toArray)]) hReg429 (List.forall_mem_cons.2 ⟨.inr hDi, (List.forall_mem_cons.2 ⟨.inl (List.mem_of_getElem? (i := 0) z), (fun _ h => nomatch h)⟩)⟩)) hDi z z z z), hI21⟩))⟩
 cases hDi.symm.trans hd0
 obtain ⟨r0, rfl⟩ := Has.ex (r := r) cN
 refine q_cv (vs := []) bo23 z z (formelaw17_plain_spec hy207 hI428)<|?_
 rintro _ wd20 ⟨A23, c24, A27, c28, G18, hG19, hI21, hl25, hD26, hl29, hD30, rfl⟩
 refine ⟨_, rfl, ?_⟩
 exact nl ⟨z, (.inr (.inr (.inr (.inl ⟨z, hd2, hd3, A23, c24, A27, c28, g219, _, (gT hG427 hG19), hl25, hD26, hl29, hD30, (Dat.mono hG19 hD224), (Regs.step (Regs.re (vals' := [(0, 21, agg [slice A23 y22.Glyphs.length c24, slice A27 y22.Kerns.length c28].toArray), (1, 22, agg [int .i64 2, int .i64 2, slice none 0 0].toArray), (2, 23, slice (some ⟨g219, 0, none⟩) ([50] : List Int).length 1)]) hReg429 (List.forall_mem_cons.2 ⟨.inr hDi, (List.forall_mem_cons.2 ⟨.inl (List.mem_of_getElem? (i := 0) z), (List.forall_mem_cons.2 ⟨.inl (List.mem_of_getElem? (i := 1) z), (fun _ h => nomatch h)⟩)⟩)⟩)) hDi z z z z), hI21⟩))))⟩
 cases hDi.symm.trans hd0
 cases hDi.symm.trans hd0
 rintro D r wd430 (⟨hd0, hd2, hd3, G426, hG427, hReg429, hI428⟩ | ⟨hd0, hd2, hd3, A23, c24, A27, c28, G426, hG427, hl25, hD26, hl29, hD30, hReg429, hI428⟩ | ⟨hd0, hd2, hd3, g219, G426, hG427, hD224, hReg429, hI428⟩ | ⟨hd0, hd2, hd3, A23, c24, A27, c28, g219, G426, hG427, hl25, hD26, hl29, hD30, hD224, hReg429, hI428⟩ | ⟨hd0, hd2, hd3, A23, c24, A27, c28, g219, A231, c232, G426, hG427, hl25, hD26, hl29, hD30, hD224, hl233, hD234, ho235, hReg429, hI428⟩) hDi hpre hpost
 obtain ⟨r0, rfl⟩ := Has.ex (cC (hReg429.ins.get 0 rfl) cN)
 exact lda hI428 0 ag28 z z z z<|nl ⟨z, (.inl ⟨hd0, hd2, hd3, _, hG427, (Regs.step hReg429 hDi z z z z), hI428⟩)⟩
 obtain ⟨r0, rfl⟩ := Has.ex (cC (hReg429.ins.get 0 rfl) cN)
 exact lda hI428 0 ag28 z z z z<|nl ⟨z, (.inr (.inl ⟨hd0, hd2, hd3, A23, c24, A27, c28, _, hG427, hl25, hD26, hl29, hD30, (Regs.step hReg429 hDi z z z z), hI428⟩))⟩
 obtain ⟨r0, rfl⟩ := Has.ex (cC (hReg429.ins.get 0 rfl) cN)
 exact lda hI428 1 ag28 z z z z<|nl ⟨z, (.inr (.inr (.inl ⟨hd0, hd2, hd3, g219, _, hG427, hD224, (Regs.step hReg429 hDi z z z z), hI428⟩)))⟩
 obtain ⟨r0, rfl⟩ := Has.ex (cC (hReg429.ins.get 0 rfl) cN)
 exact lda hI428 1 ag28 z z z z<|nl ⟨z, (.inr (.inr (.inr (.inl ⟨hd0, hd2, hd3, A23, c24, A27, c28, g219, _, hG427, hl25, hD26, hl29, hD30, hD224, (Regs.step hReg429 hDi z z z z), hI428⟩))))⟩
 cases (hpost 3 rfl).symm.trans hd3
 rintro D r wd430 (⟨hd0, hd2, hd3, G426, hG427, hReg429, hI428⟩ | ⟨hd0, hd2, hd3, A23, c24, A27, c28, G426, hG427, hl25, hD26, hl29, hD30, hReg429, hI428⟩ | ⟨hd0, hd2, hd3, g219, G426, hG427, hD224, hReg429, hI428⟩ | ⟨hd0, hd2, hd3, A23, c24, A27, c28, g219, G426, hG427, hl25, hD26, hl29, hD30, hD224, hReg429, hI428⟩ | ⟨hd0, hd2, hd3, A23, c24, A27, c28, g219, A231, c232, G426, hG427, hl25, hD26, hl29, hD30, hD224, hl233, hD234, ho235, hReg429, hI428⟩) hDi hpre hpost
 obtain ⟨r0, rfl⟩ := Has.ex (r := r) cN
 refine q_bs hI428 (vs := [(0, int .i64 50)]) (cs := [int .i64 50]) el29 ze3 rfl (by decide) rfl rfl (fun g219 wd220 hI221 => ?_)
 obtain ⟨G222, hG223, hI225, hD224⟩ := Hp.publish (xs := ([50] : List Int)) (n := 1) (Kd.int .i64) hI221 ⟨[int .i64 50], _, rfl, rfl, rfl⟩ rfl
 exact nl ⟨z, (.inr (.inr (.inl ⟨hd0, z, hd3, g219, _, (gT hG427 hG223), hD224, (Regs.step (Regs.re (vals' := [(1, 22, agg [int .i64 2, int .i64 2, slice none 0 0].toArray), (2, 23, slice (some ⟨g219, 0, none⟩) ([50] : List Int).length 1)]) hReg429 (List.forall_mem_cons.2 ⟨.inl (List.mem_of_getElem? (i := 0) z), (List.forall_mem_cons.2 ⟨.inr hDi, (fun _ h => nomatch h)⟩)⟩)) hDi z z z z), hI225⟩)))⟩
 obtain ⟨r0, rfl⟩ := Has.ex (r := r) cN
 refine q_bs hI428 (vs := [(0, int .i64 50)]) (cs := [int .i64 50]) el29 ze3 rfl (by decide) rfl rfl (fun g219 wd220 hI221 => ?_)
 obtain ⟨G222, hG223, hI225, hD224⟩ := Hp.publish (xs := ([50] : List Int)) (n := 1) (Kd.int .i64) hI221 ⟨[int .i64 50], _, rfl, rfl, rfl⟩ rfl
 exact nl ⟨z, (.inr (.inr (.inr (.inl ⟨hd0, z, hd3, A23, c24, A27, c28, g219, _, (gT hG427 hG223), hl25, (Dat.mono hG223 hD26), hl29, (Dat.mono hG223 hD30), hD224, (Regs.step (Regs.re (vals' := [(0, 21, agg [slice A23 y22.Glyphs.length c24, slice A27 y22.Kerns.length c28].toArray), (1, 22, agg [int .i64 2, int .i64 2, slice none 0 0].toArray), (2, 23, slice (some ⟨g219, 0, none⟩) ([50] : List Int).length 1)]) hReg429 (List.forall_mem_cons.2 ⟨.inl (List.mem_of_getElem? (i := 0) z), (List.forall_mem_cons.2 ⟨.inl (List.mem_of_getElem? (i := 1) z), (List.forall_mem_cons.2 ⟨.inr hDi, (fun _ h => nomatch h)⟩)⟩)⟩)) hDi z z z z), hI225⟩))))⟩
 cases hDi.symm.trans hd2
 cases hDi.symm.trans hd2
 cases hDi.symm.trans hd2
 rintro D r wd430 (⟨hd0, hd2, hd3, G426, hG427, hReg429, hI428⟩ | ⟨hd0, hd2, hd3, A23, c24, A27, c28, G426, hG427, hl25, hD26, hl29, hD30, hReg429, hI428⟩ | ⟨hd0, hd2, hd3, g219, G426, hG427, hD224, hReg429, hI428⟩ | ⟨hd0, hd2, hd3, A23, c24, A27, c28, g219, G426, hG427, hl25, hD26, hl29, hD30, hD224, hReg429, hI428⟩ | ⟨hd0, hd2, hd3, A23, c24, A27, c28, g219, A231, c232, G426, hG427, hl25, hD26, hl29, hD30, hD224, hl233, hD234, ho235, hReg429, hI428⟩) hDi hpre hpost
 cases (hpre 0 rfl).symm.trans hd0
 cases (hpre 2 rfl).symm.trans hd2
 cases (hpre 0 rfl).symm.trans hd0
 obtain ⟨r0, rfl⟩ := Has.ex (cC (hReg429.get 0 rfl (hpre 0 rfl)) (cC (hReg429.get 1 rfl (hpre 1 rfl)) (cC (hReg429.get 2 rfl (hpre 2 rfl)) cN)))
 refine q_cv (vs := [agg [slice A23 y22.Glyphs.length c24, slice A27 y22.Kerns.length c28].toArray, agg [int .i64 2, int .i64 2, slice none 0 0].toArray, string (⟨#[97, 98, 32, 99, 100, 32, 101, 102]⟩ : ByteArray), int .i64 100, slice (some ⟨g219, 0, none⟩) ([50] : List Int).length 1]) bo13 z z (inline_Lines_spec (a10 := (⟨2, 2, ([] : List ByteArray)⟩ : api_Breaks)) (a17 := ([50] : List Int)) hy415 hI428 hl25 hD26 hl29 hD30 (show ([] : List ByteArray).length ≤ 0 from Nat.le_refl 0) (Dat.nil _ _ _) (show ([50] : List Int).length ≤ 1 from Nat.le_of_ble_eq_true z) hD224 (hgl.mono hG427))<|?_
 rintro _ wd228 ⟨A231, c232, G226, hG227, hI229, hl233, hD234, ho235, rfl⟩
 refine ⟨_, rfl, ?_⟩
 exact nl ⟨z, (.inr (.inr (.inr (.inr ⟨hd0, hd2, z, A23, c24, A27, c28, g219, A231, c232, _, (gT hG427 hG227), hl25, (Dat.mono hG227 hD26), hl29, (Dat.mono hG227 hD30), (Dat.mono hG227 hD224), hl233, hD234, ho235, (Regs.step (Regs.re (vals' := [(0, 21, agg [slice A23 y22.Glyphs.length c24, slice A27 y22.Kerns.length c28].toArray), (1, 22, agg [int .i64 2, int .i64 2, slice none 0 0].toArray), (2, 23, slice (some ⟨g219, 0, none⟩) ([50] : List Int).length 1), (3, 24, tuple [slice A231 y230.length c232, int .i64 y237].toArray), (4, 20, tuple [slice A231 y230.length c232, int .i64 y237].toArray), (5, 25, slice A231 y230.length c232), (6, 26, int .i64 y237), (7, 2, slice A231 y230.length c232), (8, 3, int .i64 y237)]) hReg429 (List.forall_mem_cons.2 ⟨.inl (List.mem_of_getElem? (i := 0) z), (List.forall_mem_cons.2 ⟨.inl (List.mem_of_getElem? (i := 1) z), (List.forall_mem_cons.2 ⟨.inl (List.mem_of_getElem? (i := 2) z), (List.forall_mem_cons.2 ⟨.inr hDi, (List.forall_mem_cons.2 ⟨.inr (hpost 4 z), (List.forall_mem_cons.2 ⟨.inr (hpost 5 z), (List.forall_mem_cons.2 ⟨.inr (hpost 6 z), (List.forall_mem_cons.2 ⟨.inr (hpost 7 z), (List.forall_mem_cons.2 ⟨.inr (hpost 8 z), (fun _ h => nomatch h)⟩)⟩)⟩)⟩)⟩)⟩)⟩)⟩)⟩)) hDi z z z z), hI229⟩))))⟩
 cases hDi.symm.trans hd3
 rintro D r wd430 (⟨hd0, hd2, hd3, G426, hG427, hReg429, hI428⟩ | ⟨hd0, hd2, hd3, A23, c24, A27, c28, G426, hG427, hl25, hD26, hl29, hD30, hReg429, hI428⟩ | ⟨hd0, hd2, hd3, g219, G426, hG427, hD224, hReg429, hI428⟩ | ⟨hd0, hd2, hd3, A23, c24, A27, c28, g219, G426, hG427, hl25, hD26, hl29, hD30, hD224, hReg429, hI428⟩ | ⟨hd0, hd2, hd3, A23, c24, A27, c28, g219, A231, c232, G426, hG427, hl25, hD26, hl29, hD30, hD224, hl233, hD234, ho235, hReg429, hI428⟩) hDi hpre hpost
 cases (hpre 0 rfl).symm.trans hd0
 cases (hpre 2 rfl).symm.trans hd2
 cases (hpre 0 rfl).symm.trans hd0
 cases (hpre 3 rfl).symm.trans hd3
 obtain ⟨r0, rfl⟩ := Has.ex (cC (hReg429.get 3 rfl (hpre 3 rfl)) cN)
 exact mv z<|nl ⟨z, (.inr (.inr (.inr (.inr ⟨hd0, hd2, hd3, A23, c24, A27, c28, g219, A231, c232, _, hG427, hl25, hD26, hl29, hD30, hD224, hl233, hD234, ho235, (Regs.step hReg429 hDi z z z z), hI428⟩))))⟩
 rintro D r wd430 (⟨hd0, hd2, hd3, G426, hG427, hReg429, hI428⟩ | ⟨hd0, hd2, hd3, A23, c24, A27, c28, G426, hG427, hl25, hD26, hl29, hD30, hReg429, hI428⟩ | ⟨hd0, hd2, hd3, g219, G426, hG427, hD224, hReg429, hI428⟩ | ⟨hd0, hd2, hd3, A23, c24, A27, c28, g219, G426, hG427, hl25, hD26, hl29, hD30, hD224, hReg429, hI428⟩ | ⟨hd0, hd2, hd3, A23, c24, A27, c28, g219, A231, c232, G426, hG427, hl25, hD26, hl29, hD30, hD224, hl233, hD234, ho235, hReg429, hI428⟩) hDi hpre hpost
 cases (hpre 0 rfl).symm.trans hd0
 cases (hpre 2 rfl).symm.trans hd2
 cases (hpre 0 rfl).symm.trans hd0
 cases (hpre 3 rfl).symm.trans hd3
 obtain ⟨r0, rfl⟩ := Has.ex (cC (hReg429.get 4 rfl (hpre 4 rfl)) cN)
 exact exk z z<|nl ⟨z, (.inr (.inr (.inr (.inr ⟨hd0, hd2, hd3, A23, c24, A27, c28, g219, A231, c232, _, hG427, hl25, hD26, hl29, hD30, hD224, hl233, hD234, ho235, (Regs.step hReg429 hDi z z z z), hI428⟩))))⟩
 rintro D r wd430 (⟨hd0, hd2, hd3, G426, hG427, hReg429, hI428⟩ | ⟨hd0, hd2, hd3, A23, c24, A27, c28, G426, hG427, hl25, hD26, hl29, hD30, hReg429, hI428⟩ | ⟨hd0, hd2, hd3, g219, G426, hG427, hD224, hReg429, hI428⟩ | ⟨hd0, hd2, hd3, A23, c24, A27, c28, g219, G426, hG427, hl25, hD26, hl29, hD30, hD224, hReg429, hI428⟩ | ⟨hd0, hd2, hd3, A23, c24, A27, c28, g219, A231, c232, G426, hG427, hl25, hD26, hl29, hD30, hD224, hl233, hD234, ho235, hReg429, hI428⟩) hDi hpre hpost
 cases (hpre 0 rfl).symm.trans hd0
 cases (hpre 2 rfl).symm.trans hd2
 cases (hpre 0 rfl).symm.trans hd0
 cases (hpre 3 rfl).symm.trans hd3
 obtain ⟨r0, rfl⟩ := Has.ex (cC (hReg429.get 4 rfl (hpre 4 rfl)) cN)
 exact exk z z<|nl ⟨z, (.inr (.inr (.inr (.inr ⟨hd0, hd2, hd3, A23, c24, A27, c28, g219, A231, c232, _, hG427, hl25, hD26, hl29, hD30, hD224, hl233, hD234, ho235, (Regs.step hReg429 hDi z z z z), hI428⟩))))⟩
 rintro D r wd430 (⟨hd0, hd2, hd3, G426, hG427, hReg429, hI428⟩ | ⟨hd0, hd2, hd3, A23, c24, A27, c28, G426, hG427, hl25, hD26, hl29, hD30, hReg429, hI428⟩ | ⟨hd0, hd2, hd3, g219, G426, hG427, hD224, hReg429, hI428⟩ | ⟨hd0, hd2, hd3, A23, c24, A27, c28, g219, G426, hG427, hl25, hD26, hl29, hD30, hD224, hReg429, hI428⟩ | ⟨hd0, hd2, hd3, A23, c24, A27, c28, g219, A231, c232, G426, hG427, hl25, hD26, hl29, hD30, hD224, hl233, hD234, ho235, hReg429, hI428⟩) hDi hpre hpost
 cases (hpre 0 rfl).symm.trans hd0
 cases (hpre 2 rfl).symm.trans hd2
 cases (hpre 0 rfl).symm.trans hd0
 cases (hpre 3 rfl).symm.trans hd3
 obtain ⟨r0, rfl⟩ := Has.ex (cC (hReg429.get 5 rfl (hpre 5 rfl)) cN)
 exact asn z<|nl ⟨z, (.inr (.inr (.inr (.inr ⟨hd0, hd2, hd3, A23, c24, A27, c28, g219, A231, c232, _, hG427, hl25, hD26, hl29, hD30, hD224, hl233, hD234, ho235, (Regs.step hReg429 hDi z z z z), hI428⟩))))⟩
 rintro D r wd430 (⟨hd0, hd2, hd3, G426, hG427, hReg429, hI428⟩ | ⟨hd0, hd2, hd3, A23, c24, A27, c28, G426, hG427, hl25, hD26, hl29, hD30, hReg429, hI428⟩ | ⟨hd0, hd2, hd3, g219, G426, hG427, hD224, hReg429, hI428⟩ | ⟨hd0, hd2, hd3, A23, c24, A27, c28, g219, G426, hG427, hl25, hD26, hl29, hD30, hD224, hReg429, hI428⟩ | ⟨hd0, hd2, hd3, A23, c24, A27, c28, g219, A231, c232, G426, hG427, hl25, hD26, hl29, hD30, hD224, hl233, hD234, ho235, hReg429, hI428⟩) hDi hpre hpost
 cases (hpre 0 rfl).symm.trans hd0
 cases (hpre 2 rfl).symm.trans hd2
 cases (hpre 0 rfl).symm.trans hd0
 cases (hpre 3 rfl).symm.trans hd3
 obtain ⟨r0, rfl⟩ := Has.ex (cC (hReg429.get 6 rfl (hpre 6 rfl)) cN)
 exact asn z<|nl ⟨z, (.inr (.inr (.inr (.inr ⟨hd0, hd2, hd3, A23, c24, A27, c28, g219, A231, c232, _, hG427, hl25, hD26, hl29, hD30, hD224, hl233, hD234, ho235, (Regs.step hReg429 hDi z z z z), hI428⟩))))⟩
 intro D r wd430 hall hR
 rcases hR with ⟨hd0, hd2, hd3, G426, hG427, hReg429, hI428⟩ | ⟨hd0, hd2, hd3, A23, c24, A27, c28, G426, hG427, hl25, hD26, hl29, hD30, hReg429, hI428⟩ | ⟨hd0, hd2, hd3, g219, G426, hG427, hD224, hReg429, hI428⟩ | ⟨hd0, hd2, hd3, A23, c24, A27, c28, g219, G426, hG427, hl25, hD26, hl29, hD30, hD224, hReg429, hI428⟩ | ⟨hd0, hd2, hd3, A23, c24, A27, c28, g219, A231, c232, G426, hG427, hl25, hD26, hl29, hD30, hD224, hl233, hD234, ho235, hReg429, hI428⟩
 cases (hall 0 (Nat.le_of_ble_eq_true rfl)).symm.trans hd0
 cases (hall 2 (Nat.le_of_ble_eq_true rfl)).symm.trans hd2
 cases (hall 0 (Nat.le_of_ble_eq_true rfl)).symm.trans hd0
 cases (hall 3 (Nat.le_of_ble_eq_true rfl)).symm.trans hd3
 obtain ⟨r0, rfl⟩ := Has.ex (cC (hReg429.ins.get 0 rfl) (cC (hReg429.get 7 rfl (hall 7 (Nat.le_of_ble_eq_true rfl))) (cC (hReg429.get 8 rfl (hall 8 (Nat.le_of_ble_eq_true rfl))) cN)))
 refine hK12 _ _ _<|sQ fun K431 hK432=>bK H fun y442 hy627 H=>bK2 H fun y650 y657 hy835 H=>?_
 refine wpc_drawL [0, 0, 0, 7, 15, 31, 31, 63, 255] (fun D r w => (D 0 = false ∧ D 2 = false ∧ D 3 = false ∧ ∃ (G' : Gh), G426 ≤ G' ∧ Regs [(1, pointer (some ⟨g6, 0, none⟩)), (2, slice A231 y230.length c232), (3, int .i64 y237)] [] [(1, 29, agg [int .i64 2, int .i64 2, slice none 0 0].toArray)] D r ∧ Hp G' (tk (slice A231 y230.length c232) 4 31 :: tk (slice (some ⟨g219, 0, none⟩) ([50] : List Int).length 1) 1 3 :: bx g6 [int .i64 2, int .i64 2, slice none 0 0] 28 :: L) w) ∨ (D 0 = true ∧ D 2 = false ∧ D 3 = false ∧ ∃ (A443 : Option Addr) (c444 : Nat) (A447 : Option Addr) (c448 : Nat) (G' : Gh), G426 ≤ G' ∧ y442.Glyphs.length ≤ c444 ∧ Dat k_api_Glyph G' A443 y442.Glyphs ∧ y442.Kerns.length ≤ c448 ∧ Dat k_api_Kern G' A447 y442.Kerns ∧ Regs [(1, pointer (some ⟨g6, 0, none⟩)), (2, slice A231 y230.length c232), (3, int .i64 y237)] [] [(0, 28, agg [slice A443 y442.Glyphs.length c444, slice A447 y442.Kerns.length c448].toArray), (1, 29, agg [int .i64 2, int .i64 2, slice none 0 0].toArray)] D r ∧ Hp G' (tk (slice A231 y230.length c232) 4 31 :: tk (slice (some ⟨g219, 0, none⟩) ([50] : List Int).length 1) 1 3 :: bx g6 [int .i64 2, int .i64 2, slice none 0 0] 28 :: L) w) ∨ (D 0 = false ∧ D 2 = true ∧ D 3 = false ∧ ∃ (g639 : Nat) (G' : Gh), G426 ≤ G' ∧ Dat (Kd.int .i64) G' (some ⟨g639, 0, none⟩) ([40] : List Int) ∧ Regs [(1, pointer (some ⟨g6, 0, none⟩)), (2, slice A231 y230.length c232), (3, int .i64 y237)] [] [(1, 29, agg [int .i64 2, int .i64 2, slice none 0 0].toArray), (2, 30, slice (some ⟨g639, 0, none⟩) ([40] : List Int).length 1)] D r ∧ Hp G' (tk (slice (some ⟨g639, 0, none⟩) ([40] : List Int).length 1) 1 3 :: tk (slice A231 y230.length c232) 4 31 :: tk (slice (some ⟨g219, 0, none⟩) ([50] : List Int).length 1) 1 3 :: bx g6 [int .i64 2, int .i64 2, slice none 0 0] 28 :: L) w) ∨ (D 0 = true ∧ D 2 = true ∧ D 3 = false ∧ ∃ (A443 : Option Addr) (c444 : Nat) (A447 : Option Addr) (c448 : Nat) (g639 : Nat) (G' : Gh), G426 ≤ G' ∧ y442.Glyphs.length ≤ c444 ∧ Dat k_api_Glyph G' A443 y442.Glyphs ∧ y442.Kerns.length ≤ c448 ∧ Dat k_api_Kern G' A447 y442.Kerns ∧ Dat (Kd.int .i64) G' (some ⟨g639, 0, none⟩) ([40] : List Int) ∧ Regs [(1, pointer (some ⟨g6, 0, none⟩)), (2, slice A231 y230.length c232), (3, int .i64 y237)] [] [(0, 28, agg [slice A443 y442.Glyphs.length c444, slice A447 y442.Kerns.length c448].toArray), (1, 29, agg [int .i64 2, int .i64 2, slice none 0 0].toArray), (2, 30, slice (some ⟨g639, 0, none⟩) ([40] : List Int).length 1)] D r ∧ Hp G' (tk (slice (some ⟨g639, 0, none⟩) ([40] : List Int).length 1) 1 3 :: tk (slice A231 y230.length c232) 4 31 :: tk (slice (some ⟨g219, 0, none⟩) ([50] : List Int).length 1) 1 3 :: bx g6 [int .i64 2, int .i64 2, slice none 0 0] 28 :: L) w) ∨ (D 0 = true ∧ D 2 = true ∧ D 3 = true ∧ ∃ (A443 : Option Addr) (c444 : Nat) (A447 : Option Addr) (c448 : Nat) (g639 : Nat) (A651 : Option Addr) (c652 : Nat) (G' : Gh), G426 ≤ G' ∧ y442.Glyphs.length ≤ c444 ∧ Dat k_api_Glyph G' A443 y442.Glyphs ∧ y442.Kerns.length ≤ c448 ∧ Dat k_api_Kern G' A447 y442.Kerns ∧ Dat (Kd.int .i64) G' (some ⟨g639, 0, none⟩) ([40] : List Int) ∧ y650.length ≤ c652 ∧ Dat k_api_Line G' A651 y650 ∧ Own A651 c652 ∧ Regs [(1, pointer (some ⟨g6, 0, none⟩)), (2, slice A231 y230.length c232), (3, int .i64 y237)] [] [(0, 28, agg [slice A443 y442.Glyphs.length c444, slice A447 y442.Kerns.length c448].toArray), (1, 29, agg [int .i64 2, int .i64 2, slice none 0 0].toArray), (2, 30, slice (some ⟨g639, 0, none⟩) ([40] : List Int).length 1), (3, 31, tuple [slice A651 y650.length c652, int .i64 y657].toArray), (4, 27, tuple [slice A651 y650.length c652, int .i64 y657].toArray), (5, 32, slice A651 y650.length c652), (6, 33, int .i64 y657), (7, 4, slice A651 y650.length c652), (8, 5, int .i64 y657)] D r ∧ Hp G' (tk (slice A651 y650.length c652) 4 31 :: tk (slice (some ⟨g639, 0, none⟩) ([40] : List Int).length 1) 1 3 :: tk (slice A231 y230.length c232) 4 31 :: tk (slice (some ⟨g219, 0, none⟩) ([50] : List Int).length 1) 1 3 :: bx g6 [int .i64 2, int .i64 2, slice none 0 0] 28 :: L) w)) mixo z z ?_ ?_ ?_
 exact (.inl ⟨z, z, z, _, Gh.le_refl _, Regs.start ⟨z, z, z, tv⟩ trivial, hI428.drew⟩)
 refine ⟨?_, ?_, ?_, ?_, ?_, ?_, ?_, ?_, ?_, tv⟩
 rintro D r wd850 (⟨hd0, hd2, hd3, G846, hG847, hReg849, hI848⟩ | ⟨hd0, hd2, hd3, A443, c444, A447, c448, G846, hG847, hl445, hD446, hl449, hD450, hReg849, hI848⟩ | ⟨hd0, hd2, hd3, g639, G846, hG847, hD644, hReg849, hI848⟩ | ⟨hd0, hd2, hd3, A443, c444, A447, c448, g639, G846, hG847, hl445, hD446, hl449, hD450, hD644, hReg849, hI848⟩ | ⟨hd0, hd2, hd3, A443, c444, A447, c448, g639, A651, c652, G846, hG847, hl445, hD446, hl449, hD450, hD644, hl653, hD654, ho655, hReg849, hI848⟩) hDi hpre hpost
 obtain ⟨r0, rfl⟩ := Has.ex (r := r) cN
 refine q_cv (vs := []) bo23 z z (formelaw17_plain_spec hy627 hI848)<|?_
 rintro _ wd440 ⟨A443, c444, A447, c448, G438, hG439, hI441, hl445, hD446, hl449, hD450, rfl⟩
 refine ⟨_, rfl, ?_⟩
 exact nl ⟨z, (.inr (.inl ⟨z, hd2, hd3, A443, c444, A447, c448, _, (gT hG847 hG439), hl445, hD446, hl449, hD450, (Regs.step (Regs.re (vals' := [(0, 28, agg [slice A443 y442.Glyphs.length c444, slice A447 y442.Kerns.length c448].toArray), (1, 29, agg [int .i64 2, int .i64 2, slice none 0 0].toArray)]) hReg849 (List.forall_mem_cons.2 ⟨.inr hDi, (List.forall_mem_cons.2 ⟨.inl (List.mem_of_getElem? (i := 0) z), (fun _ h => nomatch h)⟩)⟩)) hDi z z z z), hI441⟩))⟩
 cases hDi.symm.trans hd0
 obtain ⟨r0, rfl⟩ := Has.ex (r := r) cN
 refine q_cv (vs := []) bo23 z z (formelaw17_plain_spec hy627 hI848)<|?_
 rintro _ wd440 ⟨A443, c444, A447, c448, G438, hG439, hI441, hl445, hD446, hl449, hD450, rfl⟩
 refine ⟨_, rfl, ?_⟩
 exact nl ⟨z, (.inr (.inr (.inr (.inl ⟨z, hd2, hd3, A443, c444, A447, c448, g639, _, (gT hG847 hG439), hl445, hD446, hl449, hD450, (Dat.mono hG439 hD644), (Regs.step (Regs.re (vals' := [(0, 28, agg [slice A443 y442.Glyphs.length c444, slice A447 y442.Kerns.length c448].toArray), (1, 29, agg [int .i64 2, int .i64 2, slice none 0 0].toArray), (2, 30, slice (some ⟨g639, 0, none⟩) ([40] : List Int).length 1)]) hReg849 (List.forall_mem_cons.2 ⟨.inr hDi, (List.forall_mem_cons.2 ⟨.inl (List.mem_of_getElem? (i := 0) z), (List.forall_mem_cons.2 ⟨.inl (List.mem_of_getElem? (i := 1) z), (fun _ h => nomatch h)⟩)⟩)⟩)) hDi z z z z), hI441⟩))))⟩
 cases hDi.symm.trans hd0
 cases hDi.symm.trans hd0
 rintro D r wd850 (⟨hd0, hd2, hd3, G846, hG847, hReg849, hI848⟩ | ⟨hd0, hd2, hd3, A443, c444, A447, c448, G846, hG847, hl445, hD446, hl449, hD450, hReg849, hI848⟩ | ⟨hd0, hd2, hd3, g639, G846, hG847, hD644, hReg849, hI848⟩ | ⟨hd0, hd2, hd3, A443, c444, A447, c448, g639, G846, hG847, hl445, hD446, hl449, hD450, hD644, hReg849, hI848⟩ | ⟨hd0, hd2, hd3, A443, c444, A447, c448, g639, A651, c652, G846, hG847, hl445, hD446, hl449, hD450, hD644, hl653, hD654, ho655, hReg849, hI848⟩) hDi hpre hpost
 obtain ⟨r0, rfl⟩ := Has.ex (cC (hReg849.ins.get 0 rfl) cN)
 exact lda hI848 2 ag28 z z z z<|nl ⟨z, (.inl ⟨hd0, hd2, hd3, _, hG847, (Regs.step hReg849 hDi z z z z), hI848⟩)⟩
 obtain ⟨r0, rfl⟩ := Has.ex (cC (hReg849.ins.get 0 rfl) cN)
 exact lda hI848 2 ag28 z z z z<|nl ⟨z, (.inr (.inl ⟨hd0, hd2, hd3, A443, c444, A447, c448, _, hG847, hl445, hD446, hl449, hD450, (Regs.step hReg849 hDi z z z z), hI848⟩))⟩
 obtain ⟨r0, rfl⟩ := Has.ex (cC (hReg849.ins.get 0 rfl) cN)
 exact lda hI848 3 ag28 z z z z<|nl ⟨z, (.inr (.inr (.inl ⟨hd0, hd2, hd3, g639, _, hG847, hD644, (Regs.step hReg849 hDi z z z z), hI848⟩)))⟩
 obtain ⟨r0, rfl⟩ := Has.ex (cC (hReg849.ins.get 0 rfl) cN)
 exact lda hI848 3 ag28 z z z z<|nl ⟨z, (.inr (.inr (.inr (.inl ⟨hd0, hd2, hd3, A443, c444, A447, c448, g639, _, hG847, hl445, hD446, hl449, hD450, hD644, (Regs.step hReg849 hDi z z z z), hI848⟩))))⟩
 cases (hpost 3 rfl).symm.trans hd3
 rintro D r wd850 (⟨hd0, hd2, hd3, G846, hG847, hReg849, hI848⟩ | ⟨hd0, hd2, hd3, A443, c444, A447, c448, G846, hG847, hl445, hD446, hl449, hD450, hReg849, hI848⟩ | ⟨hd0, hd2, hd3, g639, G846, hG847, hD644, hReg849, hI848⟩ | ⟨hd0, hd2, hd3, A443, c444, A447, c448, g639, G846, hG847, hl445, hD446, hl449, hD450, hD644, hReg849, hI848⟩ | ⟨hd0, hd2, hd3, A443, c444, A447, c448, g639, A651, c652, G846, hG847, hl445, hD446, hl449, hD450, hD644, hl653, hD654, ho655, hReg849, hI848⟩) hDi hpre hpost
 obtain ⟨r0, rfl⟩ := Has.ex (r := r) cN
 refine q_bs hI848 (vs := [(0, int .i64 40)]) (cs := [int .i64 40]) el29 ze3 rfl (by decide) rfl rfl (fun g639 wd640 hI641 => ?_)
 obtain ⟨G642, hG643, hI645, hD644⟩ := Hp.publish (xs := ([40] : List Int)) (n := 1) (Kd.int .i64) hI641 ⟨[int .i64 40], _, rfl, rfl, rfl⟩ rfl
 exact nl ⟨z, (.inr (.inr (.inl ⟨hd0, z, hd3, g639, _, (gT hG847 hG643), hD644, (Regs.step (Regs.re (vals' := [(1, 29, agg [int .i64 2, int .i64 2, slice none 0 0].toArray), (2, 30, slice (some ⟨g639, 0, none⟩) ([40] : List Int).length 1)]) hReg849 (List.forall_mem_cons.2 ⟨.inl (List.mem_of_getElem? (i := 0) z), (List.forall_mem_cons.2 ⟨.inr hDi, (fun _ h => nomatch h)⟩)⟩)) hDi z z z z), hI645⟩)))⟩
 obtain ⟨r0, rfl⟩ := Has.ex (r := r) cN
 refine q_bs hI848 (vs := [(0, int .i64 40)]) (cs := [int .i64 40]) el29 ze3 rfl (by decide) rfl rfl (fun g639 wd640 hI641 => ?_)
 obtain ⟨G642, hG643, hI645, hD644⟩ := Hp.publish (xs := ([40] : List Int)) (n := 1) (Kd.int .i64) hI641 ⟨[int .i64 40], _, rfl, rfl, rfl⟩ rfl
 exact nl ⟨z, (.inr (.inr (.inr (.inl ⟨hd0, z, hd3, A443, c444, A447, c448, g639, _, (gT hG847 hG643), hl445, (Dat.mono hG643 hD446), hl449, (Dat.mono hG643 hD450), hD644, (Regs.step (Regs.re (vals' := [(0, 28, agg [slice A443 y442.Glyphs.length c444, slice A447 y442.Kerns.length c448].toArray), (1, 29, agg [int .i64 2, int .i64 2, slice none 0 0].toArray), (2, 30, slice (some ⟨g639, 0, none⟩) ([40] : List Int).length 1)]) hReg849 (List.forall_mem_cons.2 ⟨.inl (List.mem_of_getElem? (i := 0) z), (List.forall_mem_cons.2 ⟨.inl (List.mem_of_getElem? (i := 1) z), (List.forall_mem_cons.2 ⟨.inr hDi, (fun _ h => nomatch h)⟩)⟩)⟩)) hDi z z z z), hI645⟩))))⟩
 cases hDi.symm.trans hd2
 cases hDi.symm.trans hd2
 cases hDi.symm.trans hd2
 rintro D r wd850 (⟨hd0, hd2, hd3, G846, hG847, hReg849, hI848⟩ | ⟨hd0, hd2, hd3, A443, c444, A447, c448, G846, hG847, hl445, hD446, hl449, hD450, hReg849, hI848⟩ | ⟨hd0, hd2, hd3, g639, G846, hG847, hD644, hReg849, hI848⟩ | ⟨hd0, hd2, hd3, A443, c444, A447, c448, g639, G846, hG847, hl445, hD446, hl449, hD450, hD644, hReg849, hI848⟩ | ⟨hd0, hd2, hd3, A443, c444, A447, c448, g639, A651, c652, G846, hG847, hl445, hD446, hl449, hD450, hD644, hl653, hD654, ho655, hReg849, hI848⟩) hDi hpre hpost
 cases (hpre 0 rfl).symm.trans hd0
 cases (hpre 2 rfl).symm.trans hd2
 cases (hpre 0 rfl).symm.trans hd0
 obtain ⟨r0, rfl⟩ := Has.ex (cC (hReg849.get 0 rfl (hpre 0 rfl)) (cC (hReg849.get 1 rfl (hpre 1 rfl)) (cC (hReg849.get 2 rfl (hpre 2 rfl)) cN)))
 refine q_cv (vs := [agg [slice A443 y442.Glyphs.length c444, slice A447 y442.Kerns.length c448].toArray, agg [int .i64 2, int .i64 2, slice none 0 0].toArray, string (⟨#[97, 98, 32, 99, 100, 32, 101, 102]⟩ : ByteArray), int .i64 100, slice (some ⟨g639, 0, none⟩) ([40] : List Int).length 1]) bo13 z z (inline_Lines_spec (a10 := (⟨2, 2, ([] : List ByteArray)⟩ : api_Breaks)) (a17 := ([40] : List Int)) hy835 hI848 hl445 hD446 hl449 hD450 (show ([] : List ByteArray).length ≤ 0 from Nat.le_refl 0) (Dat.nil _ _ _) (show ([40] : List Int).length ≤ 1 from Nat.le_of_ble_eq_true z) hD644 (hgl.mono (gT hG427 hG847)))<|?_
 rintro _ wd648 ⟨A651, c652, G646, hG647, hI649, hl653, hD654, ho655, rfl⟩
 refine ⟨_, rfl, ?_⟩
 exact nl ⟨z, (.inr (.inr (.inr (.inr ⟨hd0, hd2, z, A443, c444, A447, c448, g639, A651, c652, _, (gT hG847 hG647), hl445, (Dat.mono hG647 hD446), hl449, (Dat.mono hG647 hD450), (Dat.mono hG647 hD644), hl653, hD654, ho655, (Regs.step (Regs.re (vals' := [(0, 28, agg [slice A443 y442.Glyphs.length c444, slice A447 y442.Kerns.length c448].toArray), (1, 29, agg [int .i64 2, int .i64 2, slice none 0 0].toArray), (2, 30, slice (some ⟨g639, 0, none⟩) ([40] : List Int).length 1), (3, 31, tuple [slice A651 y650.length c652, int .i64 y657].toArray), (4, 27, tuple [slice A651 y650.length c652, int .i64 y657].toArray), (5, 32, slice A651 y650.length c652), (6, 33, int .i64 y657), (7, 4, slice A651 y650.length c652), (8, 5, int .i64 y657)]) hReg849 (List.forall_mem_cons.2 ⟨.inl (List.mem_of_getElem? (i := 0) z), (List.forall_mem_cons.2 ⟨.inl (List.mem_of_getElem? (i := 1) z), (List.forall_mem_cons.2 ⟨.inl (List.mem_of_getElem? (i := 2) z), (List.forall_mem_cons.2 ⟨.inr hDi, (List.forall_mem_cons.2 ⟨.inr (hpost 4 z), (List.forall_mem_cons.2 ⟨.inr (hpost 5 z), (List.forall_mem_cons.2 ⟨.inr (hpost 6 z), (List.forall_mem_cons.2 ⟨.inr (hpost 7 z), (List.forall_mem_cons.2 ⟨.inr (hpost 8 z), (fun _ h => nomatch h)⟩)⟩)⟩)⟩)⟩)⟩)⟩)⟩)⟩)) hDi z z z z), hI649⟩))))⟩
 cases hDi.symm.trans hd3
 rintro D r wd850 (⟨hd0, hd2, hd3, G846, hG847, hReg849, hI848⟩ | ⟨hd0, hd2, hd3, A443, c444, A447, c448, G846, hG847, hl445, hD446, hl449, hD450, hReg849, hI848⟩ | ⟨hd0, hd2, hd3, g639, G846, hG847, hD644, hReg849, hI848⟩ | ⟨hd0, hd2, hd3, A443, c444, A447, c448, g639, G846, hG847, hl445, hD446, hl449, hD450, hD644, hReg849, hI848⟩ | ⟨hd0, hd2, hd3, A443, c444, A447, c448, g639, A651, c652, G846, hG847, hl445, hD446, hl449, hD450, hD644, hl653, hD654, ho655, hReg849, hI848⟩) hDi hpre hpost
 cases (hpre 0 rfl).symm.trans hd0
 cases (hpre 2 rfl).symm.trans hd2
 cases (hpre 0 rfl).symm.trans hd0
 cases (hpre 3 rfl).symm.trans hd3
 obtain ⟨r0, rfl⟩ := Has.ex (cC (hReg849.get 3 rfl (hpre 3 rfl)) cN)
 exact mv z<|nl ⟨z, (.inr (.inr (.inr (.inr ⟨hd0, hd2, hd3, A443, c444, A447, c448, g639, A651, c652, _, hG847, hl445, hD446, hl449, hD450, hD644, hl653, hD654, ho655, (Regs.step hReg849 hDi z z z z), hI848⟩))))⟩
 rintro D r wd850 (⟨hd0, hd2, hd3, G846, hG847, hReg849, hI848⟩ | ⟨hd0, hd2, hd3, A443, c444, A447, c448, G846, hG847, hl445, hD446, hl449, hD450, hReg849, hI848⟩ | ⟨hd0, hd2, hd3, g639, G846, hG847, hD644, hReg849, hI848⟩ | ⟨hd0, hd2, hd3, A443, c444, A447, c448, g639, G846, hG847, hl445, hD446, hl449, hD450, hD644, hReg849, hI848⟩ | ⟨hd0, hd2, hd3, A443, c444, A447, c448, g639, A651, c652, G846, hG847, hl445, hD446, hl449, hD450, hD644, hl653, hD654, ho655, hReg849, hI848⟩) hDi hpre hpost
 cases (hpre 0 rfl).symm.trans hd0
 cases (hpre 2 rfl).symm.trans hd2
 cases (hpre 0 rfl).symm.trans hd0
 cases (hpre 3 rfl).symm.trans hd3
 obtain ⟨r0, rfl⟩ := Has.ex (cC (hReg849.get 4 rfl (hpre 4 rfl)) cN)
 exact exk z z<|nl ⟨z, (.inr (.inr (.inr (.inr ⟨hd0, hd2, hd3, A443, c444, A447, c448, g639, A651, c652, _, hG847, hl445, hD446, hl449, hD450, hD644, hl653, hD654, ho655, (Regs.step hReg849 hDi z z z z), hI848⟩))))⟩
 rintro D r wd850 (⟨hd0, hd2, hd3, G846, hG847, hReg849, hI848⟩ | ⟨hd0, hd2, hd3, A443, c444, A447, c448, G846, hG847, hl445, hD446, hl449, hD450, hReg849, hI848⟩ | ⟨hd0, hd2, hd3, g639, G846, hG847, hD644, hReg849, hI848⟩ | ⟨hd0, hd2, hd3, A443, c444, A447, c448, g639, G846, hG847, hl445, hD446, hl449, hD450, hD644, hReg849, hI848⟩ | ⟨hd0, hd2, hd3, A443, c444, A447, c448, g639, A651, c652, G846, hG847, hl445, hD446, hl449, hD450, hD644, hl653, hD654, ho655, hReg849, hI848⟩) hDi hpre hpost
 cases (hpre 0 rfl).symm.trans hd0
 cases (hpre 2 rfl).symm.trans hd2
 cases (hpre 0 rfl).symm.trans hd0
 cases (hpre 3 rfl).symm.trans hd3
 obtain ⟨r0, rfl⟩ := Has.ex (cC (hReg849.get 4 rfl (hpre 4 rfl)) cN)
 exact exk z z<|nl ⟨z, (.inr (.inr (.inr (.inr ⟨hd0, hd2, hd3, A443, c444, A447, c448, g639, A651, c652, _, hG847, hl445, hD446, hl449, hD450, hD644, hl653, hD654, ho655, (Regs.step hReg849 hDi z z z z), hI848⟩))))⟩
 rintro D r wd850 (⟨hd0, hd2, hd3, G846, hG847, hReg849, hI848⟩ | ⟨hd0, hd2, hd3, A443, c444, A447, c448, G846, hG847, hl445, hD446, hl449, hD450, hReg849, hI848⟩ | ⟨hd0, hd2, hd3, g639, G846, hG847, hD644, hReg849, hI848⟩ | ⟨hd0, hd2, hd3, A443, c444, A447, c448, g639, G846, hG847, hl445, hD446, hl449, hD450, hD644, hReg849, hI848⟩ | ⟨hd0, hd2, hd3, A443, c444, A447, c448, g639, A651, c652, G846, hG847, hl445, hD446, hl449, hD450, hD644, hl653, hD654, ho655, hReg849, hI848⟩) hDi hpre hpost
 cases (hpre 0 rfl).symm.trans hd0
 cases (hpre 2 rfl).symm.trans hd2
 cases (hpre 0 rfl).symm.trans hd0
 cases (hpre 3 rfl).symm.trans hd3
 obtain ⟨r0, rfl⟩ := Has.ex (cC (hReg849.get 5 rfl (hpre 5 rfl)) cN)
 exact asn z<|nl ⟨z, (.inr (.inr (.inr (.inr ⟨hd0, hd2, hd3, A443, c444, A447, c448, g639, A651, c652, _, hG847, hl445, hD446, hl449, hD450, hD644, hl653, hD654, ho655, (Regs.step hReg849 hDi z z z z), hI848⟩))))⟩
 rintro D r wd850 (⟨hd0, hd2, hd3, G846, hG847, hReg849, hI848⟩ | ⟨hd0, hd2, hd3, A443, c444, A447, c448, G846, hG847, hl445, hD446, hl449, hD450, hReg849, hI848⟩ | ⟨hd0, hd2, hd3, g639, G846, hG847, hD644, hReg849, hI848⟩ | ⟨hd0, hd2, hd3, A443, c444, A447, c448, g639, G846, hG847, hl445, hD446, hl449, hD450, hD644, hReg849, hI848⟩ | ⟨hd0, hd2, hd3, A443, c444, A447, c448, g639, A651, c652, G846, hG847, hl445, hD446, hl449, hD450, hD644, hl653, hD654, ho655, hReg849, hI848⟩) hDi hpre hpost
 cases (hpre 0 rfl).symm.trans hd0
 cases (hpre 2 rfl).symm.trans hd2
 cases (hpre 0 rfl).symm.trans hd0
 cases (hpre 3 rfl).symm.trans hd3
 obtain ⟨r0, rfl⟩ := Has.ex (cC (hReg849.get 6 rfl (hpre 6 rfl)) cN)
 exact asn z<|nl ⟨z, (.inr (.inr (.inr (.inr ⟨hd0, hd2, hd3, A443, c444, A447, c448, g639, A651, c652, _, hG847, hl445, hD446, hl449, hD450, hD644, hl653, hD654, ho655, (Regs.step hReg849 hDi z z z z), hI848⟩))))⟩
 intro D r wd850 hall hR
 rcases hR with ⟨hd0, hd2, hd3, G846, hG847, hReg849, hI848⟩ | ⟨hd0, hd2, hd3, A443, c444, A447, c448, G846, hG847, hl445, hD446, hl449, hD450, hReg849, hI848⟩ | ⟨hd0, hd2, hd3, g639, G846, hG847, hD644, hReg849, hI848⟩ | ⟨hd0, hd2, hd3, A443, c444, A447, c448, g639, G846, hG847, hl445, hD446, hl449, hD450, hD644, hReg849, hI848⟩ | ⟨hd0, hd2, hd3, A443, c444, A447, c448, g639, A651, c652, G846, hG847, hl445, hD446, hl449, hD450, hD644, hl653, hD654, ho655, hReg849, hI848⟩
 cases (hall 0 (Nat.le_of_ble_eq_true rfl)).symm.trans hd0
 cases (hall 2 (Nat.le_of_ble_eq_true rfl)).symm.trans hd2
 cases (hall 0 (Nat.le_of_ble_eq_true rfl)).symm.trans hd0
 cases (hall 3 (Nat.le_of_ble_eq_true rfl)).symm.trans hd3
 obtain ⟨r0, rfl⟩ := Has.ex (cC (hReg849.ins.get 0 rfl) (cC (hReg849.ins.get 1 rfl) (cC (hReg849.ins.get 2 rfl) (cC (hReg849.get 7 rfl (hall 7 (Nat.le_of_ble_eq_true rfl))) (cC (hReg849.get 8 rfl (hall 8 (Nat.le_of_ble_eq_true rfl))) cN)))))
 refine hK432 _ _ _<|sQ fun K851 hK852=>bK H fun y862 hy1047 H=>bK2 H fun y1062 y1063 hy1247 H=>?_
 refine wpc_drawL [0, 0, 3, 7, 15, 15, 0, 95, 255] (fun D r w => (D 0 = false ∧ D 6 = false ∧ D 7 = false ∧ ∃ (G' : Gh), G846 ≤ G' ∧ Regs [(1, pointer (some ⟨g6, 0, none⟩)), (2, slice A231 y230.length c232), (3, int .i64 y237), (4, slice A651 y650.length c652), (5, int .i64 y657)] [] [(1, 36, agg [int .i64 2, int .i64 2, slice none 0 0].toArray)] D r ∧ Hp G' (tk (slice A651 y650.length c652) 4 31 :: tk (slice (some ⟨g639, 0, none⟩) ([40] : List Int).length 1) 1 3 :: tk (slice A231 y230.length c232) 4 31 :: tk (slice (some ⟨g219, 0, none⟩) ([50] : List Int).length 1) 1 3 :: bx g6 [int .i64 2, int .i64 2, slice none 0 0] 28 :: L) w) ∨ (D 0 = true ∧ D 6 = false ∧ D 7 = false ∧ ∃ (A863 : Option Addr) (c864 : Nat) (A867 : Option Addr) (c868 : Nat) (G' : Gh), G846 ≤ G' ∧ y862.Glyphs.length ≤ c864 ∧ Dat k_api_Glyph G' A863 y862.Glyphs ∧ y862.Kerns.length ≤ c868 ∧ Dat k_api_Kern G' A867 y862.Kerns ∧ Regs [(1, pointer (some ⟨g6, 0, none⟩)), (2, slice A231 y230.length c232), (3, int .i64 y237), (4, slice A651 y650.length c652), (5, int .i64 y657)] [] [(0, 35, agg [slice A863 y862.Glyphs.length c864, slice A867 y862.Kerns.length c868].toArray), (1, 36, agg [int .i64 2, int .i64 2, slice none 0 0].toArray), (2, 37, tuple [agg [int .i64 y1062.From, int .i64 y1062.Until, int .i64 y1062.Width, bool y1062.Hyphen].toArray, int .i64 y1063].toArray), (3, 34, tuple [agg [int .i64 y1062.From, int .i64 y1062.Until, int .i64 y1062.Width, bool y1062.Hyphen].toArray, int .i64 y1063].toArray), (4, 38, agg [int .i64 y1062.From, int .i64 y1062.Until, int .i64 y1062.Width, bool y1062.Hyphen].toArray), (5, 39, int .i64 y1063)] D r ∧ Hp G' (tk (slice A651 y650.length c652) 4 31 :: tk (slice (some ⟨g639, 0, none⟩) ([40] : List Int).length 1) 1 3 :: tk (slice A231 y230.length c232) 4 31 :: tk (slice (some ⟨g219, 0, none⟩) ([50] : List Int).length 1) 1 3 :: bx g6 [int .i64 2, int .i64 2, slice none 0 0] 28 :: L) w) ∨ (D 0 = false ∧ D 6 = true ∧ D 7 = false ∧ ∃ (g1259 : Nat) (G' : Gh), G846 ≤ G' ∧ Regs [(1, pointer (some ⟨g6, 0, none⟩)), (2, slice A231 y230.length c232), (3, int .i64 y237), (4, slice A651 y650.length c652), (5, int .i64 y657)] [] [(1, 36, agg [int .i64 2, int .i64 2, slice none 0 0].toArray), (6, 6, pointer (some ⟨g1259, 0, none⟩))] D r ∧ Hp G' (bx g1259 [int .i64 0, int .i64 0, int .i64 0, bool false] 31 :: tk (slice A651 y650.length c652) 4 31 :: tk (slice (some ⟨g639, 0, none⟩) ([40] : List Int).length 1) 1 3 :: tk (slice A231 y230.length c232) 4 31 :: tk (slice (some ⟨g219, 0, none⟩) ([50] : List Int).length 1) 1 3 :: bx g6 [int .i64 2, int .i64 2, slice none 0 0] 28 :: L) w) ∨ (D 0 = true ∧ D 6 = true ∧ D 7 = false ∧ ∃ (A863 : Option Addr) (c864 : Nat) (A867 : Option Addr) (c868 : Nat) (g1259 : Nat) (G' : Gh), G846 ≤ G' ∧ y862.Glyphs.length ≤ c864 ∧ Dat k_api_Glyph G' A863 y862.Glyphs ∧ y862.Kerns.length ≤ c868 ∧ Dat k_api_Kern G' A867 y862.Kerns ∧ Regs [(1, pointer (some ⟨g6, 0, none⟩)), (2, slice A231 y230.length c232), (3, int .i64 y237), (4, slice A651 y650.length c652), (5, int .i64 y657)] [] [(0, 35, agg [slice A863 y862.Glyphs.length c864, slice A867 y862.Kerns.length c868].toArray), (1, 36, agg [int .i64 2, int .i64 2, slice none 0 0].toArray), (2, 37, tuple [agg [int .i64 y1062.From, int .i64 y1062.Until, int .i64 y1062.Width, bool y1062.Hyphen].toArray, int .i64 y1063].toArray), (3, 34, tuple [agg [int .i64 y1062.From, int .i64 y1062.Until, int .i64 y1062.Width, bool y1062.Hyphen].toArray, int .i64 y1063].toArray), (4, 38, agg [int .i64 y1062.From, int .i64 y1062.Until, int .i64 y1062.Width, bool y1062.Hyphen].toArray), (5, 39, int .i64 y1063), (6, 6, pointer (some ⟨g1259, 0, none⟩))] D r ∧ Hp G' (bx g1259 [int .i64 0, int .i64 0, int .i64 0, bool false] 31 :: tk (slice A651 y650.length c652) 4 31 :: tk (slice (some ⟨g639, 0, none⟩) ([40] : List Int).length 1) 1 3 :: tk (slice A231 y230.length c232) 4 31 :: tk (slice (some ⟨g219, 0, none⟩) ([50] : List Int).length 1) 1 3 :: bx g6 [int .i64 2, int .i64 2, slice none 0 0] 28 :: L) w) ∨ (D 0 = true ∧ D 6 = true ∧ D 7 = true ∧ ∃ (A863 : Option Addr) (c864 : Nat) (A867 : Option Addr) (c868 : Nat) (g1259 : Nat) (G' : Gh), G846 ≤ G' ∧ y862.Glyphs.length ≤ c864 ∧ Dat k_api_Glyph G' A863 y862.Glyphs ∧ y862.Kerns.length ≤ c868 ∧ Dat k_api_Kern G' A867 y862.Kerns ∧ Regs [(1, pointer (some ⟨g6, 0, none⟩)), (2, slice A231 y230.length c232), (3, int .i64 y237), (4, slice A651 y650.length c652), (5, int .i64 y657)] [] [(0, 35, agg [slice A863 y862.Glyphs.length c864, slice A867 y862.Kerns.length c868].toArray), (1, 36, agg [int .i64 2, int .i64 2, slice none 0 0].toArray), (2, 37, tuple [agg [int .i64 y1062.From, int .i64 y1062.Until, int .i64 y1062.Width, bool y1062.Hyphen].toArray, int .i64 y1063].toArray), (3, 34, tuple [agg [int .i64 y1062.From, int .i64 y1062.Until, int .i64 y1062.Width, bool y1062.Hyphen].toArray, int .i64 y1063].toArray), (4, 38, agg [int .i64 y1062.From, int .i64 y1062.Until, int .i64 y1062.Width, bool y1062.Hyphen].toArray), (5, 39, int .i64 y1063), (6, 6, pointer (some ⟨g1259, 0, none⟩)), (8, 7, int .i64 y1063)] D r ∧ Hp G' (bx g1259 [int .i64 y1062.From, int .i64 y1062.Until, int .i64 y1062.Width, bool y1062.Hyphen] 31 :: tk (slice A651 y650.length c652) 4 31 :: tk (slice (some ⟨g639, 0, none⟩) ([40] : List Int).length 1) 1 3 :: tk (slice A231 y230.length c232) 4 31 :: tk (slice (some ⟨g219, 0, none⟩) ([50] : List Int).length 1) 1 3 :: bx g6 [int .i64 2, int .i64 2, slice none 0 0] 28 :: L) w)) mixo z z ?_ ?_ ?_
 exact (.inl ⟨z, z, z, _, Gh.le_refl _, Regs.start ⟨z, z, z, z, z, tv⟩ trivial, hI848.drew⟩)
 refine ⟨?_, ?_, ?_, ?_, ?_, ?_, ?_, ?_, ?_, tv⟩
 rintro D r wd1268 (⟨hd0, hd6, hd7, G1264, hG1265, hReg1267, hI1266⟩ | ⟨hd0, hd6, hd7, A863, c864, A867, c868, G1264, hG1265, hl865, hD866, hl869, hD870, hReg1267, hI1266⟩ | ⟨hd0, hd6, hd7, g1259, G1264, hG1265, hReg1267, hI1266⟩ | ⟨hd0, hd6, hd7, A863, c864, A867, c868, g1259, G1264, hG1265, hl865, hD866, hl869, hD870, hReg1267, hI1266⟩ | ⟨hd0, hd6, hd7, A863, c864, A867, c868, g1259, G1264, hG1265, hl865, hD866, hl869, hD870, hReg1267, hI1266⟩) hDi hpre hpost
 obtain ⟨r0, rfl⟩ := Has.ex (r := r) cN
 refine q_cv (vs := []) bo23 z z (formelaw17_plain_spec hy1047 hI1266)<|?_
 rintro _ wd860 ⟨A863, c864, A867, c868, G858, hG859, hI861, hl865, hD866, hl869, hD870, rfl⟩
 refine ⟨_, rfl, ?_⟩
 exact nl ⟨z, (.inr (.inl ⟨z, hd6, hd7, A863, c864, A867, c868, _, (gT hG1265 hG859), hl865, hD866, hl869, hD870, (Regs.step (Regs.re (vals' := [(0, 35, agg [slice A863 y862.Glyphs.length c864, slice A867 y862.Kerns.length c868].toArray), (1, 36, agg [int .i64 2, int .i64 2, slice none 0 0].toArray), (2, 37, tuple [agg [int .i64 y1062.From, int .i64 y1062.Until, int .i64 y1062.Width, bool y1062.Hyphen].toArray, int .i64 y1063].toArray), (3, 34, tuple [agg [int .i64 y1062.From, int .i64 y1062.Until, int .i64 y1062.Width, bool y1062.Hyphen].toArray, int .i64 y1063].toArray), (4, 38, agg [int .i64 y1062.From, int .i64 y1062.Until, int .i64 y1062.Width, bool y1062.Hyphen].toArray), (5, 39, int .i64 y1063)]) hReg1267 (List.forall_mem_cons.2 ⟨.inr hDi, (List.forall_mem_cons.2 ⟨.inl (List.mem_of_getElem? (i := 0) z), (List.forall_mem_cons.2 ⟨.inr (hpost 2 z), (List.forall_mem_cons.2 ⟨.inr (hpost 3 z), (List.forall_mem_cons.2 ⟨.inr (hpost 4 z), (List.forall_mem_cons.2 ⟨.inr (hpost 5 z), (fun _ h => nomatch h)⟩)⟩)⟩)⟩)⟩)⟩)) hDi z z z z), hI861⟩))⟩
 cases hDi.symm.trans hd0
 obtain ⟨r0, rfl⟩ := Has.ex (r := r) cN
 refine q_cv (vs := []) bo23 z z (formelaw17_plain_spec hy1047 hI1266)<|?_
 rintro _ wd860 ⟨A863, c864, A867, c868, G858, hG859, hI861, hl865, hD866, hl869, hD870, rfl⟩
 refine ⟨_, rfl, ?_⟩
 exact nl ⟨z, (.inr (.inr (.inr (.inl ⟨z, hd6, hd7, A863, c864, A867, c868, g1259, _, (gT hG1265 hG859), hl865, hD866, hl869, hD870, (Regs.step (Regs.re (vals' := [(0, 35, agg [slice A863 y862.Glyphs.length c864, slice A867 y862.Kerns.length c868].toArray), (1, 36, agg [int .i64 2, int .i64 2, slice none 0 0].toArray), (2, 37, tuple [agg [int .i64 y1062.From, int .i64 y1062.Until, int .i64 y1062.Width, bool y1062.Hyphen].toArray, int .i64 y1063].toArray), (3, 34, tuple [agg [int .i64 y1062.From, int .i64 y1062.Until, int .i64 y1062.Width, bool y1062.Hyphen].toArray, int .i64 y1063].toArray), (4, 38, agg [int .i64 y1062.From, int .i64 y1062.Until, int .i64 y1062.Width, bool y1062.Hyphen].toArray), (5, 39, int .i64 y1063), (6, 6, pointer (some ⟨g1259, 0, none⟩))]) hReg1267 (List.forall_mem_cons.2 ⟨.inr hDi, (List.forall_mem_cons.2 ⟨.inl (List.mem_of_getElem? (i := 0) z), (List.forall_mem_cons.2 ⟨.inr (hpost 2 z), (List.forall_mem_cons.2 ⟨.inr (hpost 3 z), (List.forall_mem_cons.2 ⟨.inr (hpost 4 z), (List.forall_mem_cons.2 ⟨.inr (hpost 5 z), (List.forall_mem_cons.2 ⟨.inl (List.mem_of_getElem? (i := 1) z), (fun _ h => nomatch h)⟩)⟩)⟩)⟩)⟩)⟩)⟩)) hDi z z z z), hI861⟩))))⟩
 cases hDi.symm.trans hd0
 cases hDi.symm.trans hd0
 rintro D r wd1268 (⟨hd0, hd6, hd7, G1264, hG1265, hReg1267, hI1266⟩ | ⟨hd0, hd6, hd7, A863, c864, A867, c868, G1264, hG1265, hl865, hD866, hl869, hD870, hReg1267, hI1266⟩ | ⟨hd0, hd6, hd7, g1259, G1264, hG1265, hReg1267, hI1266⟩ | ⟨hd0, hd6, hd7, A863, c864, A867, c868, g1259, G1264, hG1265, hl865, hD866, hl869, hD870, hReg1267, hI1266⟩ | ⟨hd0, hd6, hd7, A863, c864, A867, c868, g1259, G1264, hG1265, hl865, hD866, hl869, hD870, hReg1267, hI1266⟩) hDi hpre hpost
 obtain ⟨r0, rfl⟩ := Has.ex (cC (hReg1267.ins.get 0 rfl) cN)
 exact lda hI1266 4 ag28 z z z z<|nl ⟨z, (.inl ⟨hd0, hd6, hd7, _, hG1265, (Regs.step hReg1267 hDi z z z z), hI1266⟩)⟩
 obtain ⟨r0, rfl⟩ := Has.ex (cC (hReg1267.ins.get 0 rfl) cN)
 exact lda hI1266 4 ag28 z z z z<|nl ⟨z, (.inr (.inl ⟨hd0, hd6, hd7, A863, c864, A867, c868, _, hG1265, hl865, hD866, hl869, hD870, (Regs.step hReg1267 hDi z z z z), hI1266⟩))⟩
 obtain ⟨r0, rfl⟩ := Has.ex (cC (hReg1267.ins.get 0 rfl) cN)
 exact lda hI1266 5 ag28 z z z z<|nl ⟨z, (.inr (.inr (.inl ⟨hd0, hd6, hd7, g1259, _, hG1265, (Regs.step hReg1267 hDi z z z z), hI1266⟩)))⟩
 obtain ⟨r0, rfl⟩ := Has.ex (cC (hReg1267.ins.get 0 rfl) cN)
 exact lda hI1266 5 ag28 z z z z<|nl ⟨z, (.inr (.inr (.inr (.inl ⟨hd0, hd6, hd7, A863, c864, A867, c868, g1259, _, hG1265, hl865, hD866, hl869, hD870, (Regs.step hReg1267 hDi z z z z), hI1266⟩))))⟩
 cases (hpost 7 rfl).symm.trans hd7
 rintro D r wd1268 (⟨hd0, hd6, hd7, G1264, hG1265, hReg1267, hI1266⟩ | ⟨hd0, hd6, hd7, A863, c864, A867, c868, G1264, hG1265, hl865, hD866, hl869, hD870, hReg1267, hI1266⟩ | ⟨hd0, hd6, hd7, g1259, G1264, hG1265, hReg1267, hI1266⟩ | ⟨hd0, hd6, hd7, A863, c864, A867, c868, g1259, G1264, hG1265, hl865, hD866, hl869, hD870, hReg1267, hI1266⟩ | ⟨hd0, hd6, hd7, A863, c864, A867, c868, g1259, G1264, hG1265, hl865, hD866, hl869, hD870, hReg1267, hI1266⟩) hDi hpre hpost
 cases (hpre 0 rfl).symm.trans hd0
 obtain ⟨r0, rfl⟩ := Has.ex (cC (hReg1267.get 0 rfl (hpre 0 rfl)) (cC (hReg1267.get 1 rfl (hpre 1 rfl)) cN))
 exact cv bo11 (inline_Next_spec (a10 := (⟨2, 2, ([] : List ByteArray)⟩ : api_Breaks)) hy1247 hI1266 hl865 hD866 hl869 hD870 (show ([] : List ByteArray).length ≤ 0 from Nat.le_refl 0) (Dat.nil _ _ _) (hgl.mono (gT (gT hG427 hG847) hG1265))) z z fun wd1060 hI1061=>nl ⟨z, (.inr (.inl ⟨hd0, hd6, hd7, A863, c864, A867, c868, _, hG1265, hl865, hD866, hl869, hD870, (Regs.step hReg1267 hDi z z z z), hI1061⟩))⟩
 cases (hpre 0 rfl).symm.trans hd0
 obtain ⟨r0, rfl⟩ := Has.ex (cC (hReg1267.get 0 rfl (hpre 0 rfl)) (cC (hReg1267.get 1 rfl (hpre 1 rfl)) cN))
 exact cv bo11 (inline_Next_spec (a10 := (⟨2, 2, ([] : List ByteArray)⟩ : api_Breaks)) hy1247 hI1266 hl865 hD866 hl869 hD870 (show ([] : List ByteArray).length ≤ 0 from Nat.le_refl 0) (Dat.nil _ _ _) (hgl.mono (gT (gT hG427 hG847) hG1265))) z z fun wd1060 hI1061=>nl ⟨z, (.inr (.inr (.inr (.inl ⟨hd0, hd6, hd7, A863, c864, A867, c868, g1259, _, hG1265, hl865, hD866, hl869, hD870, (Regs.step hReg1267 hDi z z z z), hI1061⟩))))⟩
 cases (hpost 7 rfl).symm.trans hd7
 rintro D r wd1268 (⟨hd0, hd6, hd7, G1264, hG1265, hReg1267, hI1266⟩ | ⟨hd0, hd6, hd7, A863, c864, A867, c868, G1264, hG1265, hl865, hD866, hl869, hD870, hReg1267, hI1266⟩ | ⟨hd0, hd6, hd7, g1259, G1264, hG1265, hReg1267, hI1266⟩ | ⟨hd0, hd6, hd7, A863, c864, A867, c868, g1259, G1264, hG1265, hl865, hD866, hl869, hD870, hReg1267, hI1266⟩ | ⟨hd0, hd6, hd7, A863, c864, A867, c868, g1259, G1264, hG1265, hl865, hD866, hl869, hD870, hReg1267, hI1266⟩) hDi hpre hpost
 cases (hpre 0 rfl).symm.trans hd0
 obtain ⟨r0, rfl⟩ := Has.ex (cC (hReg1267.get 2 rfl (hpre 2 rfl)) cN)
 exact mv z<|nl ⟨z, (.inr (.inl ⟨hd0, hd6, hd7, A863, c864, A867, c868, _, hG1265, hl865, hD866, hl869, hD870, (Regs.step hReg1267 hDi z z z z), hI1266⟩))⟩
 cases (hpre 0 rfl).symm.trans hd0
 obtain ⟨r0, rfl⟩ := Has.ex (cC (hReg1267.get 2 rfl (hpre 2 rfl)) cN)
 exact mv z<|nl ⟨z, (.inr (.inr (.inr (.inl ⟨hd0, hd6, hd7, A863, c864, A867, c868, g1259, _, hG1265, hl865, hD866, hl869, hD870, (Regs.step hReg1267 hDi z z z z), hI1266⟩))))⟩
 cases (hpost 7 rfl).symm.trans hd7
 rintro D r wd1268 (⟨hd0, hd6, hd7, G1264, hG1265, hReg1267, hI1266⟩ | ⟨hd0, hd6, hd7, A863, c864, A867, c868, G1264, hG1265, hl865, hD866, hl869, hD870, hReg1267, hI1266⟩ | ⟨hd0, hd6, hd7, g1259, G1264, hG1265, hReg1267, hI1266⟩ | ⟨hd0, hd6, hd7, A863, c864, A867, c868, g1259, G1264, hG1265, hl865, hD866, hl869, hD870, hReg1267, hI1266⟩ | ⟨hd0, hd6, hd7, A863, c864, A867, c868, g1259, G1264, hG1265, hl865, hD866, hl869, hD870, hReg1267, hI1266⟩) hDi hpre hpost
 cases (hpre 0 rfl).symm.trans hd0
 obtain ⟨r0, rfl⟩ := Has.ex (cC (hReg1267.get 3 rfl (hpre 3 rfl)) cN)
 exact exk z z<|nl ⟨z, (.inr (.inl ⟨hd0, hd6, hd7, A863, c864, A867, c868, _, hG1265, hl865, hD866, hl869, hD870, (Regs.step hReg1267 hDi z z z z), hI1266⟩))⟩
 cases (hpre 0 rfl).symm.trans hd0
 obtain ⟨r0, rfl⟩ := Has.ex (cC (hReg1267.get 3 rfl (hpre 3 rfl)) cN)
 exact exk z z<|nl ⟨z, (.inr (.inr (.inr (.inl ⟨hd0, hd6, hd7, A863, c864, A867, c868, g1259, _, hG1265, hl865, hD866, hl869, hD870, (Regs.step hReg1267 hDi z z z z), hI1266⟩))))⟩
 cases (hpost 7 rfl).symm.trans hd7
 rintro D r wd1268 (⟨hd0, hd6, hd7, G1264, hG1265, hReg1267, hI1266⟩ | ⟨hd0, hd6, hd7, A863, c864, A867, c868, G1264, hG1265, hl865, hD866, hl869, hD870, hReg1267, hI1266⟩ | ⟨hd0, hd6, hd7, g1259, G1264, hG1265, hReg1267, hI1266⟩ | ⟨hd0, hd6, hd7, A863, c864, A867, c868, g1259, G1264, hG1265, hl865, hD866, hl869, hD870, hReg1267, hI1266⟩ | ⟨hd0, hd6, hd7, A863, c864, A867, c868, g1259, G1264, hG1265, hl865, hD866, hl869, hD870, hReg1267, hI1266⟩) hDi hpre hpost
 cases (hpre 0 rfl).symm.trans hd0
 obtain ⟨r0, rfl⟩ := Has.ex (cC (hReg1267.get 3 rfl (hpre 3 rfl)) cN)
 exact exk z z<|nl ⟨z, (.inr (.inl ⟨hd0, hd6, hd7, A863, c864, A867, c868, _, hG1265, hl865, hD866, hl869, hD870, (Regs.step hReg1267 hDi z z z z), hI1266⟩))⟩
 cases (hpre 0 rfl).symm.trans hd0
 obtain ⟨r0, rfl⟩ := Has.ex (cC (hReg1267.get 3 rfl (hpre 3 rfl)) cN)
 exact exk z z<|nl ⟨z, (.inr (.inr (.inr (.inl ⟨hd0, hd6, hd7, A863, c864, A867, c868, g1259, _, hG1265, hl865, hD866, hl869, hD870, (Regs.step hReg1267 hDi z z z z), hI1266⟩))))⟩
 obtain ⟨r0, rfl⟩ := Has.ex (cC (hReg1267.get 3 rfl (hpre 3 rfl)) cN)
 exact exk z z<|nl ⟨z, (.inr (.inr (.inr (.inr ⟨hd0, hd6, hd7, A863, c864, A867, c868, g1259, _, hG1265, hl865, hD866, hl869, hD870, (Regs.step hReg1267 hDi z z z z), hI1266⟩))))⟩
 rintro D r wd1268 (⟨hd0, hd6, hd7, G1264, hG1265, hReg1267, hI1266⟩ | ⟨hd0, hd6, hd7, A863, c864, A867, c868, G1264, hG1265, hl865, hD866, hl869, hD870, hReg1267, hI1266⟩ | ⟨hd0, hd6, hd7, g1259, G1264, hG1265, hReg1267, hI1266⟩ | ⟨hd0, hd6, hd7, A863, c864, A867, c868, g1259, G1264, hG1265, hl865, hD866, hl869, hD870, hReg1267, hI1266⟩ | ⟨hd0, hd6, hd7, A863, c864, A867, c868, g1259, G1264, hG1265, hl865, hD866, hl869, hD870, hReg1267, hI1266⟩) hDi hpre hpost
 obtain ⟨r0, rfl⟩ := Has.ex (r := r) cN
 exact q_alloc hI1266 ze31 fun g1259 wd1260 hI1261=>nl ⟨z, (.inr (.inr (.inl ⟨hd0, z, hd7, g1259, _, hG1265, (Regs.step (Regs.re (vals' := [(1, 36, agg [int .i64 2, int .i64 2, slice none 0 0].toArray), (6, 6, pointer (some ⟨g1259, 0, none⟩))]) hReg1267 (List.forall_mem_cons.2 ⟨.inl (List.mem_of_getElem? (i := 0) z), (List.forall_mem_cons.2 ⟨.inr hDi, (fun _ h => nomatch h)⟩)⟩)) hDi z z z z), hI1261⟩)))⟩
 obtain ⟨r0, rfl⟩ := Has.ex (r := r) cN
 exact q_alloc hI1266 ze31 fun g1259 wd1260 hI1261=>nl ⟨z, (.inr (.inr (.inr (.inl ⟨hd0, z, hd7, A863, c864, A867, c868, g1259, _, hG1265, hl865, hD866, hl869, hD870, (Regs.step (Regs.re (vals' := [(0, 35, agg [slice A863 y862.Glyphs.length c864, slice A867 y862.Kerns.length c868].toArray), (1, 36, agg [int .i64 2, int .i64 2, slice none 0 0].toArray), (2, 37, tuple [agg [int .i64 y1062.From, int .i64 y1062.Until, int .i64 y1062.Width, bool y1062.Hyphen].toArray, int .i64 y1063].toArray), (3, 34, tuple [agg [int .i64 y1062.From, int .i64 y1062.Until, int .i64 y1062.Width, bool y1062.Hyphen].toArray, int .i64 y1063].toArray), (4, 38, agg [int .i64 y1062.From, int .i64 y1062.Until, int .i64 y1062.Width, bool y1062.Hyphen].toArray), (5, 39, int .i64 y1063), (6, 6, pointer (some ⟨g1259, 0, none⟩))]) hReg1267 (List.forall_mem_cons.2 ⟨.inl (List.mem_of_getElem? (i := 0) z), (List.forall_mem_cons.2 ⟨.inl (List.mem_of_getElem? (i := 1) z), (List.forall_mem_cons.2 ⟨.inl (List.mem_of_getElem? (i := 2) z), (List.forall_mem_cons.2 ⟨.inl (List.mem_of_getElem? (i := 3) z), (List.forall_mem_cons.2 ⟨.inl (List.mem_of_getElem? (i := 4) z), (List.forall_mem_cons.2 ⟨.inl (List.mem_of_getElem? (i := 5) z), (List.forall_mem_cons.2 ⟨.inr hDi, (fun _ h => nomatch h)⟩)⟩)⟩)⟩)⟩)⟩)⟩)) hDi z z z z), hI1261⟩))))⟩
 cases hDi.symm.trans hd6
 cases hDi.symm.trans hd6
 cases hDi.symm.trans hd6
 rintro D r wd1268 (⟨hd0, hd6, hd7, G1264, hG1265, hReg1267, hI1266⟩ | ⟨hd0, hd6, hd7, A863, c864, A867, c868, G1264, hG1265, hl865, hD866, hl869, hD870, hReg1267, hI1266⟩ | ⟨hd0, hd6, hd7, g1259, G1264, hG1265, hReg1267, hI1266⟩ | ⟨hd0, hd6, hd7, A863, c864, A867, c868, g1259, G1264, hG1265, hl865, hD866, hl869, hD870, hReg1267, hI1266⟩ | ⟨hd0, hd6, hd7, A863, c864, A867, c868, g1259, G1264, hG1265, hl865, hD866, hl869, hD870, hReg1267, hI1266⟩) hDi hpre hpost
 cases (hpre 0 rfl).symm.trans hd0
 cases (hpre 6 rfl).symm.trans hd6
 cases (hpre 0 rfl).symm.trans hd0
 obtain ⟨r0, rfl⟩ := Has.ex (cC (hReg1267.get 6 rfl (hpre 6 rfl)) (cC (hReg1267.get 4 rfl (hpre 4 rfl)) cN))
 exact stk hI1266 0 ag31 z z z z z z z fun wd1262 hI1263=>nl ⟨z, (.inr (.inr (.inr (.inr ⟨hd0, hd6, z, A863, c864, A867, c868, g1259, _, hG1265, hl865, hD866, hl869, hD870, (Regs.stepN (Regs.re (vals' := [(0, 35, agg [slice A863 y862.Glyphs.length c864, slice A867 y862.Kerns.length c868].toArray), (1, 36, agg [int .i64 2, int .i64 2, slice none 0 0].toArray), (2, 37, tuple [agg [int .i64 y1062.From, int .i64 y1062.Until, int .i64 y1062.Width, bool y1062.Hyphen].toArray, int .i64 y1063].toArray), (3, 34, tuple [agg [int .i64 y1062.From, int .i64 y1062.Until, int .i64 y1062.Width, bool y1062.Hyphen].toArray, int .i64 y1063].toArray), (4, 38, agg [int .i64 y1062.From, int .i64 y1062.Until, int .i64 y1062.Width, bool y1062.Hyphen].toArray), (5, 39, int .i64 y1063), (6, 6, pointer (some ⟨g1259, 0, none⟩)), (8, 7, int .i64 y1063)]) hReg1267 (List.forall_mem_cons.2 ⟨.inl (List.mem_of_getElem? (i := 0) z), (List.forall_mem_cons.2 ⟨.inl (List.mem_of_getElem? (i := 1) z), (List.forall_mem_cons.2 ⟨.inl (List.mem_of_getElem? (i := 2) z), (List.forall_mem_cons.2 ⟨.inl (List.mem_of_getElem? (i := 3) z), (List.forall_mem_cons.2 ⟨.inl (List.mem_of_getElem? (i := 4) z), (List.forall_mem_cons.2 ⟨.inl (List.mem_of_getElem? (i := 5) z), (List.forall_mem_cons.2 ⟨.inl (List.mem_of_getElem? (i := 6) z), (List.forall_mem_cons.2 ⟨.inr (hpost 8 z), (fun _ h => nomatch h)⟩)⟩)⟩)⟩)⟩)⟩)⟩)⟩)) z z), hI1263⟩))))⟩
 cases hDi.symm.trans hd7
 rintro D r wd1268 (⟨hd0, hd6, hd7, G1264, hG1265, hReg1267, hI1266⟩ | ⟨hd0, hd6, hd7, A863, c864, A867, c868, G1264, hG1265, hl865, hD866, hl869, hD870, hReg1267, hI1266⟩ | ⟨hd0, hd6, hd7, g1259, G1264, hG1265, hReg1267, hI1266⟩ | ⟨hd0, hd6, hd7, A863, c864, A867, c868, g1259, G1264, hG1265, hl865, hD866, hl869, hD870, hReg1267, hI1266⟩ | ⟨hd0, hd6, hd7, A863, c864, A867, c868, g1259, G1264, hG1265, hl865, hD866, hl869, hD870, hReg1267, hI1266⟩) hDi hpre hpost
 cases (hpre 0 rfl).symm.trans hd0
 cases (hpre 6 rfl).symm.trans hd6
 cases (hpre 0 rfl).symm.trans hd0
 cases (hpre 7 rfl).symm.trans hd7
 obtain ⟨r0, rfl⟩ := Has.ex (cC (hReg1267.get 5 rfl (hpre 5 rfl)) cN)
 exact asn z<|nl ⟨z, (.inr (.inr (.inr (.inr ⟨hd0, hd6, hd7, A863, c864, A867, c868, g1259, _, hG1265, hl865, hD866, hl869, hD870, (Regs.step hReg1267 hDi z z z z), hI1266⟩))))⟩
 intro D r wd1268 hall hR
 rcases hR with ⟨hd0, hd6, hd7, G1264, hG1265, hReg1267, hI1266⟩ | ⟨hd0, hd6, hd7, A863, c864, A867, c868, G1264, hG1265, hl865, hD866, hl869, hD870, hReg1267, hI1266⟩ | ⟨hd0, hd6, hd7, g1259, G1264, hG1265, hReg1267, hI1266⟩ | ⟨hd0, hd6, hd7, A863, c864, A867, c868, g1259, G1264, hG1265, hl865, hD866, hl869, hD870, hReg1267, hI1266⟩ | ⟨hd0, hd6, hd7, A863, c864, A867, c868, g1259, G1264, hG1265, hl865, hD866, hl869, hD870, hReg1267, hI1266⟩
 cases (hall 0 (Nat.le_of_ble_eq_true rfl)).symm.trans hd0
 cases (hall 6 (Nat.le_of_ble_eq_true rfl)).symm.trans hd6
 cases (hall 0 (Nat.le_of_ble_eq_true rfl)).symm.trans hd0
 cases (hall 7 (Nat.le_of_ble_eq_true rfl)).symm.trans hd7
 obtain ⟨r0, rfl⟩ := Has.ex (cC (hReg1267.ins.get 0 rfl) (cC (hReg1267.ins.get 1 rfl) (cC (hReg1267.ins.get 2 rfl) (cC (hReg1267.ins.get 3 rfl) (cC (hReg1267.ins.get 4 rfl) (cC (hReg1267.get 6 rfl (hall 6 (Nat.le_of_ble_eq_true rfl))) (cC (hReg1267.get 7 rfl (hall 8 (Nat.le_of_ble_eq_true rfl))) cN)))))))
 refine hK852 _ _ _<|sr fun K1269 hK1270=>bK H fun y1276 hy1271 H=>q_cv (vs := []) bo23 z z (formelaw17_plain_spec hy1271 hI1266)<|?_
 rintro _ wd1274 ⟨A1277, c1278, A1281, c1282, G1272, hG1273, hI1275, hl1279, hD1280, hl1283, hD1284, rfl⟩
 refine ⟨_, rfl, ?_⟩
 refine q_build (vs := [(0, int .i64 3), (1, int .i64 6), (2, int .i64 20)]) (cs := [int .i64 3, int .i64 6, int .i64 20, bool false]) ze31 pl31 z z<|bK3 H fun y1290 y1291 y1292 hy1285 H=>cv bo16 (inline_Place_spec (a11 := (⟨3, 6, 20, false⟩ : api_Line)) hy1285 hI1275 hl1279 hD1280 hl1283 hD1284 (hgl.mono (gT (gT (gT hG427 hG847) hG1265) hG1273))) z z fun wd1288 hI1289=>mv z<|exk z z<|exk z z<|exk z z<|asn z<|asn z<|asn z<|nl<|hK1270 _ _ _<|sr fun K1293 hK1294=>bK H fun y1300 hy1295 H=>?_
 refine q_cv (vs := []) bo23 z z (formelaw17_plain_spec hy1295 hI1289)<|?_
 rintro _ wd1298 ⟨A1301, c1302, A1305, c1306, G1296, hG1297, hI1299, hl1303, hD1304, hl1307, hD1308, rfl⟩
 refine ⟨_, rfl, ?_⟩
 refine q_build (vs := [(0, int .i64 3), (1, int .i64 6), (2, int .i64 20)]) (cs := [int .i64 3, int .i64 6, int .i64 20, bool false]) ze31 pl31 z z<|bK3 H fun y1314 y1315 y1316 hy1309 H=>cv bo16 (inline_Place_spec (a11 := (⟨3, 6, 20, false⟩ : api_Line)) hy1309 hI1299 hl1303 hD1304 hl1307 hD1308 (hgl.mono (gT (gT (gT (gT hG427 hG847) hG1265) hG1273) hG1297))) z z fun wd1312 hI1313=>mv z<|exk z z<|exk z z<|exk z z<|asn z<|asn z<|asn z<|nl<|hK1294 _ _ _<|sQ fun K1317 hK1318=>bK H fun y1328 hy1513 H=>?_
 refine bK2 H fun y1528 y1535 hy1713 H=>?_
 refine wpc_drawL [0, 0, 3, 7, 15, 15, 31, 127] (fun D r w => (D 0 = false ∧ ∃ (G' : Gh), G1296 ≤ G' ∧ Regs [(1, pointer (some ⟨g6, 0, none⟩)), (2, slice A231 y230.length c232), (3, int .i64 y237), (4, slice A651 y650.length c652), (5, int .i64 y657), (6, pointer (some ⟨g1259, 0, none⟩)), (7, int .i64 y1063), (8, string y1290), (9, int .i64 y1291), (10, int .i64 y1292), (12, int .i64 y1315), (13, int .i64 y1316)] [] [(1, 56, agg [int .i64 2, int .i64 2, slice none 0 0].toArray)] D r ∧ Hp G' (bx g1259 [int .i64 y1062.From, int .i64 y1062.Until, int .i64 y1062.Width, bool y1062.Hyphen] 31 :: tk (slice A651 y650.length c652) 4 31 :: tk (slice (some ⟨g639, 0, none⟩) ([40] : List Int).length 1) 1 3 :: tk (slice A231 y230.length c232) 4 31 :: tk (slice (some ⟨g219, 0, none⟩) ([50] : List Int).length 1) 1 3 :: bx g6 [int .i64 2, int .i64 2, slice none 0 0] 28 :: L) w) ∨ (D 0 = true ∧ D 2 = false ∧ ∃ (A1329 : Option Addr) (c1330 : Nat) (A1333 : Option Addr) (c1334 : Nat) (G' : Gh), G1296 ≤ G' ∧ y1328.Glyphs.length ≤ c1330 ∧ Dat k_api_Glyph G' A1329 y1328.Glyphs ∧ y1328.Kerns.length ≤ c1334 ∧ Dat k_api_Kern G' A1333 y1328.Kerns ∧ Regs [(1, pointer (some ⟨g6, 0, none⟩)), (2, slice A231 y230.length c232), (3, int .i64 y237), (4, slice A651 y650.length c652), (5, int .i64 y657), (6, pointer (some ⟨g1259, 0, none⟩)), (7, int .i64 y1063), (8, string y1290), (9, int .i64 y1291), (10, int .i64 y1292), (12, int .i64 y1315), (13, int .i64 y1316)] [] [(1, 56, agg [int .i64 2, int .i64 2, slice none 0 0].toArray), (0, 55, agg [slice A1329 y1328.Glyphs.length c1330, slice A1333 y1328.Kerns.length c1334].toArray)] D r ∧ Hp G' (bx g1259 [int .i64 y1062.From, int .i64 y1062.Until, int .i64 y1062.Width, bool y1062.Hyphen] 31 :: tk (slice A651 y650.length c652) 4 31 :: tk (slice (some ⟨g639, 0, none⟩) ([40] : List Int).length 1) 1 3 :: tk (slice A231 y230.length c232) 4 31 :: tk (slice (some ⟨g219, 0, none⟩) ([50] : List Int).length 1) 1 3 :: bx g6 [int .i64 2, int .i64 2, slice none 0 0] 28 :: L) w) ∨ (D 2 = true ∧ ∃ (A1329 : Option Addr) (c1330 : Nat) (A1333 : Option Addr) (c1334 : Nat) (A1529 : Option Addr) (c1530 : Nat) (G' : Gh), G1296 ≤ G' ∧ y1328.Glyphs.length ≤ c1330 ∧ Dat k_api_Glyph G' A1329 y1328.Glyphs ∧ y1328.Kerns.length ≤ c1334 ∧ Dat k_api_Kern G' A1333 y1328.Kerns ∧ y1528.length ≤ c1530 ∧ Dat k_api_Line G' A1529 y1528 ∧ Own A1529 c1530 ∧ Regs [(1, pointer (some ⟨g6, 0, none⟩)), (2, slice A231 y230.length c232), (3, int .i64 y237), (4, slice A651 y650.length c652), (5, int .i64 y657), (6, pointer (some ⟨g1259, 0, none⟩)), (7, int .i64 y1063), (8, string y1290), (9, int .i64 y1291), (10, int .i64 y1292), (12, int .i64 y1315), (13, int .i64 y1316)] [] [(1, 56, agg [int .i64 2, int .i64 2, slice none 0 0].toArray), (0, 55, agg [slice A1329 y1328.Glyphs.length c1330, slice A1333 y1328.Kerns.length c1334].toArray), (2, 57, tuple [slice A1529 y1528.length c1530, int .i64 y1535].toArray), (3, 54, tuple [slice A1529 y1528.length c1530, int .i64 y1535].toArray), (4, 58, slice A1529 y1528.length c1530), (5, 59, int .i64 y1535), (6, 14, slice A1529 y1528.length c1530), (7, 15, int .i64 y1535)] D r ∧ Hp G' (tk (slice A1529 y1528.length c1530) 4 31 :: bx g1259 [int .i64 y1062.From, int .i64 y1062.Until, int .i64 y1062.Width, bool y1062.Hyphen] 31 :: tk (slice A651 y650.length c652) 4 31 :: tk (slice (some ⟨g639, 0, none⟩) ([40] : List Int).length 1) 1 3 :: tk (slice A231 y230.length c232) 4 31 :: tk (slice (some ⟨g219, 0, none⟩) ([50] : List Int).length 1) 1 3 :: bx g6 [int .i64 2, int .i64 2, slice none 0 0] 28 :: L) w)) mixo z z ?_ ?_ ?_
 exact (.inl ⟨z, _, Gh.le_refl _, Regs.start ⟨z, z, z, z, z, z, z, z, z, z, z, z, tv⟩ trivial, hI1313.drew⟩)
 refine ⟨?_, ?_, ?_, ?_, ?_, ?_, ?_, ?_, tv⟩
 rintro D r wd1728 (⟨hd2, G1724, hG1725, hReg1727, hI1726⟩ | ⟨hd1, hd2, A1329, c1330, A1333, c1334, G1724, hG1725, hl1331, hD1332, hl1335, hD1336, hReg1727, hI1726⟩ | ⟨hd1, A1329, c1330, A1333, c1334, A1529, c1530, G1724, hG1725, hl1331, hD1332, hl1335, hD1336, hl1531, hD1532, ho1533, hReg1727, hI1726⟩) hDi hpre hpost
 obtain ⟨r0, rfl⟩ := Has.ex (r := r) cN
 refine q_cv (vs := []) bo23 z z (formelaw17_plain_spec hy1513 hI1726)<|?_
 rintro _ wd1326 ⟨A1329, c1330, A1333, c1334, G1324, hG1325, hI1327, hl1331, hD1332, hl1335, hD1336, rfl⟩
 refine ⟨_, rfl, ?_⟩
 exact nl ⟨z, (.inr (.inl ⟨z, (hpost 2 z), A1329, c1330, A1333, c1334, _, (gT hG1725 hG1325), hl1331, hD1332, hl1335, hD1336, (Regs.step (Regs.more (new := [(0, 55, agg [slice A1329 y1328.Glyphs.length c1330, slice A1333 y1328.Kerns.length c1334].toArray)]) hReg1727 (List.forall_mem_cons.2 ⟨hDi, (fun _ h => nomatch h)⟩)) hDi z z z z), hI1327⟩))⟩
 cases hDi.symm.trans hd1
 cases (hpost 2 rfl).symm.trans hd1
 rintro D r wd1728 (⟨hd2, G1724, hG1725, hReg1727, hI1726⟩ | ⟨hd1, hd2, A1329, c1330, A1333, c1334, G1724, hG1725, hl1331, hD1332, hl1335, hD1336, hReg1727, hI1726⟩ | ⟨hd1, A1329, c1330, A1333, c1334, A1529, c1530, G1724, hG1725, hl1331, hD1332, hl1335, hD1336, hl1531, hD1532, ho1533, hReg1727, hI1726⟩) hDi hpre hpost
 obtain ⟨r0, rfl⟩ := Has.ex (cC (hReg1727.ins.get 0 rfl) cN)
 exact lda hI1726 5 ag28 z z z z<|nl ⟨z, (.inl ⟨hd2, _, hG1725, (Regs.step hReg1727 hDi z z z z), hI1726⟩)⟩
 obtain ⟨r0, rfl⟩ := Has.ex (cC (hReg1727.ins.get 0 rfl) cN)
 exact lda hI1726 5 ag28 z z z z<|nl ⟨z, (.inr (.inl ⟨hd1, hd2, A1329, c1330, A1333, c1334, _, hG1725, hl1331, hD1332, hl1335, hD1336, (Regs.step hReg1727 hDi z z z z), hI1726⟩))⟩
 cases (hpost 2 rfl).symm.trans hd1
 rintro D r wd1728 (⟨hd2, G1724, hG1725, hReg1727, hI1726⟩ | ⟨hd1, hd2, A1329, c1330, A1333, c1334, G1724, hG1725, hl1331, hD1332, hl1335, hD1336, hReg1727, hI1726⟩ | ⟨hd1, A1329, c1330, A1333, c1334, A1529, c1530, G1724, hG1725, hl1331, hD1332, hl1335, hD1336, hl1531, hD1532, ho1533, hReg1727, hI1726⟩) hDi hpre hpost
 cases (hpre 0 rfl).symm.trans hd2
 obtain ⟨r0, rfl⟩ := Has.ex (cC (hReg1727.get 1 rfl (hpre 0 rfl)) (cC (hReg1727.get 0 rfl (hpre 1 rfl)) cN))
 refine q_cv (vs := [agg [slice A1329 y1328.Glyphs.length c1330, slice A1333 y1328.Kerns.length c1334].toArray, agg [int .i64 2, int .i64 2, slice none 0 0].toArray, string (⟨#[97, 98]⟩ : ByteArray), int .i64 100, slice none 0 0]) bo13 z z (inline_Lines_spec (a10 := (⟨2, 2, ([] : List ByteArray)⟩ : api_Breaks)) (a17 := ([] : List Int)) hy1713 hI1726 hl1331 hD1332 hl1335 hD1336 (show ([] : List ByteArray).length ≤ 0 from Nat.le_refl 0) (Dat.nil _ _ _) (show ([] : List Int).length ≤ 0 from Nat.le_refl 0) (Dat.nil _ _ _) (hgl.mono (gT (gT (gT (gT (gT hG427 hG847) hG1265) hG1273) hG1297) hG1725)))<|?_
 rintro _ wd1526 ⟨A1529, c1530, G1524, hG1525, hI1527, hl1531, hD1532, ho1533, rfl⟩
 refine ⟨_, rfl, ?_⟩
 exact nl ⟨z, (.inr (.inr ⟨z, A1329, c1330, A1333, c1334, A1529, c1530, _, (gT hG1725 hG1525), hl1331, (Dat.mono hG1525 hD1332), hl1335, (Dat.mono hG1525 hD1336), hl1531, hD1532, ho1533, (Regs.step (Regs.more (new := [(2, 57, tuple [slice A1529 y1528.length c1530, int .i64 y1535].toArray), (3, 54, tuple [slice A1529 y1528.length c1530, int .i64 y1535].toArray), (4, 58, slice A1529 y1528.length c1530), (5, 59, int .i64 y1535), (6, 14, slice A1529 y1528.length c1530), (7, 15, int .i64 y1535)]) hReg1727 (List.forall_mem_cons.2 ⟨hDi, (List.forall_mem_cons.2 ⟨hpost 3 z, (List.forall_mem_cons.2 ⟨hpost 4 z, (List.forall_mem_cons.2 ⟨hpost 5 z, (List.forall_mem_cons.2 ⟨hpost 6 z, (List.forall_mem_cons.2 ⟨hpost 7 z, (fun _ h => nomatch h)⟩)⟩)⟩)⟩)⟩)⟩)) hDi z z z z), hI1527⟩))⟩
 cases hDi.symm.trans hd1
 rintro D r wd1728 (⟨hd2, G1724, hG1725, hReg1727, hI1726⟩ | ⟨hd1, hd2, A1329, c1330, A1333, c1334, G1724, hG1725, hl1331, hD1332, hl1335, hD1336, hReg1727, hI1726⟩ | ⟨hd1, A1329, c1330, A1333, c1334, A1529, c1530, G1724, hG1725, hl1331, hD1332, hl1335, hD1336, hl1531, hD1532, ho1533, hReg1727, hI1726⟩) hDi hpre hpost
 cases (hpre 0 rfl).symm.trans hd2
 cases (hpre 2 rfl).symm.trans hd2
 obtain ⟨r0, rfl⟩ := Has.ex (cC (hReg1727.get 2 rfl (hpre 2 rfl)) cN)
 exact mv z<|nl ⟨z, (.inr (.inr ⟨hd1, A1329, c1330, A1333, c1334, A1529, c1530, _, hG1725, hl1331, hD1332, hl1335, hD1336, hl1531, hD1532, ho1533, (Regs.step hReg1727 hDi z z z z), hI1726⟩))⟩
 rintro D r wd1728 (⟨hd2, G1724, hG1725, hReg1727, hI1726⟩ | ⟨hd1, hd2, A1329, c1330, A1333, c1334, G1724, hG1725, hl1331, hD1332, hl1335, hD1336, hReg1727, hI1726⟩ | ⟨hd1, A1329, c1330, A1333, c1334, A1529, c1530, G1724, hG1725, hl1331, hD1332, hl1335, hD1336, hl1531, hD1532, ho1533, hReg1727, hI1726⟩) hDi hpre hpost
 cases (hpre 0 rfl).symm.trans hd2
 cases (hpre 2 rfl).symm.trans hd2
 obtain ⟨r0, rfl⟩ := Has.ex (cC (hReg1727.get 3 rfl (hpre 3 rfl)) cN)
 exact exk z z<|nl ⟨z, (.inr (.inr ⟨hd1, A1329, c1330, A1333, c1334, A1529, c1530, _, hG1725, hl1331, hD1332, hl1335, hD1336, hl1531, hD1532, ho1533, (Regs.step hReg1727 hDi z z z z), hI1726⟩))⟩
 rintro D r wd1728 (⟨hd2, G1724, hG1725, hReg1727, hI1726⟩ | ⟨hd1, hd2, A1329, c1330, A1333, c1334, G1724, hG1725, hl1331, hD1332, hl1335, hD1336, hReg1727, hI1726⟩ | ⟨hd1, A1329, c1330, A1333, c1334, A1529, c1530, G1724, hG1725, hl1331, hD1332, hl1335, hD1336, hl1531, hD1532, ho1533, hReg1727, hI1726⟩) hDi hpre hpost
 cases (hpre 0 rfl).symm.trans hd2
 cases (hpre 2 rfl).symm.trans hd2
 obtain ⟨r0, rfl⟩ := Has.ex (cC (hReg1727.get 3 rfl (hpre 3 rfl)) cN)
 exact exk z z<|nl ⟨z, (.inr (.inr ⟨hd1, A1329, c1330, A1333, c1334, A1529, c1530, _, hG1725, hl1331, hD1332, hl1335, hD1336, hl1531, hD1532, ho1533, (Regs.step hReg1727 hDi z z z z), hI1726⟩))⟩
 rintro D r wd1728 (⟨hd2, G1724, hG1725, hReg1727, hI1726⟩ | ⟨hd1, hd2, A1329, c1330, A1333, c1334, G1724, hG1725, hl1331, hD1332, hl1335, hD1336, hReg1727, hI1726⟩ | ⟨hd1, A1329, c1330, A1333, c1334, A1529, c1530, G1724, hG1725, hl1331, hD1332, hl1335, hD1336, hl1531, hD1532, ho1533, hReg1727, hI1726⟩) hDi hpre hpost
 cases (hpre 0 rfl).symm.trans hd2
 cases (hpre 2 rfl).symm.trans hd2
 obtain ⟨r0, rfl⟩ := Has.ex (cC (hReg1727.get 4 rfl (hpre 4 rfl)) cN)
 exact asn z<|nl ⟨z, (.inr (.inr ⟨hd1, A1329, c1330, A1333, c1334, A1529, c1530, _, hG1725, hl1331, hD1332, hl1335, hD1336, hl1531, hD1532, ho1533, (Regs.step hReg1727 hDi z z z z), hI1726⟩))⟩
 rintro D r wd1728 (⟨hd2, G1724, hG1725, hReg1727, hI1726⟩ | ⟨hd1, hd2, A1329, c1330, A1333, c1334, G1724, hG1725, hl1331, hD1332, hl1335, hD1336, hReg1727, hI1726⟩ | ⟨hd1, A1329, c1330, A1333, c1334, A1529, c1530, G1724, hG1725, hl1331, hD1332, hl1335, hD1336, hl1531, hD1532, ho1533, hReg1727, hI1726⟩) hDi hpre hpost
 cases (hpre 0 rfl).symm.trans hd2
 cases (hpre 2 rfl).symm.trans hd2
 obtain ⟨r0, rfl⟩ := Has.ex (cC (hReg1727.get 5 rfl (hpre 5 rfl)) cN)
 exact asn z<|nl ⟨z, (.inr (.inr ⟨hd1, A1329, c1330, A1333, c1334, A1529, c1530, _, hG1725, hl1331, hD1332, hl1335, hD1336, hl1531, hD1532, ho1533, (Regs.step hReg1727 hDi z z z z), hI1726⟩))⟩
 intro D r wd1728 hall hR
 rcases hR with ⟨hd2, G1724, hG1725, hReg1727, hI1726⟩ | ⟨hd1, hd2, A1329, c1330, A1333, c1334, G1724, hG1725, hl1331, hD1332, hl1335, hD1336, hReg1727, hI1726⟩ | ⟨hd1, A1329, c1330, A1333, c1334, A1529, c1530, G1724, hG1725, hl1331, hD1332, hl1335, hD1336, hl1531, hD1532, ho1533, hReg1727, hI1726⟩
 cases (hall 0 (Nat.le_of_ble_eq_true rfl)).symm.trans hd2
 cases (hall 2 (Nat.le_of_ble_eq_true rfl)).symm.trans hd2
 obtain ⟨r0, rfl⟩ := Has.ex (cC (hReg1727.ins.get 0 rfl) (cC (hReg1727.ins.get 1 rfl) (cC (hReg1727.ins.get 2 rfl) (cC (hReg1727.ins.get 3 rfl) (cC (hReg1727.ins.get 4 rfl) (cC (hReg1727.ins.get 5 rfl) (cC (hReg1727.ins.get 6 rfl) (cC (hReg1727.ins.get 7 rfl) (cC (hReg1727.ins.get 8 rfl) (cC (hReg1727.ins.get 9 rfl) (cC (hReg1727.ins.get 10 rfl) (cC (hReg1727.ins.get 11 rfl) (cC (hReg1727.get 7 rfl (hall 7 (Nat.le_of_ble_eq_true rfl))) cN)))))))))))))
 refine hK1318 _ _ _<|sr fun K1729 hK1730=>q_build (vs := []) (cs := [slice none 0 0, slice none 0 0]) ze25 pl25 z z<|lda hI1726 6 ag28 z z z z<|bK2 H fun y1736 y1737 hy1731 H=>cv bo11 (inline_Next_spec (a1 := (⟨([] : List api_Glyph), ([] : List api_Kern)⟩ : api_Font)) (a10 := (⟨2, 2, ([] : List ByteArray)⟩ : api_Breaks)) hy1731 hI1726 (show ([] : List api_Glyph).length ≤ 0 from Nat.le_refl 0) (Dat.nil _ _ _) (show ([] : List api_Kern).length ≤ 0 from Nat.le_refl 0) (Dat.nil _ _ _) (show ([] : List ByteArray).length ≤ 0 from Nat.le_refl 0) (Dat.nil _ _ _) (hgl.mono (gT (gT (gT (gT (gT hG427 hG847) hG1265) hG1273) hG1297) hG1725))) z z fun wd1734 hI1735=>mv z<|exk z z<|exk z z<|q_alloc hI1735 ze31 fun g1739 wd1740 hI1741=>stk hI1741 0 ag31 z z z z z z z fun wd1742 hI1743=>asn z<|nl<|hK1730 _ _ _<|?_
 refine sr fun K1744 hK1745=>mv z<|q_eql z z<|mv z<|bK H fun v1746 hC H=>?_
 refine jS 3 G1724 [(2, slice A231 y230.length c232), (4, slice A651 y650.length c652), (6, pointer (some ⟨g1259, 0, none⟩)), (7, int .i64 y1063), (8, string y1290), (9, int .i64 y1291), (10, int .i64 y1292), (12, int .i64 y1315), (13, int .i64 y1316), (15, int .i64 y1535), (17, int .i64 y1737), (71, bool v1746)] (bx g1739 [int .i64 y1736.From, int .i64 y1736.Until, int .i64 y1736.Width, bool y1736.Hyphen] 31 :: bx g1259 [int .i64 y1062.From, int .i64 y1062.Until, int .i64 y1062.Width, bool y1062.Hyphen] 31 :: bx g6 [int .i64 2, int .i64 2, slice none 0 0] 28 :: tk (slice A1529 y1528.length c1530) 4 31 :: tk (slice A651 y650.length c652) 4 31 :: tk (slice (some ⟨g639, 0, none⟩) ([40] : List Int).length 1) 1 3 :: tk (slice A231 y230.length c232) 4 31 :: tk (slice (some ⟨g219, 0, none⟩) ([50] : List Int).length 1) 1 3 :: L) ?_ fun _ wd1749 hI1750=>?_
 refine have H:=hC;dC (y237 = 0) (fun h1752=>?_) fun h1752=>?_
 refine yK h1752 H fun H=>mv (hw:=gY z z z (bY h1752)) z<|q_eql (hw:=gY z z z (bY h1752)) z z<|pkt (bY h1752) z<|nl<|have hI1753:=Hp.front hI1743 6 z;have hI1754:=Hp.front hI1753 6 z;have hI1755:=Hp.front hI1754 6 z;have hI1756:=Hp.front hI1755 6 z;have hI1757:=Hp.front hI1756 5 z;have hI1758:=Hp.front hI1757 7 z;have hI1759:=Hp.front hI1758 7 z;have hI1760:=Hp.front hI1759 7 z;?_
 cases H
 exact je ⟨z, z, z, z, z, z, z, z, z, z, z, z, tv⟩ hI1760
 refine nK h1752 H fun H=>Sk 2 z z (bN h1752) z<|pkf (bN h1752) z<|nl<|have hI1761:=Hp.front hI1743 6 z;have hI1762:=Hp.front hI1761 6 z;have hI1763:=Hp.front hI1762 6 z;have hI1764:=Hp.front hI1763 6 z;have hI1765:=Hp.front hI1764 5 z;have hI1766:=Hp.front hI1765 7 z;have hI1767:=Hp.front hI1766 7 z;have hI1768:=Hp.front hI1767 7 z;?_
 cases H
 exact je ⟨z, z, z, z, z, z, z, z, z, z, z, z, tv⟩ hI1768
 refine mv z<|bK H fun v1769 hC H=>?_
 refine js 3 hI1750 [(2, slice A231 y230.length c232), (4, slice A651 y650.length c652), (6, pointer (some ⟨g1259, 0, none⟩)), (8, string y1290), (9, int .i64 y1291), (10, int .i64 y1292), (12, int .i64 y1315), (13, int .i64 y1316), (15, int .i64 y1535), (17, int .i64 y1737), (75, bool v1769)] ?_ fun _ wd1772 hI1773=>?_
 refine have H:=hC;dC (v1746 = true) (fun h1775=>?_) fun h1775=>?_
 refine yK h1775 H fun H=>mv (hw:=gY z z z (vY h1775)) z<|q_eql (hw:=gY z z z (vY h1775)) z z<|pkt (vY h1775) z<|nl<|?_
 cases H
 exact je ⟨z, z, z, z, z, z, z, z, z, z, z, tv⟩ hI1750
 refine nK h1775 H fun H=>Sk 2 z z (vN h1775) z<|pkf (vN h1775) z<|nl<|?_
 cases H
 exact je ⟨z, z, z, z, z, z, z, z, z, z, z, tv⟩ hI1750
 refine mv z<|bK H fun v1776 hC H=>js 3 hI1773 [(2, slice A231 y230.length c232), (4, slice A651 y650.length c652), (6, pointer (some ⟨g1259, 0, none⟩)), (8, string y1290), (9, int .i64 y1291), (12, int .i64 y1315), (13, int .i64 y1316), (15, int .i64 y1535), (17, int .i64 y1737), (79, bool v1776)] ?_ fun _ wd1779 hI1780=>?_
 refine have H:=hC;dC (v1769 = true) (fun h1782=>?_) fun h1782=>?_
 refine yK h1782 H fun H=>mv (hw:=gY z z z (vY h1782)) z<|q_eql (hw:=gY z z z (vY h1782)) z z<|pkt (vY h1782) z<|nl<|?_
 cases H
 exact je ⟨z, z, z, z, z, z, z, z, z, z, tv⟩ hI1773
 refine nK h1782 H fun H=>Sk 2 z z (vN h1782) z<|pkf (vN h1782) z<|nl<|?_
 cases H
 exact je ⟨z, z, z, z, z, z, z, z, z, z, tv⟩ hI1773
 refine mv z<|bK H fun v1783 hC H=>js 3 hI1780 [(2, slice A231 y230.length c232), (4, slice A651 y650.length c652), (6, pointer (some ⟨g1259, 0, none⟩)), (8, string y1290), (9, int .i64 y1291), (12, int .i64 y1315), (15, int .i64 y1535), (17, int .i64 y1737), (83, bool v1783)] ?_ fun _ wd1786 hI1787=>?_
 refine have H:=hC;dC (v1776 = true) (fun h1789=>?_) fun h1789=>?_
 refine yK h1789 H fun H=>mv (hw:=gY z z z (vY h1789)) z<|q_eql (hw:=gY z z z (vY h1789)) z z<|pkt (vY h1789) z<|nl<|?_
 cases H
 exact je ⟨z, z, z, z, z, z, z, z, z, tv⟩ hI1780
 refine nK h1789 H fun H=>Sk 2 z z (vN h1789) z<|pkf (vN h1789) z<|nl<|?_
 cases H
 exact je ⟨z, z, z, z, z, z, z, z, z, tv⟩ hI1780
 refine mv z<|bK H fun v1790 hC H=>js 3 hI1787 [(2, slice A231 y230.length c232), (4, slice A651 y650.length c652), (6, pointer (some ⟨g1259, 0, none⟩)), (8, string y1290), (9, int .i64 y1291), (12, int .i64 y1315), (17, int .i64 y1737), (87, bool v1790)] ?_ fun _ wd1793 hI1794=>?_
 refine have H:=hC;dC (v1783 = true) (fun h1796=>?_) fun h1796=>?_
 refine yK h1796 H fun H=>mv (hw:=gY z z z (vY h1796)) z<|q_eql (hw:=gY z z z (vY h1796)) z z<|pkt (vY h1796) z<|nl<|?_
 cases H
 exact je ⟨z, z, z, z, z, z, z, z, tv⟩ hI1787
 refine nK h1796 H fun H=>Sk 2 z z (vN h1796) z<|pkf (vN h1796) z<|nl<|?_
 cases H
 exact je ⟨z, z, z, z, z, z, z, z, tv⟩ hI1787
 refine mv z<|bK H fun v1797 hC H=>js 3 hI1794 [(2, slice A231 y230.length c232), (4, slice A651 y650.length c652), (6, pointer (some ⟨g1259, 0, none⟩)), (8, string y1290), (9, int .i64 y1291), (12, int .i64 y1315), (91, bool v1797)] ?_ fun _ wd1800 hI1801=>?_
 refine have H:=hC;dC (v1790 = true) (fun h1803=>?_) fun h1803=>?_
 refine yK h1803 H fun H=>mv (hw:=gY z z z (vY h1803)) z<|q_eql (hw:=gY z z z (vY h1803)) z z<|pkt (vY h1803) z<|nl<|?_
 cases H
 exact je ⟨z, z, z, z, z, z, z, tv⟩ hI1794
 refine nK h1803 H fun H=>Sk 2 z z (vN h1803) z<|pkf (vN h1803) z<|nl<|?_
 cases H
 exact je ⟨z, z, z, z, z, z, z, tv⟩ hI1794
 refine asn z<|nl<|hK1745 _ _ _<|sr fun K1804 hK1805=>mv z<|mv z<|bK H fun v1806 hC H=>js 6 hI1801 [(4, slice A651 y650.length c652), (6, pointer (some ⟨g1259, 0, none⟩)), (8, string y1290), (9, int .i64 y1291), (12, int .i64 y1315), (99, bool v1806)] ?_ fun _ wd1809 hI1810=>?_
 refine have H:=hC;dC (v1797 = true) (fun h1812=>?_) fun h1812=>?_
 refine yK h1812 H fun H=>mv (hw:=gY z z z (vY h1812)) z<|q_build (hw:=gY z z z (vY h1812)) (vs := [(0, int .i64 0), (1, int .i64 6), (2, int .i64 50)]) (cs := [int .i64 0, int .i64 6, int .i64 50, bool false]) ze31 pl31 z z<|q_build (hw:=gY z z z (vY h1812)) (vs := [(0, int .i64 6), (1, int .i64 8), (2, int .i64 20)]) (cs := [int .i64 6, int .i64 8, int .i64 20, bool false]) ze31 pl31 z z<|?_
 refine q_bs hI1801 (vs := [(0, agg [int .i64 0, int .i64 6, int .i64 50, bool false].toArray), (1, agg [int .i64 6, int .i64 8, int .i64 20, bool false].toArray)]) (cs := [int .i64 0, int .i64 6, int .i64 50, bool false, int .i64 6, int .i64 8, int .i64 20, bool false]) el37 ze31 rfl (by decide) rfl rfl (fun g1814 wd1815 hI1816 => ?_) (hw := gY rfl rfl rfl (bval_yes h1812))
 obtain ⟨G1817, hG1818, hI1820, hD1819⟩ := Hp.publish (xs := ([(⟨0, 6, 50, false⟩ : api_Line), (⟨6, 8, 20, false⟩ : api_Line)] : List api_Line)) (n := 2) k_api_Line hI1816 ⟨[int .i64 0, int .i64 6, int .i64 50, bool false], _, rfl, (mk_api_Line (x := (⟨0, 6, 50, false⟩ : api_Line))), ⟨[int .i64 6, int .i64 8, int .i64 20, bool false], _, rfl, (mk_api_Line (x := (⟨6, 8, 20, false⟩ : api_Line))), rfl⟩⟩ rfl
 refine bK H fun y1826 hy1821 H=>cv (hw:=gY z z z (vY h1812)) bo15 (formeref17_Same_spec (a6 := ([(⟨0, 6, 50, false⟩ : api_Line), (⟨6, 8, 20, false⟩ : api_Line)] : List api_Line)) hy1821 hI1820 hl233 (Dat.mono (gT (gT (gT (gT (gT hG847 hG1265) hG1273) hG1297) hG1725) hG1818) hD234) (show ([(⟨0, 6, 50, false⟩ : api_Line), (⟨6, 8, 20, false⟩ : api_Line)] : List api_Line).length ≤ 2 from Nat.le_of_ble_eq_true z) hD1819) z z fun wd1824 hI1825=>pkt (vY h1812) z<|nl<|have hI1827:=Hp.front hI1825 8 z;have hI1828:=Hp.front hI1827 8 z;have hI1829:=Hp.front hI1828 8 z;have hI1830:=Hp.front hI1829 8 z;have hI1831:=Hp.front hI1830 8 z;have hI1832:=Hp.front hI1831 8 z;have hI1833:=Hp.front hI1832 8 z;have hI1834:=Hp.front hI1833 8 z;have hI1835:=Hp.sub hI1834 (sk (sk (sk (sk (sk (sk (sk (sk (sd se)))))))));?_
 cases H
 exact je ⟨z, z, z, z, z, z, tv⟩ (Hp.low hG1818 hI1835)
 refine nK h1812 H fun H=>Sk 5 z z (vN h1812) z<|pkf (vN h1812) z<|nl<|?_
 cases H
 exact je ⟨z, z, z, z, z, z, tv⟩ hI1801
 refine mv z<|bK H fun v1836 hC H=>js 4 hI1810 [(6, pointer (some ⟨g1259, 0, none⟩)), (8, string y1290), (9, int .i64 y1291), (12, int .i64 y1315), (104, bool v1836)] ?_ fun _ wd1839 hI1840=>?_
 refine have H:=hC;dC (v1806 = true) (fun h1842=>?_) fun h1842=>?_
 refine yK h1842 H fun H=>mv (hw:=gY z z z (vY h1842)) z<|q_len (hw:=gY z z z (vY h1842)) so37 z<|q_eql (hw:=gY z z z (vY h1842)) z z<|pkt (vY h1842) z<|nl<|?_
 cases H
 exact je ⟨z, z, z, z, z, tv⟩ hI1810
 refine nK h1842 H fun H=>Sk 3 z z (vN h1842) z<|pkf (vN h1842) z<|nl<|?_
 cases H
 exact je ⟨z, z, z, z, z, tv⟩ hI1810
 refine asn z<|nl<|hK1805 _ _ _<|sr fun K1843 hK1844=>mv z<|mv z<|bK H fun v1845 hC H=>js 4 hI1840 [(8, string y1290), (9, int .i64 y1291), (12, int .i64 y1315), (110, bool v1845)] ?_ fun _ wd1848 hI1849=>?_
 refine have H:=hC;dC (v1836 = true) (fun h1851=>?_) fun h1851=>?_
 refine yK h1851 H fun H=>lda (hw:=gY z z z (vY h1851)) hI1840 1 ag31 z z z z<|q_build (hw:=gY z z z (vY h1851)) (vs := [(0, int .i64 0), (1, int .i64 3), (2, int .i64 30), (3, bool true)]) (cs := [int .i64 0, int .i64 3, int .i64 30, bool true]) ze31 pl31 z z<|q_st_eql (hw:=gY z z z (vY h1851)) (q := y1062 = (⟨0, 3, 30, true⟩ : api_Line)) z z eqg_api_Line (eqs_api_Line y1062 (⟨0, 3, 30, true⟩ : api_Line)) (eqd_api_Line _ _)<|pkt (vY h1851) z<|nl<|?_
 cases H
 exact je ⟨z, z, z, z, tv⟩ hI1840
 refine nK h1851 H fun H=>Sk 3 z z (vN h1851) z<|pkf (vN h1851) z<|nl<|?_
 cases H
 exact je ⟨z, z, z, z, tv⟩ hI1840
 refine mv z<|bK H fun v1852 hC H=>js 3 hI1849 [(9, int .i64 y1291), (12, int .i64 y1315), (114, bool v1852)] ?_ fun _ wd1855 hI1856=>?_
 refine have H:=hC;dC (v1845 = true) (fun h1858=>?_) fun h1858=>?_
 refine yK h1858 H fun H=>mv (hw:=gY z z z (vY h1858)) z<|q_str_eql (hw:=gY z z z (vY h1858)) z z<|pkt (vY h1858) z<|nl<|?_
 cases H
 exact je ⟨z, z, z, tv⟩ hI1849
 refine nK h1858 H fun H=>Sk 2 z z (vN h1858) z<|pkf (vN h1858) z<|nl<|?_
 cases H
 exact je ⟨z, z, z, tv⟩ hI1849
 refine mv z<|bK H fun v1859 hC H=>js 3 hI1856 [(12, int .i64 y1315), (118, bool v1859)] ?_ fun _ wd1862 hI1863=>?_
 refine have H:=hC;dC (v1852 = true) (fun h1865=>?_) fun h1865=>?_
 refine yK h1865 H fun H=>mv (hw:=gY z z z (vY h1865)) z<|q_eql (hw:=gY z z z (vY h1865)) z z<|pkt (vY h1865) z<|nl<|?_
 cases H
 exact je ⟨z, z, tv⟩ hI1856
 refine nK h1865 H fun H=>Sk 2 z z (vN h1865) z<|pkf (vN h1865) z<|nl<|?_
 cases H
 exact je ⟨z, z, tv⟩ hI1856
 refine mv z<|bK H fun v1866 hC H=>js 3 hI1863 [(122, bool v1866)] ?_ fun _ wd1869 hI1870=>?_
 refine have H:=hC;dC (v1859 = true) (fun h1872=>?_) fun h1872=>?_
 refine yK h1872 H fun H=>mv (hw:=gY z z z (vY h1872)) z<|q_eql (hw:=gY z z z (vY h1872)) z z<|pkt (vY h1872) z<|nl<|?_
 cases H
 exact je ⟨z, tv⟩ hI1863
 refine nK h1872 H fun H=>Sk 2 z z (vN h1872) z<|pkf (vN h1872) z<|nl<|?_
 cases H
 exact je ⟨z, tv⟩ hI1863
 refine asn z<|nl<|hK1844 _ _ _<|wr<|have hI1873:=Hp.sub hI1870 (sd (sd (sd (sd (sd (sd (sd (sd se))))))));?_
 cases H
 exact rt ⟨_, _, z, z, z⟩ (Hp.low (gT (gT (gT (gT (gT hG427 hG847) hG1265) hG1273) hG1297) hG1725) hI1873)
theorem formeref07_Few_spec {a1 A2 c3 A6 c7 r1010 G L w} (H : formeref07_Few a1 = some r1010) (hI : Hp G L w) (hl4 : a1.Glyphs.length ≤ c3) (hD5 : Dat k_api_Glyph G A2 a1.Glyphs) (hl8 : a1.Kerns.length ≤ c7) (hD9 : Dat k_api_Kern G A6 a1.Kerns) :
    Calls Tryz.prog 24 [agg [slice A2 a1.Glyphs.length c3, slice A6 a1.Kerns.length c7].toArray].toArray w fun e w' => Hp G L w' ∧ e = .returned (bool r1010) := by
 refine calls_intro (N := 13) Tryz.func24 z z (Nat.le_of_ble_eq_true z)<|?_
 unfold formeref07_Few at H
 refine sr fun K10 hK11=>bxk hI z z fun g13 wd14 hI15=>asn z<|nl<|hK11 _ _ _<|sr fun K16 hK17=>fa fl25_0 z<|ld hI15 0 ag22 z z z<|q_len so22 z<|q_leq z z<|mv z<|bK H fun v18 hC H=>js 5 hI15 [(12, bool v18)] ?_ fun _ wd21 hI22=>?_
 refine have H:=hC;dC ((a1.Glyphs.length : Int) ≤ 100) (fun h24=>?_) fun h24=>?_
 refine yK h24 H fun H=>fa (hw:=gY z z z (bY h24)) fl25_1 z<|ld (hw:=gY z z z (bY h24)) hI15 0 ag23 z z z<|q_len (hw:=gY z z z (bY h24)) so23 z<|q_leq (hw:=gY z z z (bY h24)) z z<|pkt (bY h24) z<|nl<|?_
 cases H
 exact je ⟨z, tv⟩ hI15
 refine nK h24 H fun H=>Sk 4 z z (bN h24) z<|pkf (bN h24) z<|nl<|?_
 cases H
 exact je ⟨z, tv⟩ hI15
 refine asn z<|nl<|hK17 _ _ _<|wr<|have hI25:=Hp.sub hI22 (sd se);?_
 cases H
 exact rt ⟨_, _, z, z, z⟩ hI25
theorem formelaw17_few_spec {a1 a10 a15 A2 c3 A6 c7 A11 c12 r1016 G L w} (H : formelaw17_few a1 a10 a15 = some r1016) (hI : Hp G L w) (hl4 : a1.Glyphs.length ≤ c3) (hD5 : Dat k_api_Glyph G A2 a1.Glyphs) (hl8 : a1.Kerns.length ≤ c7) (hD9 : Dat k_api_Kern G A6 a1.Kerns) (hl13 : a10.Keep.length ≤ c12) (hD14 : Dat Kd.str G A11 a10.Keep) :
    Calls Tryz.prog 10 [agg [slice A2 a1.Glyphs.length c3, slice A6 a1.Kerns.length c7].toArray, agg [int .i64 a10.Before, int .i64 a10.Behind, slice A11 a10.Keep.length c12].toArray, string a15].toArray w fun e w' => Hp G L w' ∧ e = .returned (bool r1016) := by
 refine calls_intro (N := 30) Tryz.func10 z z (Nat.le_of_ble_eq_true z)<|?_
 unfold formelaw17_few at H
 refine sr fun K16 hK17=>bxk hI z z fun g19 wd20 hI21=>bxk hI21 z z fun g23 wd24 hI25=>asn z<|nl<|hK17 _ _ _<|sr fun K26 hK27=>lda hI25 1 ag25 z z z z<|bK H fun y33 hy28 H=>cv bo24 (formeref07_Few_spec hy28 hI25 hl4 hD5 hl8 hD9) z z fun wd31 hI32=>mv z<|bK H fun v34 hC H=>js 5 hI32 [(2, string a15), (14, bool v34)] ?_ fun _ wd37 hI38=>?_
 refine have H:=hC;dC (y33 = true) (fun h40=>?_) fun h40=>?_
 refine yK h40 H fun H=>fa (hw:=gY z z z (vY h40)) fl28_2 z<|ld (hw:=gY z z z (vY h40)) hI32 0 ag26 z z z<|q_len (hw:=gY z z z (vY h40)) so26 z<|q_leq (hw:=gY z z z (vY h40)) z z<|pkt (vY h40) z<|nl<|?_
 cases H
 exact je ⟨z, z, tv⟩ hI32
 refine nK h40 H fun H=>Sk 4 z z (vN h40) z<|pkf (vN h40) z<|nl<|?_
 cases H
 exact je ⟨z, z, tv⟩ hI32
 refine mv z<|bK H fun v41 hC H=>js 14 hI38 [(29, bool v41)] ?_ fun _ wd44 hI45=>?_
 refine have H:=hC;dC (v34 = true) (fun h47=>?_) fun h47=>?_
 refine yK h47 H fun H=>mv (hw:=gY z z z (vY h47)) z<|q_lens (hw:=gY z z z (vY h47)) so9 z<|q_leq (hw:=gY z z z (vY h47)) z z<|mv (hw:=gY z z z (vY h47)) z<|bK H fun v48 hC H=>js 9 hI38 [(15, bool v34), (28, bool v48)] ?_ fun _ wd51 hI52=>?_
 refine have H:=hC;dC ((a15.size : Int) ≤ 60) (fun h54=>?_) fun h54=>?_
 refine yK h54 H fun H=>Sk 4 z z (bY h54) z<|Su 3 z<|wN (gN z z z (bY h54) z)<|pkt (hw:=gY z z z (vY h47)) (bY h54) z<|nl<|?_
 cases H
 exact je ⟨z, z, tv⟩ hI38
 refine nK h54 H fun H=>mv (hw:=gY z z z (bN h54)) z<|q_lens (hw:=gY z z z (bN h54)) so9 z<|q_gtr (hw:=gY z z z (bN h54)) z z<|mv (hw:=gY z z z (bN h54)) z<|bK H fun v55 hC H=>js 4 hI38 [(15, bool v34), (19, bool (decide ((a15.size : Int) ≤ 60))), (27, bool v55)] ?_ fun _ wd58 hI59=>?_
 refine have H:=hC;dC (2000 < (a15.size : Int)) (fun h61=>?_) fun h61=>?_
 refine yK h61 H fun H=>mv (hw:=gY z z z (bY h61)) z<|q_lens (hw:=gY z z z (bY h61)) so9 z<|q_lss (hw:=gY z z z (bY h61)) z z<|pkt (hw:=gY z z z (bN h54)) (bY h61) z<|nl<|?_
 cases H
 exact je ⟨z, z, z, tv⟩ hI38
 refine nK h61 H fun H=>Sk 3 z z (bN h61) z<|pkf (hw:=gY z z z (bN h54)) (bN h61) z<|nl<|?_
 cases H
 exact je ⟨z, z, z, tv⟩ hI38
 refine pkf (hw:=gY z z z (vY h47)) (bN h54) z<|nl<|?_
 cases H
 exact je ⟨z, z, tv⟩ hI59
 refine pkt (vY h47) z<|nl<|?_
 cases H
 exact je ⟨z, tv⟩ hI52
 refine nK h47 H fun H=>Sk 4 z z (vN h47) z<|Su 8 z<|wN (gN z z z (vN h47) z)<|pkf (vN h47) z<|nl<|?_
 cases H
 exact je ⟨z, tv⟩ hI38
 refine asn z<|nl<|hK27 _ _ _<|wr<|have hI62:=Hp.sub hI45 (sd (sd se));?_
 cases H
 exact rt ⟨_, _, z, z, z⟩ hI62
theorem formeref17_room_spec {a1 r1002 G L w} (H : formeref17_room a1 = some r1002) (hI : Hp G L w) :
    Calls Tryz.prog 28 [int .i64 a1].toArray w fun e w' => Hp G L w' ∧ e = .returned (bool r1002) := by
 refine calls_intro (N := 9) Tryz.func28 z z (Nat.le_of_ble_eq_true z)<|?_
 unfold formeref17_room at H
 refine sr fun K2 hK3=>asn z<|nl<|hK3 _ _ _<|sr fun K4 hK5=>mv z<|q_geq z z<|mv z<|bK H fun v6 hC H=>js 3 hI [(8, bool v6)] ?_ fun _ wd9 hI10=>?_
 refine have H:=hC;dC (0 ≤ a1) (fun h12=>?_) fun h12=>?_
 refine yK h12 H fun H=>mv (hw:=gY z z z (bY h12)) z<|q_leq (hw:=gY z z z (bY h12)) z z<|pkt (bY h12) z<|nl<|?_
 cases H
 exact je ⟨z, tv⟩ hI
 refine nK h12 H fun H=>Sk 2 z z (bN h12) z<|pkf (bN h12) z<|nl<|?_
 cases H
 exact je ⟨z, tv⟩ hI
 refine asn z<|nl<|hK5 _ _ _<|wr<|?_
 cases H
 exact rt ⟨_, _, z, z, z⟩ hI10
theorem formeref07_Glyph_spec {a1 a10 A2 c3 A6 c7 r1011 G L w} (H : formeref07_Glyph a1 a10 = some r1011) (hI : Hp G L w) (hl4 : a1.Glyphs.length ≤ c3) (hD5 : Dat k_api_Glyph G A2 a1.Glyphs) (hl8 : a1.Kerns.length ≤ c7) (hD9 : Dat k_api_Kern G A6 a1.Kerns) :
    Calls Tryz.prog 74 [agg [slice A2 a1.Glyphs.length c3, slice A6 a1.Kerns.length c7].toArray, int .u8 a10].toArray w fun e w' => Hp G L w' ∧ e = .returned (int .i64 r1011) := by
 refine calls_intro (N := 22) Tryz.func74 z z (Nat.le_of_ble_eq_true z)<|?_
 unfold formeref07_Glyph at H
 refine sr fun K11 hK12=>bxk hI z z fun g14 wd15 hI16=>asn z<|nl<|hK12 _ _ _<|sQ fun K17 hK18=>sr fun K19 hK20=>asn z<|nl<|hK20 _ _ _<|wb<|bK H fun o41 hC H=>?_
 refine wpc_mono (Q := fun e r ds w => match (generalizing := false) o41 with | (Sum.inl v32) => e = .ret ∧ ds = [] ∧ Has [(4, int .i64 v32)] r ∧ Hp G (bx g14 [slice A2 a1.Glyphs.length c3, slice A6 a1.Kerns.length c7] 25 :: L) w ∧ True | (Sum.inr _) => e = .exit 0 ∧ ds = [] ∧ Has [] r ∧ Hp G (bx g14 [slice A2 a1.Glyphs.length c3, slice A6 a1.Kerns.length c7] 25 :: L) w ∧ True) ?_ ?_
 refine wpc_loop fun I hLp=>?_
 refine formeref07_Glyph_l31.partial_correctness a1 a10 (fun v25 o => ∀ (r : Rg) (w : World), Has [(1, int .u8 a10), (2, pointer (some ⟨g14, 0, none⟩)), (5, int .i64 v25)] r → Hp G (bx g14 [slice A2 a1.Glyphs.length c3, slice A6 a1.Kerns.length c7] 25 :: L) w → o = o41 → I r [] w) ?_ 0 _ hC _ _ ⟨rfl, rfl, rfl, tv⟩ hI16 rfl
 intro _ ih v25 o H r wd44 hHas hI45 ho
 rw [ho] at H; clear ho
 rw [hHas.eq]; clear hHas
 refine hLp _ _ _<|sQ fun K46 hK47=>sr fun K48 hK49=>mv z<|fa fl25_0 z<|ld hI45 0 ag22 z z z<|q_len so22 z<|q_lss z z<|nl<|hK49 _ _ _<|dC (v25 < (a1.Glyphs.length : Int)) (fun h50=>?_) fun h50=>?_
 refine yK h50 H fun H=>wt (bY h50)<|ws<|hK47 _ _ _<|sQ fun K51 hK52=>wb<|sr fun K53 hK54=>fa fl25_0 z<|ld hI45 0 ag22 z z z<|mv z<|iK H fun⟨h55, h55'⟩H=>?_
 obtain ⟨ad56, cs57, hA58, hK59, hn60, hc61⟩ := Dat.get hD5 z_api_Glyph (v25) h55 h55'
 obtain ⟨rfl⟩ := open_api_Glyph hK59
 refine q_ia el22 z hA58 z h55 h55'<|q_fa fl98_0 z z<|q_lf hI45 ag5 z (gR.cel _ _ (hc61 0 _ z))<|mv z<|q_eql z z<|nl<|hK54 _ _ _<|dC (((a1.Glyphs.getD (Int.toNat v25) z_api_Glyph).Byte) = a10) (fun h62=>?_) fun h62=>?_
 refine yK h62 H fun H=>wt (bY h62)<|sr fun K63 hK64=>mv z<|asn z<|nl<|hK64 _ _ _<|wr<|?_
 cases H
 exact ⟨z, z, ⟨z, tv⟩, hI45, tv⟩
 exact nK h62 H fun H=>wf (bN h62)<|ws<|hK52 _ _ _<|wpc_region<|mv z<|q_add z z<|asn z<|nl<|ih _ _ H _ _ ⟨z, z, z, tv⟩ hI45 z
 refine nK h50 H fun H=>wf (bN h50)<|wx<|?_
 cases H
 exact ⟨z, z, trivial, hI45, tv⟩
 rcases o41 with v32 | _
 rintro e r ds wd35 ⟨rfl, rfl, hHas, hI36, _⟩
 rw [hHas.eq]; clear hHas
 refine have hI65:=Hp.sub hI36 (sd se);?_
 cases H
 exact rt ⟨_, _, z, z, z⟩ hI65
 rintro e r ds wd39 ⟨rfl, rfl, hHas, hI40, _⟩
 rw [hHas.eq]; clear hHas
 refine hK18 _ _ _<|sr fun K66 hK67=>asn z<|nl<|hK67 _ _ _<|wr<|have hI68:=Hp.sub hI40 (sd se);?_
 cases H
 exact rt ⟨_, _, z, z, z⟩ hI68
theorem formeref07_Valid_spec {a1 A2 c3 A6 c7 r1010 G L w} (H : formeref07_Valid a1 = some r1010) (hI : Hp G L w) (hl4 : a1.Glyphs.length ≤ c3) (hD5 : Dat k_api_Glyph G A2 a1.Glyphs) (hl8 : a1.Kerns.length ≤ c7) (hD9 : Dat k_api_Kern G A6 a1.Kerns) :
    Calls Tryz.prog 40 [agg [slice A2 a1.Glyphs.length c3, slice A6 a1.Kerns.length c7].toArray].toArray w fun e w' => Hp G L w' ∧ e = .returned (bool r1010) := by
 refine calls_intro (N := 151) Tryz.func40 z z (Nat.le_of_ble_eq_true z)<|?_
 unfold formeref07_Valid at H
 refine sr fun K10 hK11=>bxk hI z z fun g13 wd14 hI15=>asn z<|nl<|hK11 _ _ _<|sQ fun K16 hK17=>sr fun K18 hK19=>fa fl25_0 z<|ld hI15 0 ag22 z z z<|q_len so22 z<|q_gtr z z<|mv z<|bK H fun v20 hC H=>js 5 hI15 [(1, pointer (some ⟨g13, 0, none⟩)), (18, bool v20)] ?_ fun _ wd23 hI24=>?_
 refine have H:=hC;dC (94 < (a1.Glyphs.length : Int)) (fun h26=>?_) fun h26=>?_
 refine yK h26 H fun H=>Sk 4 z z (bY h26) z<|pkt (bY h26) z<|nl<|?_
 cases H
 exact je ⟨z, z, tv⟩ hI15
 refine nK h26 H fun H=>fa (hw:=gY z z z (bN h26)) fl25_1 z<|ld (hw:=gY z z z (bN h26)) hI15 0 ag23 z z z<|q_len (hw:=gY z z z (bN h26)) so23 z<|q_gtr (hw:=gY z z z (bN h26)) z z<|pkf (bN h26) z<|nl<|?_
 cases H
 exact je ⟨z, z, tv⟩ hI15
 refine nl<|hK19 _ _ _<|dC (v20 = true) (fun h27=>?_) fun h27=>?_
 refine yK h27 H fun H=>wt (vY h27)<|sr fun K28 hK29=>asn z<|nl<|hK29 _ _ _<|wr<|have hI30:=Hp.sub hI24 (sd se);?_
 cases H
 exact rt ⟨_, _, z, z, z⟩ hI30
 refine nK h27 H fun H=>wf (vN h27)<|ws<|hK17 _ _ _<|sQ fun K31 hK32=>sr fun K33 hK34=>asn z<|nl<|hK34 _ _ _<|wb<|bK H fun o54 hC H=>?_
 refine wpc_mono (Q := fun e r ds w => match (generalizing := false) o54 with | (Sum.inl _) => e = .ret ∧ ds = [] ∧ Has [(2, bool false)] r ∧ Hp G (bx g13 [slice A2 a1.Glyphs.length c3, slice A6 a1.Kerns.length c7] 25 :: L) w ∧ True | (Sum.inr _) => e = .exit 0 ∧ ds = [] ∧ Has [(1, pointer (some ⟨g13, 0, none⟩))] r ∧ Hp G (bx g13 [slice A2 a1.Glyphs.length c3, slice A6 a1.Kerns.length c7] 25 :: L) w ∧ True) ?_ ?_
 refine wpc_loop fun I hLp=>?_
 refine formeref07_Valid_l45.partial_correctness a1 (fun v39 o => ∀ (r : Rg) (w : World), Has [(1, pointer (some ⟨g13, 0, none⟩)), (3, int .i64 v39)] r → Hp G (bx g13 [slice A2 a1.Glyphs.length c3, slice A6 a1.Kerns.length c7] 25 :: L) w → o = o54 → I r [] w) ?_ 0 _ hC _ _ ⟨rfl, rfl, tv⟩ hI24 rfl
 intro _ ih v39 o H r wd57 hHas hI58 ho
 rw [ho] at H; clear ho
 rw [hHas.eq]; clear hHas
 refine hLp _ _ _<|sQ fun K59 hK60=>sr fun K61 hK62=>mv z<|fa fl25_0 z<|ld hI58 0 ag22 z z z<|q_len so22 z<|q_lss z z<|nl<|hK62 _ _ _<|dC (v39 < (a1.Glyphs.length : Int)) (fun h63=>?_) fun h63=>?_
 refine yK h63 H fun H=>wt (bY h63)<|ws<|hK60 _ _ _<|sQ fun K64 hK65=>wb<|sr fun K66 hK67=>fa fl25_0 z<|ld hI58 0 ag22 z z z<|mv z<|iK H fun⟨h68, h68'⟩H=>?_
 obtain ⟨ad69, cs70, hA71, hK72, hn73, hc74⟩ := Dat.get hD5 z_api_Glyph (v39) h68 h68'
 obtain ⟨rfl⟩ := open_api_Glyph hK72
 refine q_ia el22 z hA71 z h68 h68'<|q_lfA hI58 ag98 z (cs := [int .u8 ((a1.Glyphs.getD (Int.toNat v39) z_api_Glyph).Byte), int .i64 ((a1.Glyphs.getD (Int.toNat v39) z_api_Glyph).Advance)]) z (fun j v hv => gR.cel _ _ (hc74 j v hv))<|q_alloc hI58 ze98 fun g76 wd77 hI78=>stk hI78 0 ag98 z z z z z z z fun wd79 hI80=>nl<|hK67 _ _ _<|sQ fun K81 hK82=>bK H fun v83 hC H=>jc .normal hI80 [(1, pointer (some ⟨g13, 0, none⟩)), (3, int .i64 v39), (64, bool v83)] ?_ fun _ wd86 hI87=>?_
 refine have H:=hC;?_
 refine wpc_quiet mixo (by kernel_rfl) ?_
 refine have hI89:=hI80.drew;wq (fa fl98_0 z wqd) z<|wq (ld hI89 0 ag5 z z z wqd) z<|wq (q_lss z z wqd) z<|wq (mv z wqd) z<|dC (((a1.Glyphs.getD (Int.toNat v39) z_api_Glyph).Byte) < 32) (fun h90=>?_) fun h90=>?_
 refine yK h90 H fun H=>wq (wN (gN z z z (bY h90) z) wqd) z<|wq (wN (gN z z z (bY h90) z) wqd) z<|wq (wN (gN z z z (bY h90) z) wqd) z<|wq (pkt (bY h90) z wqd) z<|wq (mv z wqd) z<|wq (wN (gN z z z z z) wqd) z<|wq (wN (gN z z z z z) wqd) z<|wq (wN (gN z z z z z) wqd) z<|wq (pkt z z wqd) z<|wq (mv z wqd) z<|wq (wN (gN z z z z z) wqd) z<|wq (wN (gN z z z z z) wqd) z<|wq (wN (gN z z z z z) wqd) z<|?_
 refine wq (pkt z z wqd) z<|wq (mv z wqd) z<|wq (wN (gN z z z z z) wqd) z<|wq (wN (gN z z z z z) wqd) z<|wq (wN (gN z z z z z) wqd) z<|wq (wN (gN z z z z z) wqd) z<|wq (wN (gN z z z z z) wqd) z<|wq (wN (gN z z z z z) wqd) z<|wq (wN (gN z z z z z) wqd) z<|wq (wN (gN z z z z z) wqd) z<|wq (wN (gN z z z z z) wqd) z<|wq (wN (gN z z z z z) wqd) z<|wq (wN (gN z z z z z) wqd) z<|wq (wN (gN z z z z z) wqd) z<|?_
 refine wq (wN (gN z z z z z) wqd) z<|wq (wN (gN z z z z z) wqd) z<|wq (pkt z z wqd) z<|wqq_nil<|?_
 cases H
 exact je ⟨z, z, z, tv⟩ hI89
 refine nK h90 H fun H=>wq (fa (hw:=gY z z z (bN h90)) fl98_0 z wqd) z<|wq (ld (hw:=gY z z z (bN h90)) hI89 0 ag5 z z z wqd) z<|wq (q_gtr (hw:=gY z z z (bN h90)) z z wqd) z<|wq (pkf (bN h90) z wqd) z<|wq (mv z wqd) z<|dC (125 < ((a1.Glyphs.getD (Int.toNat v39) z_api_Glyph).Byte)) (fun h91=>?_) fun h91=>?_
 refine yK h91 H fun H=>wq (wN (gN z z z (bY h91) z) wqd) z<|wq (wN (gN z z z (bY h91) z) wqd) z<|wq (wN (gN z z z (bY h91) z) wqd) z<|wq (pkt (bY h91) z wqd) z<|wq (mv z wqd) z<|wq (wN (gN z z z z z) wqd) z<|wq (wN (gN z z z z z) wqd) z<|wq (wN (gN z z z z z) wqd) z<|wq (pkt z z wqd) z<|wq (mv z wqd) z<|wq (wN (gN z z z z z) wqd) z<|wq (wN (gN z z z z z) wqd) z<|wq (wN (gN z z z z z) wqd) z<|?_
 refine wq (wN (gN z z z z z) wqd) z<|wq (wN (gN z z z z z) wqd) z<|wq (wN (gN z z z z z) wqd) z<|wq (wN (gN z z z z z) wqd) z<|wq (wN (gN z z z z z) wqd) z<|wq (wN (gN z z z z z) wqd) z<|wq (wN (gN z z z z z) wqd) z<|wq (wN (gN z z z z z) wqd) z<|wq (wN (gN z z z z z) wqd) z<|wq (wN (gN z z z z z) wqd) z<|wq (wN (gN z z z z z) wqd) z<|wq (pkt z z wqd) z<|wqq_nil<|?_
 cases H
 exact je ⟨z, z, z, tv⟩ hI89
 refine nK h91 H fun H=>wq (fa (hw:=gY z z z (bN h91)) fl98_1 z wqd) z<|wq (ld (hw:=gY z z z (bN h91)) hI89 0 ag3 z z z wqd) z<|wq (q_lss (hw:=gY z z z (bN h91)) z z wqd) z<|wq (pkf (bN h91) z wqd) z<|wq (mv z wqd) z<|dC (((a1.Glyphs.getD (Int.toNat v39) z_api_Glyph).Advance) < 0) (fun h92=>?_) fun h92=>?_
 refine yK h92 H fun H=>wq (wN (gN z z z (bY h92) z) wqd) z<|wq (wN (gN z z z (bY h92) z) wqd) z<|wq (wN (gN z z z (bY h92) z) wqd) z<|wq (pkt (bY h92) z wqd) z<|wq (mv z wqd) z<|wq (wN (gN z z z z z) wqd) z<|wq (wN (gN z z z z z) wqd) z<|wq (wN (gN z z z z z) wqd) z<|wq (wN (gN z z z z z) wqd) z<|wq (wN (gN z z z z z) wqd) z<|wq (wN (gN z z z z z) wqd) z<|wq (wN (gN z z z z z) wqd) z<|wq (wN (gN z z z z z) wqd) z<|?_
 refine wq (wN (gN z z z z z) wqd) z<|wq (wN (gN z z z z z) wqd) z<|wq (wN (gN z z z z z) wqd) z<|wq (wN (gN z z z z z) wqd) z<|wq (wN (gN z z z z z) wqd) z<|wq (wN (gN z z z z z) wqd) z<|wq (pkt z z wqd) z<|wqq_nil<|?_
 cases H
 exact je ⟨z, z, z, tv⟩ hI89
 refine nK h92 H fun H=>wq (fa (hw:=gY z z z (bN h92)) fl98_1 z wqd) z<|wq (ld (hw:=gY z z z (bN h92)) hI89 0 ag3 z z z wqd) z<|wq (q_gtr (hw:=gY z z z (bN h92)) z z wqd) z<|wq (pkf (bN h92) z wqd) z<|wq (mv z wqd) z<|dC (1000 < ((a1.Glyphs.getD (Int.toNat v39) z_api_Glyph).Advance)) (fun h93=>?_) fun h93=>?_
 refine yK h93 H fun H=>wq (wN (gN z z z (bY h93) z) wqd) z<|wq (wN (gN z z z (bY h93) z) wqd) z<|wq (wN (gN z z z (bY h93) z) wqd) z<|wq (wN (gN z z z z z) wqd) z<|wq (wN (gN z z z z z) wqd) z<|wq (wN (gN z z z z z) wqd) z<|wq (wN (gN z z z z z) wqd) z<|wq (wN (gN z z z z z) wqd) z<|wq (wN (gN z z z z z) wqd) z<|wq (wN (gN z z z z z) wqd) z<|wq (wN (gN z z z z z) wqd) z<|wq (wN (gN z z z z z) wqd) z<|wq (wN (gN z z z z z) wqd) z<|?_
 refine wq (wN (gN z z z (bY h93) z) wqd) z<|wq (pkt (bY h93) z wqd) z<|wqq_nil<|?_
 cases H
 exact je ⟨z, z, z, tv⟩ hI89
 refine nK h93 H fun H=>wq (mv (hw:=gY z z z (bN h93)) z wqd) z<|wq (q_gtr (hw:=gY z z z (bN h93)) z z wqd) z<|wq (mv (hw:=gY z z z (bN h93)) z wqd) z<|dC (0 < v39) (fun h94=>?_) fun h94=>?_
 refine yK h94 H fun H=>wq (fa (hw:=gY z z z (bY h94)) fl98_0 z wqd) z<|wq (ld (hw:=gY z z z (bY h94)) hI89 0 ag5 z z z wqd) z<|wq (fa (hw:=gY z z z (bY h94)) fl25_0 z wqd) z<|wq (ld (hw:=gY z z z (bY h94)) hI89 1 ag22 z z z wqd) z<|wq (mv (hw:=gY z z z (bY h94)) z wqd) z<|wq (q_sub (hw:=gY z z z (bY h94)) z z wqd) z<|iK H fun⟨h95, h95'⟩H=>?_
 obtain ⟨ad96, cs97, hA98, hK99, hn100, hc101⟩ := Dat.get hD5 z_api_Glyph (w64 (v39 - 1)) h95 h95'
 obtain ⟨rfl⟩ := open_api_Glyph hK99
 refine wq (q_ia (hw:=gY z z z (bY h94)) el22 z hA98 z h95 h95' wqd) z<|wq (q_fa (hw:=gY z z z (bY h94)) fl98_0 z z wqd) z<|wq (q_lf (hw:=gY z z z (bY h94)) hI89 ag5 z (gR.cel _ _ (hc101 0 _ z)) wqd) z<|wq (q_leq (hw:=gY z z z (bY h94)) z z wqd) z<|wq (pkt (hw:=gY z z z (bN h93)) (bY h94) z wqd) z<|wq (pkf (bN h93) z wqd) z<|wqq_nil<|?_
 cases H
 exact je ⟨z, z, z, tv⟩ hI89
 refine nK h94 H fun H=>wq (wN (gN z z z (bN h94) z) wqd) z<|wq (wN (gN z z z (bN h94) z) wqd) z<|wq (wN (gN z z z (bN h94) z) wqd) z<|wq (wN (gN z z z (bN h94) z) wqd) z<|wq (wN (gN z z z (bN h94) z) wqd) z<|wq (wN (gN z z z (bN h94) z) wqd) z<|wq (wN (gN z z z (bN h94) z) wqd) z<|wq (wN (gN z z z (bN h94) z) wqd) z<|wq (wN (gN z z z (bN h94) z) wqd) z<|wq (wN (gN z z z (bN h94) z) wqd) z<|wq (pkf (hw:=gY z z z (bN h93)) (bN h94) z wqd) z<|wq (pkf (bN h93) z wqd) z<|wqq_nil<|?_
 cases H
 exact je ⟨z, z, z, tv⟩ hI89
 refine hK82 _ _ _<|dC (v83 = true) (fun h102=>?_) fun h102=>?_
 refine yK h102 H fun H=>wt (vY h102)<|sr fun K103 hK104=>asn z<|nl<|hK104 _ _ _<|wr<|have hI105:=Hp.front hI87 1 z;have hI106:=Hp.sub hI105 (sk (sd se));?_
 cases H
 exact ⟨z, z, ⟨z, tv⟩, hI106, tv⟩
 exact nK h102 H fun H=>wf (vN h102)<|ws<|hK65 _ _ _<|wpc_region<|mv z<|q_add z z<|asn z<|nl<|have hI107:=Hp.front hI87 1 z;have hI108:=Hp.sub hI107 (sk (sd se));ih _ _ H _ _ ⟨z, z, tv⟩ hI108 z
 refine nK h63 H fun H=>wf (bN h63)<|wx<|?_
 cases H
 exact ⟨z, z, ⟨z, tv⟩, hI58, tv⟩
 rcases o54 with _ | _
 rintro e r ds wd48 ⟨rfl, rfl, hHas, hI49, _⟩
 rw [hHas.eq]; clear hHas
 refine have hI109:=Hp.sub hI49 (sd se);?_
 cases H
 exact rt ⟨_, _, z, z, z⟩ hI109
 rintro e r ds wd52 ⟨rfl, rfl, hHas, hI53, _⟩
 rw [hHas.eq]; clear hHas
 refine hK32 _ _ _<|sQ fun K110 hK111=>sr fun K112 hK113=>asn z<|nl<|hK113 _ _ _<|wb<|bK H fun o133 hC H=>?_
 refine wpc_mono (Q := fun e r ds w => match (generalizing := false) o133 with | (Sum.inl _) => e = .ret ∧ ds = [] ∧ Has [(2, bool false)] r ∧ Hp G (bx g13 [slice A2 a1.Glyphs.length c3, slice A6 a1.Kerns.length c7] 25 :: L) w ∧ True | (Sum.inr _) => e = .exit 2 ∧ ds = [] ∧ Has [] r ∧ Hp G (bx g13 [slice A2 a1.Glyphs.length c3, slice A6 a1.Kerns.length c7] 25 :: L) w ∧ True) ?_ ?_
 refine wpc_loop fun I hLp=>?_
 refine formeref07_Valid_l124.partial_correctness a1 (fun v118 o => ∀ (r : Rg) (w : World), Has [(1, pointer (some ⟨g13, 0, none⟩)), (5, int .i64 v118)] r → Hp G (bx g13 [slice A2 a1.Glyphs.length c3, slice A6 a1.Kerns.length c7] 25 :: L) w → o = o133 → I r [] w) ?_ 0 _ hC _ _ ⟨rfl, rfl, tv⟩ hI53 rfl
 intro _ ih v118 o H r wd136 hHas hI137 ho
 rw [ho] at H; clear ho
 rw [hHas.eq]; clear hHas
 refine hLp _ _ _<|sQ fun K138 hK139=>sr fun K140 hK141=>mv z<|fa fl25_1 z<|ld hI137 0 ag23 z z z<|q_len so23 z<|q_lss z z<|nl<|hK141 _ _ _<|dC (v118 < (a1.Kerns.length : Int)) (fun h142=>?_) fun h142=>?_
 refine yK h142 H fun H=>wt (bY h142)<|ws<|hK139 _ _ _<|sQ fun K143 hK144=>wb<|sr fun K145 hK146=>fa fl25_1 z<|ld hI137 0 ag23 z z z<|mv z<|iK H fun⟨h147, h147'⟩H=>?_
 obtain ⟨ad148, cs149, hA150, hK151, hn152, hc153⟩ := Dat.get hD9 z_api_Kern (v118) h147 h147'
 obtain ⟨rfl⟩ := open_api_Kern hK151
 refine q_ia el23 z hA150 z h147 h147'<|q_lfA hI137 ag114 z (cs := [int .u8 ((a1.Kerns.getD (Int.toNat v118) z_api_Kern).Left), int .u8 ((a1.Kerns.getD (Int.toNat v118) z_api_Kern).Right), int .i64 ((a1.Kerns.getD (Int.toNat v118) z_api_Kern).By)]) z (fun j v hv => gR.cel _ _ (hc153 j v hv))<|q_alloc hI137 ze114 fun g155 wd156 hI157=>stk hI157 0 ag114 z z z z z z z fun wd158 hI159=>nl<|hK146 _ _ _<|sr fun K160 hK161=>lda hI159 1 ag25 z z z z<|fa fl114_0 z<|ld hI159 0 ag5 z z z<|bK H fun y167 hy162 H=>cv bo74 (formeref07_Glyph_spec hy162 hI159 hl4 hD5 hl8 hD9) z z fun wd165 hI166=>asn z<|nl<|?_
 refine hK161 _ _ _<|sr fun K168 hK169=>lda hI166 1 ag25 z z z z<|fa fl114_1 z<|ld hI166 0 ag5 z z z<|bK H fun y175 hy170 H=>cv bo74 (formeref07_Glyph_spec hy170 hI166 hl4 hD5 hl8 hD9) z z fun wd173 hI174=>asn z<|nl<|hK169 _ _ _<|sQ fun K176 hK177=>sQ fun K178 hK179=>bK H fun v180 hC H=>jc .normal hI174 [(1, pointer (some ⟨g13, 0, none⟩)), (5, int .i64 v118), (6, pointer (some ⟨g155, 0, none⟩)), (112, bool v180)] ?_ fun _ wd183 hI184=>?_
 refine have H:=hC;?_
 refine wpc_quiet mixo (by kernel_rfl) ?_
 refine have hI186:=hI174.drew;wq (mv z wqd) z<|wq (q_lss z z wqd) z<|wq (mv z wqd) z<|dC (y167 < 0) (fun h187=>?_) fun h187=>?_
 refine yK h187 H fun H=>wq (wN (gN z z z (bY h187) z) wqd) z<|wq (wN (gN z z z (bY h187) z) wqd) z<|wq (pkt (bY h187) z wqd) z<|wq (mv z wqd) z<|wq (wN (gN z z z z z) wqd) z<|wq (wN (gN z z z z z) wqd) z<|wq (wN (gN z z z z z) wqd) z<|wq (pkt z z wqd) z<|wq (mv z wqd) z<|wq (wN (gN z z z z z) wqd) z<|wq (wN (gN z z z z z) wqd) z<|wq (wN (gN z z z z z) wqd) z<|wq (pkt z z wqd) z<|?_
 refine wq (mv z wqd) z<|wq (wN (gN z z z z z) wqd) z<|wq (wN (gN z z z z z) wqd) z<|wq (wN (gN z z z z z) wqd) z<|wq (wN (gN z z z z z) wqd) z<|wq (wN (gN z z z z z) wqd) z<|wq (wN (gN z z z z z) wqd) z<|wq (wN (gN z z z z z) wqd) z<|wq (wN (gN z z z z z) wqd) z<|wq (wN (gN z z z z z) wqd) z<|wq (wN (gN z z z z z) wqd) z<|wq (pkt z z wqd) z<|wqq_nil<|?_
 cases H
 exact je ⟨z, z, z, z, tv⟩ hI186
 refine nK h187 H fun H=>wq (mv (hw:=gY z z z (bN h187)) z wqd) z<|wq (q_lss (hw:=gY z z z (bN h187)) z z wqd) z<|wq (pkf (bN h187) z wqd) z<|wq (mv z wqd) z<|dC (y175 < 0) (fun h188=>?_) fun h188=>?_
 refine yK h188 H fun H=>wq (wN (gN z z z (bY h188) z) wqd) z<|wq (wN (gN z z z (bY h188) z) wqd) z<|wq (wN (gN z z z (bY h188) z) wqd) z<|wq (pkt (bY h188) z wqd) z<|wq (mv z wqd) z<|wq (wN (gN z z z z z) wqd) z<|wq (wN (gN z z z z z) wqd) z<|wq (wN (gN z z z z z) wqd) z<|wq (pkt z z wqd) z<|wq (mv z wqd) z<|wq (wN (gN z z z z z) wqd) z<|wq (wN (gN z z z z z) wqd) z<|wq (wN (gN z z z z z) wqd) z<|?_
 refine wq (wN (gN z z z z z) wqd) z<|wq (wN (gN z z z z z) wqd) z<|wq (wN (gN z z z z z) wqd) z<|wq (wN (gN z z z z z) wqd) z<|wq (wN (gN z z z z z) wqd) z<|wq (wN (gN z z z z z) wqd) z<|wq (wN (gN z z z z z) wqd) z<|wq (pkt z z wqd) z<|wqq_nil<|?_
 cases H
 exact je ⟨z, z, z, z, tv⟩ hI186
 refine nK h188 H fun H=>wq (fa (hw:=gY z z z (bN h188)) fl114_2 z wqd) z<|wq (ld (hw:=gY z z z (bN h188)) hI186 0 ag3 z z z wqd) z<|wq (q_lss (hw:=gY z z z (bN h188)) z z wqd) z<|wq (pkf (bN h188) z wqd) z<|wq (mv z wqd) z<|dC (((a1.Kerns.getD (Int.toNat v118) z_api_Kern).By) < (-1000)) (fun h189=>?_) fun h189=>?_
 refine yK h189 H fun H=>wq (wN (gN z z z (bY h189) z) wqd) z<|wq (wN (gN z z z (bY h189) z) wqd) z<|wq (wN (gN z z z (bY h189) z) wqd) z<|wq (pkt (bY h189) z wqd) z<|wq (mv z wqd) z<|wq (wN (gN z z z z z) wqd) z<|wq (wN (gN z z z z z) wqd) z<|wq (wN (gN z z z z z) wqd) z<|wq (wN (gN z z z z z) wqd) z<|wq (wN (gN z z z z z) wqd) z<|wq (wN (gN z z z z z) wqd) z<|wq (wN (gN z z z z z) wqd) z<|wq (wN (gN z z z z z) wqd) z<|?_
 refine wq (wN (gN z z z z z) wqd) z<|wq (wN (gN z z z z z) wqd) z<|wq (pkt z z wqd) z<|wqq_nil<|?_
 cases H
 exact je ⟨z, z, z, z, tv⟩ hI186
 refine nK h189 H fun H=>wq (fa (hw:=gY z z z (bN h189)) fl114_2 z wqd) z<|wq (ld (hw:=gY z z z (bN h189)) hI186 0 ag3 z z z wqd) z<|wq (q_gtr (hw:=gY z z z (bN h189)) z z wqd) z<|wq (pkf (bN h189) z wqd) z<|wq (mv z wqd) z<|dC (1000 < ((a1.Kerns.getD (Int.toNat v118) z_api_Kern).By)) (fun h190=>?_) fun h190=>?_
 refine yK h190 H fun H=>wq (wN (gN z z z (bY h190) z) wqd) z<|wq (wN (gN z z z (bY h190) z) wqd) z<|wq (wN (gN z z z (bY h190) z) wqd) z<|wq (wN (gN z z z (bY h190) z) wqd) z<|wq (wN (gN z z z (bY h190) z) wqd) z<|wq (wN (gN z z z (bY h190) z) wqd) z<|wq (wN (gN z z z (bY h190) z) wqd) z<|wq (wN (gN z z z (bY h190) z) wqd) z<|wq (wN (gN z z z (bY h190) z) wqd) z<|wq (wN (gN z z z (bY h190) z) wqd) z<|wq (pkt (bY h190) z wqd) z<|wqq_nil<|?_
 cases H
 exact je ⟨z, z, z, z, tv⟩ hI186
 refine nK h190 H fun H=>wq (fa (hw:=gY z z z (bN h190)) fl25_0 z wqd) z<|wq (ld (hw:=gY z z z (bN h190)) hI186 1 ag22 z z z wqd) z<|wq (mv (hw:=gY z z z (bN h190)) z wqd) z<|iK H fun⟨h191, h191'⟩H=>?_
 obtain ⟨ad192, cs193, hA194, hK195, hn196, hc197⟩ := Dat.get hD5 z_api_Glyph (y167) h191 h191'
 obtain ⟨rfl⟩ := open_api_Glyph hK195
 refine wq (q_ia (hw:=gY z z z (bN h190)) el22 z hA194 z h191 h191' wqd) z<|wq (q_fa (hw:=gY z z z (bN h190)) fl98_1 z z wqd) z<|wq (q_lf (hw:=gY z z z (bN h190)) hI186 ag3 z (gR.cel _ _ (hc197 1 _ z)) wqd) z<|wq (fa (hw:=gY z z z (bN h190)) fl114_2 z wqd) z<|wq (ld (hw:=gY z z z (bN h190)) hI186 0 ag3 z z z wqd) z<|wq (q_add (hw:=gY z z z (bN h190)) z z wqd) z<|wq (q_lss (hw:=gY z z z (bN h190)) z z wqd) z<|wq (pkf (bN h190) z wqd) z<|wqq_nil<|?_
 cases H
 exact je ⟨z, z, z, z, tv⟩ hI186
 refine hK179 _ _ _<|dC (v180 = true) (fun h198=>?_) fun h198=>?_
 refine yK h198 H fun H=>wt (vY h198)<|sr fun K199 hK200=>asn z<|nl<|hK200 _ _ _<|wr<|have hI201:=Hp.front hI184 1 z;have hI202:=Hp.sub hI201 (sk (sd se));?_
 cases H
 exact ⟨z, z, ⟨z, tv⟩, hI202, tv⟩
 refine nK h198 H fun H=>wf (vN h198)<|ws<|hK177 _ _ _<|sQ fun K203 hK204=>bK H fun v205 hC H=>jc .normal hI184 [(1, pointer (some ⟨g13, 0, none⟩)), (5, int .i64 v118), (150, bool v205)] ?_ fun _ wd208 hI209=>?_
 refine have H:=hC;?_
 refine wpc_quiet mixo (by kernel_rfl) ?_
 refine have hI211:=hI184.drew;wq (mv z wqd) z<|wq (q_gtr z z wqd) z<|wq (mv z wqd) z<|dC (0 < v118) (fun h212=>?_) fun h212=>?_
 refine yK h212 H fun H=>wq (fa (hw:=gY z z z (bY h212)) fl114_0 z wqd) z<|wq (ld (hw:=gY z z z (bY h212)) hI211 0 ag5 z z z wqd) z<|wq (fa (hw:=gY z z z (bY h212)) fl25_1 z wqd) z<|wq (ld (hw:=gY z z z (bY h212)) hI211 1 ag23 z z z wqd) z<|wq (mv (hw:=gY z z z (bY h212)) z wqd) z<|wq (q_sub (hw:=gY z z z (bY h212)) z z wqd) z<|iK H fun⟨h213, h213'⟩H=>?_
 obtain ⟨ad214, cs215, hA216, hK217, hn218, hc219⟩ := Dat.get hD9 z_api_Kern (w64 (v118 - 1)) h213 h213'
 obtain ⟨rfl⟩ := open_api_Kern hK217
 refine wq (q_ia (hw:=gY z z z (bY h212)) el23 z hA216 z h213 h213' wqd) z<|wq (q_fa (hw:=gY z z z (bY h212)) fl114_0 z z wqd) z<|wq (q_lf (hw:=gY z z z (bY h212)) hI211 ag5 z (gR.cel _ _ (hc219 0 _ z)) wqd) z<|wq (q_lss (hw:=gY z z z (bY h212)) z z wqd) z<|wq (mv (hw:=gY z z z (bY h212)) z wqd) z<|dC (((a1.Kerns.getD (Int.toNat v118) z_api_Kern).Left) < ((a1.Kerns.getD (Int.toNat (w64 (v118 - 1))) z_api_Kern).Left)) (fun h220=>?_) fun h220=>?_
 refine yK h220 H fun H=>wq (wN (gN z z z (bY h220) z) wqd) z<|wq (wN (gN z z z (bY h220) z) wqd) z<|wq (wN (gN z z z (bY h220) z) wqd) z<|wq (wN (gN z z z (bY h220) z) wqd) z<|wq (wN (gN z z z (bY h220) z) wqd) z<|wq (wN (gN z z z (bY h220) z) wqd) z<|wq (wN (gN z z z (bY h220) z) wqd) z<|wq (wN (gN z z z (bY h220) z) wqd) z<|wq (wN (gN z z z (bY h220) z) wqd) z<|wq (wN (gN z z z (bY h220) z) wqd) z<|wq (wN (gN z z z (bY h220) z) wqd) z<|wq (wN (gN z z z z z) wqd) z<|wq (wN (gN z z z z z) wqd) z<|?_
 refine wq (wN (gN z z z z z) wqd) z<|wq (wN (gN z z z z z) wqd) z<|wq (wN (gN z z z z z) wqd) z<|wq (wN (gN z z z z z) wqd) z<|wq (wN (gN z z z z z) wqd) z<|wq (wN (gN z z z z z) wqd) z<|wq (wN (gN z z z z z) wqd) z<|wq (wN (gN z z z z z) wqd) z<|wq (wN (gN z z z (bY h220) z) wqd) z<|wq (pkt (hw:=gY z z z (bY h212)) (bY h220) z wqd) z<|wq (pkt (bY h212) z wqd) z<|wqq_nil<|?_
 cases H
 exact je ⟨z, z, z, tv⟩ hI211
 refine nK h220 H fun H=>wq (fa (hw:=gY z z z (bN h220)) fl114_0 z wqd) z<|wq (ld (hw:=gY z z z (bN h220)) hI211 0 ag5 z z z wqd) z<|wq (fa (hw:=gY z z z (bN h220)) fl25_1 z wqd) z<|wq (ld (hw:=gY z z z (bN h220)) hI211 1 ag23 z z z wqd) z<|wq (mv (hw:=gY z z z (bN h220)) z wqd) z<|wq (q_sub (hw:=gY z z z (bN h220)) z z wqd) z<|iK H fun⟨h221, h221'⟩H=>?_
 obtain ⟨ad222, cs223, hA224, hK225, hn226, hc227⟩ := Dat.get hD9 z_api_Kern (w64 (v118 - 1)) h221 h221'
 obtain ⟨rfl⟩ := open_api_Kern hK225
 refine wq (q_ia (hw:=gY z z z (bN h220)) el23 z hA224 z h221 h221' wqd) z<|wq (q_fa (hw:=gY z z z (bN h220)) fl114_0 z z wqd) z<|wq (q_lf (hw:=gY z z z (bN h220)) hI211 ag5 z (gR.cel _ _ (hc227 0 _ z)) wqd) z<|wq (q_eql (hw:=gY z z z (bN h220)) z z wqd) z<|wq (mv (hw:=gY z z z (bN h220)) z wqd) z<|dC (((a1.Kerns.getD (Int.toNat v118) z_api_Kern).Left) = ((a1.Kerns.getD (Int.toNat (w64 (v118 - 1))) z_api_Kern).Left)) (fun h228=>?_) fun h228=>?_
 refine yK h228 H fun H=>wq (fa (hw:=gY z z z (bY h228)) fl114_1 z wqd) z<|wq (ld (hw:=gY z z z (bY h228)) hI211 0 ag5 z z z wqd) z<|wq (fa (hw:=gY z z z (bY h228)) fl25_1 z wqd) z<|wq (ld (hw:=gY z z z (bY h228)) hI211 1 ag23 z z z wqd) z<|wq (mv (hw:=gY z z z (bY h228)) z wqd) z<|wq (q_sub (hw:=gY z z z (bY h228)) z z wqd) z<|iK H fun⟨h229, h229'⟩H=>?_
 obtain ⟨ad230, cs231, hA232, hK233, hn234, hc235⟩ := Dat.get hD9 z_api_Kern (w64 (v118 - 1)) h229 h229'
 obtain ⟨rfl⟩ := open_api_Kern hK233
 refine wq (q_ia (hw:=gY z z z (bY h228)) el23 z hA232 z h229 h229' wqd) z<|wq (q_fa (hw:=gY z z z (bY h228)) fl114_1 z z wqd) z<|wq (q_lf (hw:=gY z z z (bY h228)) hI211 ag5 z (gR.cel _ _ (hc235 1 _ z)) wqd) z<|wq (q_leq (hw:=gY z z z (bY h228)) z z wqd) z<|wq (pkt (hw:=gY z z z (bN h220)) (bY h228) z wqd) z<|wq (pkf (hw:=gY z z z (bY h212)) (bN h220) z wqd) z<|wq (pkt (bY h212) z wqd) z<|wqq_nil<|?_
 cases H
 exact je ⟨z, z, z, tv⟩ hI211
 refine nK h228 H fun H=>wq (wN (gN z z z (bN h228) z) wqd) z<|wq (wN (gN z z z (bN h228) z) wqd) z<|wq (wN (gN z z z (bN h228) z) wqd) z<|wq (wN (gN z z z (bN h228) z) wqd) z<|wq (wN (gN z z z (bN h228) z) wqd) z<|wq (wN (gN z z z (bN h228) z) wqd) z<|wq (wN (gN z z z (bN h228) z) wqd) z<|wq (wN (gN z z z (bN h228) z) wqd) z<|wq (wN (gN z z z (bN h228) z) wqd) z<|wq (wN (gN z z z (bN h228) z) wqd) z<|wq (pkf (hw:=gY z z z (bN h220)) (bN h228) z wqd) z<|wq (pkf (hw:=gY z z z (bY h212)) (bN h220) z wqd) z<|wq (pkt (bY h212) z wqd) z<|?_
 refine wqq_nil<|?_
 cases H
 exact je ⟨z, z, z, tv⟩ hI211
 refine nK h212 H fun H=>wq (wN (gN z z z (bN h212) z) wqd) z<|wq (wN (gN z z z (bN h212) z) wqd) z<|wq (wN (gN z z z (bN h212) z) wqd) z<|wq (wN (gN z z z (bN h212) z) wqd) z<|wq (wN (gN z z z (bN h212) z) wqd) z<|wq (wN (gN z z z (bN h212) z) wqd) z<|wq (wN (gN z z z (bN h212) z) wqd) z<|wq (wN (gN z z z (bN h212) z) wqd) z<|wq (wN (gN z z z (bN h212) z) wqd) z<|wq (wN (gN z z z (bN h212) z) wqd) z<|wq (wN (gN z z z (bN h212) z) wqd) z<|wq (wN (gN z z z z z) wqd) z<|wq (wN (gN z z z z z) wqd) z<|?_
 refine wq (wN (gN z z z z z) wqd) z<|wq (wN (gN z z z z z) wqd) z<|wq (wN (gN z z z z z) wqd) z<|wq (wN (gN z z z z z) wqd) z<|wq (wN (gN z z z z z) wqd) z<|wq (wN (gN z z z z z) wqd) z<|wq (wN (gN z z z z z) wqd) z<|wq (wN (gN z z z z z) wqd) z<|wq (wN (gN z z z z z) wqd) z<|wq (wN (gN z z z z z) wqd) z<|wq (wN (gN z z z z z) wqd) z<|wq (wN (gN z z z z z) wqd) z<|wq (wN (gN z z z z z) wqd) z<|wq (wN (gN z z z z z) wqd) z<|?_
 refine wq (wN (gN z z z z z) wqd) z<|wq (wN (gN z z z z z) wqd) z<|wq (wN (gN z z z z z) wqd) z<|wq (wN (gN z z z z z) wqd) z<|wq (wN (gN z z z z z) wqd) z<|wq (wN (gN z z z z z) wqd) z<|wq (wN (gN z z z (bN h212) z) wqd) z<|wq (pkf (bN h212) z wqd) z<|wqq_nil<|?_
 cases H
 exact je ⟨z, z, z, tv⟩ hI211
 refine hK204 _ _ _<|dC (v205 = true) (fun h236=>?_) fun h236=>?_
 refine yK h236 H fun H=>wt (vY h236)<|sr fun K237 hK238=>asn z<|nl<|hK238 _ _ _<|wr<|have hI239:=Hp.front hI209 1 z;have hI240:=Hp.sub hI239 (sk (sd se));?_
 cases H
 exact ⟨z, z, ⟨z, tv⟩, hI240, tv⟩
 exact nK h236 H fun H=>wf (vN h236)<|ws<|hK144 _ _ _<|wpc_region<|mv z<|q_add z z<|asn z<|nl<|have hI241:=Hp.front hI209 1 z;have hI242:=Hp.sub hI241 (sk (sd se));ih _ _ H _ _ ⟨z, z, tv⟩ hI242 z
 refine nK h142 H fun H=>wf (bN h142)<|wx<|?_
 cases H
 exact ⟨z, z, trivial, hI137, tv⟩
 rcases o133 with _ | _
 rintro e r ds wd127 ⟨rfl, rfl, hHas, hI128, _⟩
 rw [hHas.eq]; clear hHas
 refine have hI243:=Hp.sub hI128 (sd se);?_
 cases H
 exact rt ⟨_, _, z, z, z⟩ hI243
 rintro e r ds wd131 ⟨rfl, rfl, hHas, hI132, _⟩
 rw [hHas.eq]; clear hHas
 refine hK111 _ _ _<|sr fun K244 hK245=>asn z<|nl<|hK245 _ _ _<|wr<|have hI246:=Hp.sub hI132 (sd se);?_
 cases H
 exact rt ⟨_, _, z, z, z⟩ hI246
theorem formeref17_scaled_spec {a1 r1002 G L w} (H : formeref17_scaled a1 = some r1002) (hI : Hp G L w) :
    Calls Tryz.prog 42 [int .i64 a1].toArray w fun e w' => Hp G L w' ∧ e = .returned (bool r1002) := by
 refine calls_intro (N := 9) Tryz.func42 z z (Nat.le_of_ble_eq_true z)<|?_
 unfold formeref17_scaled at H
 refine sr fun K2 hK3=>asn z<|nl<|hK3 _ _ _<|sr fun K4 hK5=>mv z<|q_geq z z<|mv z<|bK H fun v6 hC H=>js 3 hI [(8, bool v6)] ?_ fun _ wd9 hI10=>?_
 refine have H:=hC;dC (50 ≤ a1) (fun h12=>?_) fun h12=>?_
 refine yK h12 H fun H=>mv (hw:=gY z z z (bY h12)) z<|q_leq (hw:=gY z z z (bY h12)) z z<|pkt (bY h12) z<|nl<|?_
 cases H
 exact je ⟨z, tv⟩ hI
 refine nK h12 H fun H=>Sk 2 z z (bN h12) z<|pkf (bN h12) z<|nl<|?_
 cases H
 exact je ⟨z, tv⟩ hI
 refine asn z<|nl<|hK5 _ _ _<|wr<|?_
 cases H
 exact rt ⟨_, _, z, z, z⟩ hI10
theorem formeref06_Class_spec {a1 r1002 G L w} (H : formeref06_Class a1 = some r1002) (hI : Hp G L w) :
    Calls Tryz.prog 75 [int .u8 a1].toArray w fun e w' => Hp G L w' ∧ e = .returned (int .i64 r1002) := by
 refine calls_intro (N := 31) Tryz.func75 z z (Nat.le_of_ble_eq_true z)<|?_
 unfold formeref06_Class at H
 refine sr fun K2 hK3=>asn z<|nl<|hK3 _ _ _<|sQ fun K4 hK5=>sr fun K6 hK7=>mv z<|q_geq z z<|mv z<|bK H fun v8 hC H=>js 3 hI [(0, int .u8 a1), (8, bool v8)] ?_ fun _ wd11 hI12=>?_
 refine have H:=hC;dC (97 ≤ a1) (fun h14=>?_) fun h14=>?_
 refine yK h14 H fun H=>mv (hw:=gY z z z (bY h14)) z<|q_leq (hw:=gY z z z (bY h14)) z z<|pkt (bY h14) z<|nl<|?_
 cases H
 exact je ⟨z, z, tv⟩ hI
 refine nK h14 H fun H=>Sk 2 z z (bN h14) z<|pkf (bN h14) z<|nl<|?_
 cases H
 exact je ⟨z, z, tv⟩ hI
 refine nl<|hK7 _ _ _<|dC (v8 = true) (fun h15=>?_) fun h15=>?_
 refine yK h15 H fun H=>wt (vY h15)<|sr fun K16 hK17=>asn z<|nl<|hK17 _ _ _<|wr<|?_
 cases H
 exact rt ⟨_, _, z, z, z⟩ hI12
 refine nK h15 H fun H=>wf (vN h15)<|ws<|hK5 _ _ _<|sQ fun K18 hK19=>sr fun K20 hK21=>mv z<|q_geq z z<|mv z<|bK H fun v22 hC H=>js 3 hI12 [(0, int .u8 a1), (14, bool v22)] ?_ fun _ wd25 hI26=>?_
 refine have H:=hC;dC (65 ≤ a1) (fun h28=>?_) fun h28=>?_
 refine yK h28 H fun H=>mv (hw:=gY z z z (bY h28)) z<|q_leq (hw:=gY z z z (bY h28)) z z<|pkt (bY h28) z<|nl<|?_
 cases H
 exact je ⟨z, z, tv⟩ hI12
 refine nK h28 H fun H=>Sk 2 z z (bN h28) z<|pkf (bN h28) z<|nl<|?_
 cases H
 exact je ⟨z, z, tv⟩ hI12
 refine nl<|hK21 _ _ _<|dC (v22 = true) (fun h29=>?_) fun h29=>?_
 refine yK h29 H fun H=>wt (vY h29)<|sr fun K30 hK31=>asn z<|nl<|hK31 _ _ _<|wr<|?_
 cases H
 exact rt ⟨_, _, z, z, z⟩ hI26
 refine nK h29 H fun H=>wf (vN h29)<|ws<|hK19 _ _ _<|sQ fun K32 hK33=>sr fun K34 hK35=>mv z<|q_geq z z<|mv z<|bK H fun v36 hC H=>js 3 hI26 [(0, int .u8 a1), (20, bool v36)] ?_ fun _ wd39 hI40=>?_
 refine have H:=hC;dC (48 ≤ a1) (fun h42=>?_) fun h42=>?_
 refine yK h42 H fun H=>mv (hw:=gY z z z (bY h42)) z<|q_leq (hw:=gY z z z (bY h42)) z z<|pkt (bY h42) z<|nl<|?_
 cases H
 exact je ⟨z, z, tv⟩ hI26
 refine nK h42 H fun H=>Sk 2 z z (bN h42) z<|pkf (bN h42) z<|nl<|?_
 cases H
 exact je ⟨z, z, tv⟩ hI26
 refine nl<|hK35 _ _ _<|dC (v36 = true) (fun h43=>?_) fun h43=>?_
 refine yK h43 H fun H=>wt (vY h43)<|sr fun K44 hK45=>asn z<|nl<|hK45 _ _ _<|wr<|?_
 cases H
 exact rt ⟨_, _, z, z, z⟩ hI40
 refine nK h43 H fun H=>wf (vN h43)<|ws<|hK33 _ _ _<|sQ fun K46 hK47=>sr fun K48 hK49=>mv z<|q_eql z z<|nl<|hK49 _ _ _<|dC (a1 = 32) (fun h50=>?_) fun h50=>?_
 refine yK h50 H fun H=>wt (bY h50)<|sr fun K51 hK52=>asn z<|nl<|hK52 _ _ _<|wr<|?_
 cases H
 exact rt ⟨_, _, z, z, z⟩ hI40
 refine nK h50 H fun H=>wf (bN h50)<|ws<|hK47 _ _ _<|sQ fun K53 hK54=>sr fun K55 hK56=>mv z<|q_eql z z<|nl<|hK56 _ _ _<|dC (a1 = 126) (fun h57=>?_) fun h57=>?_
 refine yK h57 H fun H=>wt (bY h57)<|sr fun K58 hK59=>asn z<|nl<|hK59 _ _ _<|wr<|?_
 cases H
 exact rt ⟨_, _, z, z, z⟩ hI40
 refine nK h57 H fun H=>wf (bN h57)<|ws<|hK54 _ _ _<|sQ fun K60 hK61=>sr fun K62 hK63=>mv z<|q_gtr z z<|mv z<|bK H fun v64 hC H=>js 3 hI40 [(30, bool v64)] ?_ fun _ wd67 hI68=>?_
 refine have H:=hC;dC (32 < a1) (fun h70=>?_) fun h70=>?_
 refine yK h70 H fun H=>mv (hw:=gY z z z (bY h70)) z<|q_lss (hw:=gY z z z (bY h70)) z z<|pkt (bY h70) z<|nl<|?_
 cases H
 exact je ⟨z, tv⟩ hI40
 refine nK h70 H fun H=>Sk 2 z z (bN h70) z<|pkf (bN h70) z<|nl<|?_
 cases H
 exact je ⟨z, tv⟩ hI40
 refine nl<|hK63 _ _ _<|dC (v64 = true) (fun h71=>?_) fun h71=>?_
 refine yK h71 H fun H=>wt (vY h71)<|sr fun K72 hK73=>asn z<|nl<|hK73 _ _ _<|wr<|?_
 cases H
 exact rt ⟨_, _, z, z, z⟩ hI68
 refine nK h71 H fun H=>wf (vN h71)<|ws<|hK61 _ _ _<|sr fun K74 hK75=>asn z<|nl<|hK75 _ _ _<|wr<|?_
 cases H
 exact rt ⟨_, _, z, z, z⟩ hI68
theorem formeref06_Valid_spec {a1 r1002 G L w} (H : formeref06_Valid a1 = some r1002) (hI : Hp G L w) :
    Calls Tryz.prog 41 [string a1].toArray w fun e w' => Hp G L w' ∧ e = .returned (bool r1002) := by
 refine calls_intro (N := 18) Tryz.func41 z z (Nat.le_of_ble_eq_true z)<|?_
 unfold formeref06_Valid at H
 refine sr fun K2 hK3=>asn z<|nl<|hK3 _ _ _<|sQ fun K4 hK5=>sr fun K6 hK7=>asn z<|nl<|hK7 _ _ _<|wb<|bK H fun o27 hC H=>wpc_mono (Q := fun e r ds w => match (generalizing := false) o27 with | (Sum.inl _) => e = .ret ∧ ds = [] ∧ Has [(2, bool false)] r ∧ Hp G (L) w ∧ True | (Sum.inr _) => e = .exit 0 ∧ ds = [] ∧ Has [(0, string a1)] r ∧ Hp G (L) w ∧ True) ?_ ?_
 refine wpc_loop fun I hLp=>?_
 refine formeref06_Valid_l18.partial_correctness a1 (fun v12 o => ∀ (r : Rg) (w : World), Has [(0, string a1), (3, int .i64 v12)] r → Hp G (L) w → o = o27 → I r [] w) ?_ 0 _ hC _ _ ⟨rfl, rfl, tv⟩ hI rfl
 intro _ ih v12 o H r wd30 hHas hI31 ho
 rw [ho] at H; clear ho
 rw [hHas.eq]; clear hHas
 refine hLp _ _ _<|sQ fun K32 hK33=>sr fun K34 hK35=>mv z<|mv z<|q_lens so9 z<|q_lss z z<|nl<|hK35 _ _ _<|dC (v12 < (a1.size : Int)) (fun h36=>?_) fun h36=>?_
 refine yK h36 H fun H=>wt (bY h36)<|ws<|hK33 _ _ _<|sQ fun K37 hK38=>wb<|sr fun K39 hK40=>mv z<|mv z<|iK H fun⟨h41, h41'⟩H=>q_is so9 z z h41 h41' z<|bK H fun y47 hy42 H=>cv bo75 (formeref06_Class_spec hy42 hI31) z z fun wd45 hI46=>q_eql z z<|?_
 refine nl<|hK40 _ _ _<|dC (y47 = 0) (fun h48=>?_) fun h48=>?_
 refine yK h48 H fun H=>wt (bY h48)<|sr fun K49 hK50=>asn z<|nl<|hK50 _ _ _<|wr<|?_
 cases H
 exact ⟨z, z, ⟨z, tv⟩, hI46, tv⟩
 exact nK h48 H fun H=>wf (bN h48)<|ws<|hK38 _ _ _<|wpc_region<|mv z<|q_add z z<|asn z<|nl<|ih _ _ H _ _ ⟨z, z, tv⟩ hI46 z
 refine nK h36 H fun H=>wf (bN h36)<|wx<|?_
 cases H
 exact ⟨z, z, ⟨z, tv⟩, hI31, tv⟩
 rcases o27 with _ | _
 rintro e r ds wd21 ⟨rfl, rfl, hHas, hI22, _⟩
 rw [hHas.eq]; clear hHas
 cases H
 exact rt ⟨_, _, z, z, z⟩ hI22
 rintro e r ds wd25 ⟨rfl, rfl, hHas, hI26, _⟩
 rw [hHas.eq]; clear hHas
 refine hK5 _ _ _<|sr fun K51 hK52=>mv z<|q_lens so9 z<|q_leq z z<|asn z<|nl<|hK52 _ _ _<|wr<|?_
 cases H
 exact rt ⟨_, _, z, z, z⟩ hI26
theorem formeref08_Valid_spec {a1 A2 c3 r1006 G L w} (H : formeref08_Valid a1 = some r1006) (hI : Hp G L w) (hl4 : a1.Keep.length ≤ c3) (hD5 : Dat Kd.str G A2 a1.Keep) :
    Calls Tryz.prog 46 [agg [int .i64 a1.Before, int .i64 a1.Behind, slice A2 a1.Keep.length c3].toArray].toArray w fun e w' => Hp G L w' ∧ e = .returned (bool r1006) := by
 refine calls_intro (N := 77) Tryz.func46 z z (Nat.le_of_ble_eq_true z)<|?_
 unfold formeref08_Valid at H
 refine sr fun K6 hK7=>bxk hI z z fun g9 wd10 hI11=>asn z<|nl<|hK7 _ _ _<|sQ fun K12 hK13=>sr fun K14 hK15=>fa fl28_0 z<|ld hI11 0 ag3 z z z<|q_lss z z<|mv z<|bK H fun v16 hC H=>js 4 hI11 [(1, pointer (some ⟨g9, 0, none⟩)), (13, bool v16)] ?_ fun _ wd19 hI20=>?_
 refine have H:=hC;dC (a1.Before < 1) (fun h22=>?_) fun h22=>?_
 refine yK h22 H fun H=>Sk 3 z z (bY h22) z<|pkt (bY h22) z<|nl<|?_
 cases H
 exact je ⟨z, z, tv⟩ hI11
 refine nK h22 H fun H=>fa (hw:=gY z z z (bN h22)) fl28_0 z<|ld (hw:=gY z z z (bN h22)) hI11 0 ag3 z z z<|q_gtr (hw:=gY z z z (bN h22)) z z<|pkf (bN h22) z<|nl<|?_
 cases H
 exact je ⟨z, z, tv⟩ hI11
 refine mv z<|bK H fun v23 hC H=>js 4 hI20 [(1, pointer (some ⟨g9, 0, none⟩)), (18, bool v23)] ?_ fun _ wd26 hI27=>?_
 refine have H:=hC;dC (v16 = true) (fun h29=>?_) fun h29=>?_
 refine yK h29 H fun H=>Sk 3 z z (vY h29) z<|pkt (vY h29) z<|nl<|?_
 cases H
 exact je ⟨z, z, tv⟩ hI20
 refine nK h29 H fun H=>fa (hw:=gY z z z (vN h29)) fl28_1 z<|ld (hw:=gY z z z (vN h29)) hI20 0 ag3 z z z<|q_lss (hw:=gY z z z (vN h29)) z z<|pkf (vN h29) z<|nl<|?_
 cases H
 exact je ⟨z, z, tv⟩ hI20
 refine mv z<|bK H fun v30 hC H=>js 4 hI27 [(1, pointer (some ⟨g9, 0, none⟩)), (23, bool v30)] ?_ fun _ wd33 hI34=>?_
 refine have H:=hC;dC (v23 = true) (fun h36=>?_) fun h36=>?_
 refine yK h36 H fun H=>Sk 3 z z (vY h36) z<|pkt (vY h36) z<|nl<|?_
 cases H
 exact je ⟨z, z, tv⟩ hI27
 refine nK h36 H fun H=>fa (hw:=gY z z z (vN h36)) fl28_1 z<|ld (hw:=gY z z z (vN h36)) hI27 0 ag3 z z z<|q_gtr (hw:=gY z z z (vN h36)) z z<|pkf (vN h36) z<|nl<|?_
 cases H
 exact je ⟨z, z, tv⟩ hI27
 refine mv z<|bK H fun v37 hC H=>js 5 hI34 [(1, pointer (some ⟨g9, 0, none⟩)), (29, bool v37)] ?_ fun _ wd40 hI41=>?_
 refine have H:=hC;dC (v30 = true) (fun h43=>?_) fun h43=>?_
 refine yK h43 H fun H=>Sk 4 z z (vY h43) z<|pkt (vY h43) z<|nl<|?_
 cases H
 exact je ⟨z, z, tv⟩ hI34
 refine nK h43 H fun H=>fa (hw:=gY z z z (vN h43)) fl28_2 z<|ld (hw:=gY z z z (vN h43)) hI34 0 ag26 z z z<|q_len (hw:=gY z z z (vN h43)) so26 z<|q_gtr (hw:=gY z z z (vN h43)) z z<|pkf (vN h43) z<|nl<|?_
 cases H
 exact je ⟨z, z, tv⟩ hI34
 refine nl<|hK15 _ _ _<|dC (v37 = true) (fun h44=>?_) fun h44=>?_
 refine yK h44 H fun H=>wt (vY h44)<|sr fun K45 hK46=>asn z<|nl<|hK46 _ _ _<|wr<|have hI47:=Hp.sub hI41 (sd se);?_
 cases H
 exact rt ⟨_, _, z, z, z⟩ hI47
 refine nK h44 H fun H=>wf (vN h44)<|ws<|hK13 _ _ _<|sQ fun K48 hK49=>sr fun K50 hK51=>asn z<|nl<|hK51 _ _ _<|wb<|bK H fun o71 hC H=>?_
 refine wpc_mono (Q := fun e r ds w => match (generalizing := false) o71 with | (Sum.inl _) => e = .ret ∧ ds = [] ∧ Has [(2, bool false)] r ∧ Hp G (bx g9 [int .i64 a1.Before, int .i64 a1.Behind, slice A2 a1.Keep.length c3] 28 :: L) w ∧ True | (Sum.inr _) => e = .exit 0 ∧ ds = [] ∧ Has [] r ∧ Hp G (bx g9 [int .i64 a1.Before, int .i64 a1.Behind, slice A2 a1.Keep.length c3] 28 :: L) w ∧ True) ?_ ?_
 refine wpc_loop fun I hLp=>?_
 refine formeref08_Valid_l62.partial_correctness a1 (fun v56 o => ∀ (r : Rg) (w : World), Has [(1, pointer (some ⟨g9, 0, none⟩)), (3, int .i64 v56)] r → Hp G (bx g9 [int .i64 a1.Before, int .i64 a1.Behind, slice A2 a1.Keep.length c3] 28 :: L) w → o = o71 → I r [] w) ?_ 0 _ hC _ _ ⟨rfl, rfl, tv⟩ hI41 rfl
 intro _ ih v56 o H r wd74 hHas hI75 ho
 rw [ho] at H; clear ho
 rw [hHas.eq]; clear hHas
 refine hLp _ _ _<|sQ fun K76 hK77=>sr fun K78 hK79=>mv z<|fa fl28_2 z<|ld hI75 0 ag26 z z z<|q_len so26 z<|q_lss z z<|nl<|hK79 _ _ _<|dC (v56 < (a1.Keep.length : Int)) (fun h80=>?_) fun h80=>?_
 refine yK h80 H fun H=>wt (bY h80)<|ws<|hK77 _ _ _<|sQ fun K81 hK82=>wb<|sr fun K83 hK84=>fa fl28_2 z<|ld hI75 0 ag26 z z z<|mv z<|iK H fun⟨h85, h85'⟩H=>?_
 obtain ⟨ad86, cs87, hA88, hK89, hn90, hc91⟩ := Dat.get hD5 (⟨#[]⟩ : ByteArray) (v56) h85 h85'
 obtain rfl := hK89
 refine q_ia el26 z hA88 z h85 h85'<|q_lf hI75 ag9 z (gR.cel _ _ (hc91 0 _ z))<|asn z<|nl<|hK84 _ _ _<|sQ fun K92 hK93=>sr fun K94 hK95=>mv z<|q_lens so9 z<|q_neq z z<|mv z<|bK H fun v96 hC H=>js 4 hI75 [(1, pointer (some ⟨g9, 0, none⟩)), (3, int .i64 v56), (4, string (a1.Keep.getD (Int.toNat v56) (⟨#[]⟩ : ByteArray))), (49, bool v96)] ?_ fun _ wd99 hI100=>?_
 refine have H:=hC;dC (¬ ((a1.Keep.getD (Int.toNat v56) (⟨#[]⟩ : ByteArray)).size : Int) = 2) (fun h102=>?_) fun h102=>?_
 refine yK h102 H fun H=>Sk 3 z z (bY h102) z<|pkt (bY h102) z<|nl<|?_
 cases H
 exact je ⟨z, z, z, z, tv⟩ hI75
 refine nK h102 H fun H=>mv (hw:=gY z z z (bN h102)) z<|iK H fun⟨h103, h103'⟩H=>q_is (hw:=gY z z z (bN h102)) so9 z z h103 h103' z<|q_lss (hw:=gY z z z (bN h102)) z z<|pkf (bN h102) z<|nl<|?_
 cases H
 exact je ⟨z, z, z, z, tv⟩ hI75
 refine mv z<|bK H fun v104 hC H=>js 4 hI100 [(1, pointer (some ⟨g9, 0, none⟩)), (3, int .i64 v56), (4, string (a1.Keep.getD (Int.toNat v56) (⟨#[]⟩ : ByteArray))), (54, bool v104)] ?_ fun _ wd107 hI108=>?_
 refine have H:=hC;dC (v96 = true) (fun h110=>?_) fun h110=>?_
 refine yK h110 H fun H=>Sk 3 z z (vY h110) z<|pkt (vY h110) z<|nl<|?_
 cases H
 exact je ⟨z, z, z, z, tv⟩ hI100
 refine nK h110 H fun H=>mv (hw:=gY z z z (vN h110)) z<|iK H fun⟨h111, h111'⟩H=>q_is (hw:=gY z z z (vN h110)) so9 z z h111 h111' z<|q_gtr (hw:=gY z z z (vN h110)) z z<|pkf (vN h110) z<|nl<|?_
 cases H
 exact je ⟨z, z, z, z, tv⟩ hI100
 refine mv z<|bK H fun v112 hC H=>js 4 hI108 [(1, pointer (some ⟨g9, 0, none⟩)), (3, int .i64 v56), (4, string (a1.Keep.getD (Int.toNat v56) (⟨#[]⟩ : ByteArray))), (59, bool v112)] ?_ fun _ wd115 hI116=>?_
 refine have H:=hC;dC (v104 = true) (fun h118=>?_) fun h118=>?_
 refine yK h118 H fun H=>Sk 3 z z (vY h118) z<|pkt (vY h118) z<|nl<|?_
 cases H
 exact je ⟨z, z, z, z, tv⟩ hI108
 refine nK h118 H fun H=>mv (hw:=gY z z z (vN h118)) z<|iK H fun⟨h119, h119'⟩H=>q_is (hw:=gY z z z (vN h118)) so9 z z h119 h119' z<|q_lss (hw:=gY z z z (vN h118)) z z<|pkf (vN h118) z<|nl<|?_
 cases H
 exact je ⟨z, z, z, z, tv⟩ hI108
 refine mv z<|bK H fun v120 hC H=>js 4 hI116 [(1, pointer (some ⟨g9, 0, none⟩)), (3, int .i64 v56), (4, string (a1.Keep.getD (Int.toNat v56) (⟨#[]⟩ : ByteArray))), (64, bool v120)] ?_ fun _ wd123 hI124=>?_
 refine have H:=hC;dC (v112 = true) (fun h126=>?_) fun h126=>?_
 refine yK h126 H fun H=>Sk 3 z z (vY h126) z<|pkt (vY h126) z<|nl<|?_
 cases H
 exact je ⟨z, z, z, z, tv⟩ hI116
 refine nK h126 H fun H=>mv (hw:=gY z z z (vN h126)) z<|iK H fun⟨h127, h127'⟩H=>q_is (hw:=gY z z z (vN h126)) so9 z z h127 h127' z<|q_gtr (hw:=gY z z z (vN h126)) z z<|pkf (vN h126) z<|nl<|?_
 cases H
 exact je ⟨z, z, z, z, tv⟩ hI116
 refine nl<|hK95 _ _ _<|dC (v120 = true) (fun h128=>?_) fun h128=>?_
 refine yK h128 H fun H=>wt (vY h128)<|sr fun K129 hK130=>asn z<|nl<|hK130 _ _ _<|wr<|?_
 cases H
 exact ⟨z, z, ⟨z, tv⟩, hI124, tv⟩
 refine nK h128 H fun H=>wf (vN h128)<|ws<|hK93 _ _ _<|sr fun K131 hK132=>asn z<|nl<|hK132 _ _ _<|wb<|bK H fun o152 hC H=>?_
 refine wpc_mono (Q := fun e r ds w => match (generalizing := false) o152 with | (Sum.inl _) => e = .ret ∧ ds = [] ∧ Has [(2, bool false)] r ∧ Hp G (bx g9 [int .i64 a1.Before, int .i64 a1.Behind, slice A2 a1.Keep.length c3] 28 :: L) w ∧ True | (Sum.inr _) => e = .exit 2 ∧ ds = [] ∧ Has [(1, pointer (some ⟨g9, 0, none⟩)), (3, int .i64 v56)] r ∧ Hp G (bx g9 [int .i64 a1.Before, int .i64 a1.Behind, slice A2 a1.Keep.length c3] 28 :: L) w ∧ True) ?_ ?_
 refine wpc_loop fun I hLp=>?_
 refine formeref08_Valid_l143.partial_correctness a1 v56 (fun v137 o => ∀ (r : Rg) (w : World), Has [(1, pointer (some ⟨g9, 0, none⟩)), (3, int .i64 v56), (4, string (a1.Keep.getD (Int.toNat v56) (⟨#[]⟩ : ByteArray))), (5, int .i64 v137)] r → Hp G (bx g9 [int .i64 a1.Before, int .i64 a1.Behind, slice A2 a1.Keep.length c3] 28 :: L) w → o = o152 → I r [] w) ?_ 0 _ hC _ _ ⟨rfl, rfl, rfl, rfl, tv⟩ hI124 rfl
 intro _ ih v137 o H r wd155 hHas hI156 ho
 rw [ho] at H; clear ho
 rw [hHas.eq]; clear hHas
 refine hLp _ _ _<|sQ fun K157 hK158=>sr fun K159 hK160=>mv z<|mv z<|q_lss z z<|nl<|hK160 _ _ _<|dC (v137 < v56) (fun h161=>?_) fun h161=>?_
 refine yK h161 H fun H=>wt (bY h161)<|ws<|hK158 _ _ _<|sQ fun K162 hK163=>wb<|sr fun K164 hK165=>fa fl28_2 z<|ld hI156 0 ag26 z z z<|mv z<|iK H fun⟨h166, h166'⟩H=>?_
 obtain ⟨ad167, cs168, hA169, hK170, hn171, hc172⟩ := Dat.get hD5 (⟨#[]⟩ : ByteArray) (v137) h166 h166'
 obtain rfl := hK170
 refine q_ia el26 z hA169 z h166 h166'<|q_lf hI156 ag9 z (gR.cel _ _ (hc172 0 _ z))<|mv z<|q_str_eql z z<|nl<|hK165 _ _ _<|dC ((a1.Keep.getD (Int.toNat v137) (⟨#[]⟩ : ByteArray)) = (a1.Keep.getD (Int.toNat v56) (⟨#[]⟩ : ByteArray))) (fun h173=>?_) fun h173=>?_
 refine yK h173 H fun H=>wt (bY h173)<|sr fun K174 hK175=>asn z<|nl<|hK175 _ _ _<|wr<|?_
 cases H
 exact ⟨z, z, ⟨z, tv⟩, hI156, tv⟩
 exact nK h173 H fun H=>wf (bN h173)<|ws<|hK163 _ _ _<|wpc_region<|mv z<|q_add z z<|asn z<|nl<|ih _ _ H _ _ ⟨z, z, z, z, tv⟩ hI156 z
 refine nK h161 H fun H=>wf (bN h161)<|wx<|?_
 cases H
 exact ⟨z, z, ⟨z, z, tv⟩, hI156, tv⟩
 rcases o152 with _ | _
 rintro e r ds wd146 ⟨rfl, rfl, hHas, hI147, _⟩
 rw [hHas.eq]; clear hHas
 cases H
 exact ⟨z, z, ⟨z, tv⟩, hI147, tv⟩
 rintro e r ds wd150 ⟨rfl, rfl, hHas, hI151, _⟩
 rw [hHas.eq]; clear hHas
 exact hK82 _ _ _<|wpc_region<|mv z<|q_add z z<|asn z<|nl<|ih _ _ H _ _ ⟨z, z, tv⟩ hI151 z
 refine nK h80 H fun H=>wf (bN h80)<|wx<|?_
 cases H
 exact ⟨z, z, trivial, hI75, tv⟩
 rcases o71 with _ | _
 rintro e r ds wd65 ⟨rfl, rfl, hHas, hI66, _⟩
 rw [hHas.eq]; clear hHas
 refine have hI176:=Hp.sub hI66 (sd se);?_
 cases H
 exact rt ⟨_, _, z, z, z⟩ hI176
 rintro e r ds wd69 ⟨rfl, rfl, hHas, hI70, _⟩
 rw [hHas.eq]; clear hHas
 refine hK49 _ _ _<|sr fun K177 hK178=>asn z<|nl<|hK178 _ _ _<|wr<|have hI179:=Hp.sub hI70 (sd se);?_
 cases H
 exact rt ⟨_, _, z, z, z⟩ hI179
theorem formeref08_some_spec {a1 a2 r1003 G L w} (H : formeref08_some a1 a2 = some r1003) (hI : Hp G L w) :
    Calls Tryz.prog 111 [string a1, int .i64 a2].toArray w fun e w' => Hp G L w' ∧ e = .returned (bool r1003) := by
 refine calls_intro (N := 15) Tryz.func111 z z (Nat.le_of_ble_eq_true z)<|?_
 unfold formeref08_some at H
 refine sr fun K3 hK4=>asn z<|nl<|hK4 _ _ _<|sQ fun K5 hK6=>sr fun K7 hK8=>asn z<|nl<|hK8 _ _ _<|wb<|bK H fun o28 hC H=>wpc_mono (Q := fun e r ds w => match (generalizing := false) o28 with | (Sum.inl _) => e = .ret ∧ ds = [] ∧ Has [(4, bool true)] r ∧ Hp G (L) w ∧ True | (Sum.inr _) => e = .exit 0 ∧ ds = [] ∧ Has [] r ∧ Hp G (L) w ∧ True) ?_ ?_
 refine wpc_loop fun I hLp=>?_
 refine formeref08_some_l19.partial_correctness a1 a2 (fun v13 o => ∀ (r : Rg) (w : World), Has [(0, string a1), (1, int .i64 a2), (5, int .i64 v13)] r → Hp G (L) w → o = o28 → I r [] w) ?_ 0 _ hC _ _ ⟨rfl, rfl, rfl, tv⟩ hI rfl
 intro _ ih v13 o H r wd31 hHas hI32 ho
 rw [ho] at H; clear ho
 rw [hHas.eq]; clear hHas
 refine hLp _ _ _<|sQ fun K33 hK34=>sr fun K35 hK36=>mv z<|mv z<|q_lss z z<|nl<|hK36 _ _ _<|dC (v13 < a2) (fun h37=>?_) fun h37=>?_
 refine yK h37 H fun H=>wt (bY h37)<|ws<|hK34 _ _ _<|sQ fun K38 hK39=>wb<|sr fun K40 hK41=>mv z<|mv z<|iK H fun⟨h42, h42'⟩H=>q_is so9 z z h42 h42' z<|q_neq z z<|nl<|hK41 _ _ _<|?_
 refine dC (¬ (bt a1 v13) = 32) (fun h43=>?_) fun h43=>?_
 refine yK h43 H fun H=>wt (bY h43)<|sr fun K44 hK45=>asn z<|nl<|hK45 _ _ _<|wr<|?_
 cases H
 exact ⟨z, z, ⟨z, tv⟩, hI32, tv⟩
 exact nK h43 H fun H=>wf (bN h43)<|ws<|hK39 _ _ _<|wpc_region<|mv z<|q_add z z<|asn z<|nl<|ih _ _ H _ _ ⟨z, z, z, tv⟩ hI32 z
 refine nK h37 H fun H=>wf (bN h37)<|wx<|?_
 cases H
 exact ⟨z, z, trivial, hI32, tv⟩
 rcases o28 with _ | _
 rintro e r ds wd22 ⟨rfl, rfl, hHas, hI23, _⟩
 rw [hHas.eq]; clear hHas
 cases H
 exact rt ⟨_, _, z, z, z⟩ hI23
 rintro e r ds wd26 ⟨rfl, rfl, hHas, hI27, _⟩
 rw [hHas.eq]; clear hHas
 refine hK6 _ _ _<|sr fun K46 hK47=>asn z<|nl<|hK47 _ _ _<|wr<|?_
 cases H
 exact rt ⟨_, _, z, z, z⟩ hI27
theorem formeref08_solid_spec {a1 r1002 G L w} (H : formeref08_solid a1 = some r1002) (hI : Hp G L w) :
    Calls Tryz.prog 112 [int .u8 a1].toArray w fun e w' => Hp G L w' ∧ e = .returned (bool r1002) := by
 refine calls_intro (N := 12) Tryz.func112 z z (Nat.le_of_ble_eq_true z)<|?_
 unfold formeref08_solid at H
 refine sr fun K2 hK3=>asn z<|nl<|hK3 _ _ _<|sr fun K4 hK5=>mv z<|bK H fun y11 hy6 H=>cv bo75 (formeref06_Class_spec hy6 hI) z z fun wd9 hI10=>asn z<|nl<|hK5 _ _ _<|sr fun K12 hK13=>mv z<|q_geq z z<|?_
 refine mv z<|bK H fun v14 hC H=>js 3 hI10 [(11, bool v14)] ?_ fun _ wd17 hI18=>?_
 refine have H:=hC;dC (1 ≤ y11) (fun h20=>?_) fun h20=>?_
 refine yK h20 H fun H=>mv (hw:=gY z z z (bY h20)) z<|q_leq (hw:=gY z z z (bY h20)) z z<|pkt (bY h20) z<|nl<|?_
 cases H
 exact je ⟨z, tv⟩ hI10
 refine nK h20 H fun H=>Sk 2 z z (bN h20) z<|pkf (bN h20) z<|nl<|?_
 cases H
 exact je ⟨z, tv⟩ hI10
 refine asn z<|nl<|hK13 _ _ _<|wr<|?_
 cases H
 exact rt ⟨_, _, z, z, z⟩ hI18
theorem formeref08_letter_spec {a1 r1002 G L w} (H : formeref08_letter a1 = some r1002) (hI : Hp G L w) :
    Calls Tryz.prog 113 [int .u8 a1].toArray w fun e w' => Hp G L w' ∧ e = .returned (bool r1002) := by
 refine calls_intro (N := 12) Tryz.func113 z z (Nat.le_of_ble_eq_true z)<|?_
 unfold formeref08_letter at H
 refine sr fun K2 hK3=>asn z<|nl<|hK3 _ _ _<|sr fun K4 hK5=>mv z<|bK H fun y11 hy6 H=>cv bo75 (formeref06_Class_spec hy6 hI) z z fun wd9 hI10=>asn z<|nl<|hK5 _ _ _<|sr fun K12 hK13=>mv z<|q_eql z z<|?_
 refine mv z<|bK H fun v14 hC H=>js 3 hI10 [(11, bool v14)] ?_ fun _ wd17 hI18=>?_
 refine have H:=hC;dC (y11 = 1) (fun h20=>?_) fun h20=>?_
 refine yK h20 H fun H=>Sk 2 z z (bY h20) z<|pkt (bY h20) z<|nl<|?_
 cases H
 exact je ⟨z, tv⟩ hI10
 refine nK h20 H fun H=>mv (hw:=gY z z z (bN h20)) z<|q_eql (hw:=gY z z z (bN h20)) z z<|pkf (bN h20) z<|nl<|?_
 cases H
 exact je ⟨z, tv⟩ hI10
 refine asn z<|nl<|hK13 _ _ _<|wr<|?_
 cases H
 exact rt ⟨_, _, z, z, z⟩ hI18
theorem formeref08_run_spec {a1 a2 a3 r1004 r1005 G L w} (H : formeref08_run a1 a2 a3 = some (r1004, r1005)) (hI : Hp G L w) :
    Calls Tryz.prog 114 [string a1, int .i64 a2, int .i64 a3].toArray w fun e w' => Hp G L w' ∧ e = .returned (tuple [int .i64 r1004, int .u8 r1005].toArray) := by
 refine calls_intro (N := 44) Tryz.func114 z z (Nat.le_of_ble_eq_true z)<|?_
 unfold formeref08_run at H
 refine sr fun K4 hK5=>asn z<|asn z<|nl<|hK5 _ _ _<|sr fun K6 hK7=>asn z<|nl<|hK7 _ _ _<|sr fun K8 hK9=>asn z<|nl<|hK9 _ _ _<|sQ fun K10 hK11=>?_
 refine wb<|bK2 H fun v27 v28 hC H=>wpc_mono (Q := fun e r ds w => e = .exit 0 ∧ ds = [] ∧ Has [(8, int .i64 v27), (9, int .u8 v28)] r ∧ Hp G (L) w ∧ True) ?_ ?_
 refine wpc_loop fun I hLp=>?_
 refine formeref08_run_l26.partial_correctness a1 a3 (fun v16 v17 v18 o => ∀ (r : Rg) (w : World), Has [(0, string a1), (1, int .i64 v16), (2, int .i64 a3), (8, int .i64 v17), (9, int .u8 v18)] r → Hp G (L) w → o = (v27, v28) → I r [] w) ?_ a2 0 0 _ hC _ _ ⟨rfl, rfl, rfl, rfl, rfl, tv⟩ hI rfl
 intro _ ih v16 v17 v18 o H r wd36 hHas hI37 ho
 rw [ho] at H; clear ho
 rw [hHas.eq]; clear hHas
 refine hLp _ _ _<|sQ fun K38 hK39=>sr fun K40 hK41=>mv z<|q_geq z z<|mv z<|bK H fun v42 hC H=>js 5 hI37 [(0, string a1), (1, int .i64 v16), (2, int .i64 a3), (8, int .i64 v17), (9, int .u8 v18), (18, bool v42)] ?_ fun _ wd45 hI46=>?_
 refine have H:=hC;dC (0 ≤ v16) (fun h48=>?_) fun h48=>?_
 refine yK h48 H fun H=>mv (hw:=gY z z z (bY h48)) z<|mv (hw:=gY z z z (bY h48)) z<|q_lens (hw:=gY z z z (bY h48)) so9 z<|q_lss (hw:=gY z z z (bY h48)) z z<|pkt (bY h48) z<|nl<|?_
 cases H
 exact je ⟨z, z, z, z, z, z, tv⟩ hI37
 refine nK h48 H fun H=>Sk 4 z z (bN h48) z<|pkf (bN h48) z<|nl<|?_
 cases H
 exact je ⟨z, z, z, z, z, z, tv⟩ hI37
 refine nl<|hK41 _ _ _<|dC (v42 = true) (fun h49=>?_) fun h49=>?_
 refine yK h49 H fun H=>wt (vY h49)<|ws<|hK39 _ _ _<|wb<|sr fun K50 hK51=>mv z<|mv z<|iK H fun⟨h52, h52'⟩H=>q_is so9 z z h52 h52' z<|bK H fun y58 hy53 H=>cv bo113 (formeref08_letter_spec hy53 hI46) z z fun wd56 hI57=>asn z<|nl<|?_
 refine hK51 _ _ _<|sQ fun K59 hK60=>sr fun K61 hK62=>mv z<|q_not z<|mv z<|bK H fun v63 hC H=>js 5 hI57 [(0, string a1), (1, int .i64 v16), (2, int .i64 a3), (8, int .i64 v17), (9, int .u8 v18), (10, bool y58), (30, bool v63)] ?_ fun _ wd66 hI67=>?_
 refine have H:=hC;dC ((!y58) = true) (fun h69=>?_) fun h69=>?_
 refine yK h69 H fun H=>mv (hw:=gY z z z (vY h69)) z<|mv (hw:=gY z z z (vY h69)) z<|iK H fun⟨h70, h70'⟩H=>q_is (hw:=gY z z z (vY h69)) so9 z z h70 h70' z<|q_neq (hw:=gY z z z (vY h69)) z z<|pkt (vY h69) z<|nl<|?_
 cases H
 exact je ⟨z, z, z, z, z, z, z, tv⟩ hI57
 refine nK h69 H fun H=>Sk 4 z z (vN h69) z<|pkf (vN h69) z<|nl<|?_
 cases H
 exact je ⟨z, z, z, z, z, z, z, tv⟩ hI57
 refine nl<|hK62 _ _ _<|dC (v63 = true) (fun h71=>?_) fun h71=>?_
 refine yK h71 H fun H=>wt (vY h71)<|wx<|?_
 cases H
 exact ⟨z, z, ⟨z, z, tv⟩, hI67, tv⟩
 refine nK h71 H fun H=>wf (vN h71)<|ws<|hK60 _ _ _<|sQ fun K72 hK73=>sr fun K74 hK75=>mv z<|nl<|hK75 _ _ _<|dC (y58 = true) (fun h76=>?_) fun h76=>?_
 refine yK h76 H fun H=>wt (vY h76)<|sQ fun K77 hK78=>sr fun K79 hK80=>mv z<|q_eql z z<|nl<|hK80 _ _ _<|dC (v17 = 0) (fun h81=>?_) fun h81=>?_
 refine yK h81 H fun H=>wt (bY h81)<|wpc_region<|mv z<|mv z<|iK H fun⟨h82, h82'⟩H=>q_is so9 z z h82 h82' z<|asn z<|nl<|hK78 _ _ _<|wpc_region<|mv z<|q_add z z<|asn z<|?_
 exact nl<|hK73 _ _ _<|wpc_region<|mv z<|mv z<|q_add z z<|asn z<|nl<|ih _ _ _ _ H _ _ ⟨z, z, z, z, z, tv⟩ hI67 z
 refine nK h81 H fun H=>wf (bN h81)<|ws<|hK78 _ _ _<|wpc_region<|mv z<|q_add z z<|asn z<|nl<|hK73 _ _ _<|wpc_region<|mv z<|mv z<|q_add z z<|?_
 exact asn z<|nl<|ih _ _ _ _ H _ _ ⟨z, z, z, z, z, tv⟩ hI67 z
 exact nK h76 H fun H=>wf (vN h76)<|ws<|hK73 _ _ _<|wpc_region<|mv z<|mv z<|q_add z z<|asn z<|nl<|ih _ _ _ _ H _ _ ⟨z, z, z, z, z, tv⟩ hI67 z
 refine nK h49 H fun H=>wf (vN h49)<|wx<|?_
 cases H
 exact ⟨z, z, ⟨z, z, tv⟩, hI46, tv⟩
 rintro e r ds wd31 ⟨rfl, rfl, hHas, hI32, _⟩
 rw [hHas.eq]; clear hHas
 refine hK11 _ _ _<|sr fun K83 hK84=>mv z<|mv z<|asn z<|asn z<|nl<|hK84 _ _ _<|wr<|?_
 cases H
 exact rt ⟨_, _, z, z, ⟨_, _, z, z, z⟩⟩ hI32
theorem formeref08_kept_spec {a1 a6 a7 A2 c3 r1008 G L w} (H : formeref08_kept a1 a6 a7 = some r1008) (hI : Hp G L w) (hl4 : a1.Keep.length ≤ c3) (hD5 : Dat Kd.str G A2 a1.Keep) :
    Calls Tryz.prog 115 [agg [int .i64 a1.Before, int .i64 a1.Behind, slice A2 a1.Keep.length c3].toArray, int .u8 a6, int .u8 a7].toArray w fun e w' => Hp G L w' ∧ e = .returned (bool r1008) := by
 refine calls_intro (N := 33) Tryz.func115 z z (Nat.le_of_ble_eq_true z)<|?_
 unfold formeref08_kept at H
 refine sr fun K8 hK9=>bxk hI z z fun g11 wd12 hI13=>asn z<|nl<|hK9 _ _ _<|sQ fun K14 hK15=>sr fun K16 hK17=>asn z<|nl<|hK17 _ _ _<|wb<|bK H fun o37 hC H=>?_
 refine wpc_mono (Q := fun e r ds w => match (generalizing := false) o37 with | (Sum.inl _) => e = .ret ∧ ds = [] ∧ Has [(6, bool true)] r ∧ Hp G (bx g11 [int .i64 a1.Before, int .i64 a1.Behind, slice A2 a1.Keep.length c3] 28 :: L) w ∧ True | (Sum.inr _) => e = .exit 0 ∧ ds = [] ∧ Has [] r ∧ Hp G (bx g11 [int .i64 a1.Before, int .i64 a1.Behind, slice A2 a1.Keep.length c3] 28 :: L) w ∧ True) ?_ ?_
 refine wpc_loop fun I hLp=>?_
 refine formeref08_kept_l28.partial_correctness a1 a6 a7 (fun v22 o => ∀ (r : Rg) (w : World), Has [(1, int .u8 a6), (2, int .u8 a7), (3, pointer (some ⟨g11, 0, none⟩)), (7, int .i64 v22)] r → Hp G (bx g11 [int .i64 a1.Before, int .i64 a1.Behind, slice A2 a1.Keep.length c3] 28 :: L) w → o = o37 → I r [] w) ?_ 0 _ hC _ _ ⟨rfl, rfl, rfl, rfl, tv⟩ hI13 rfl
 intro _ ih v22 o H r wd40 hHas hI41 ho
 rw [ho] at H; clear ho
 rw [hHas.eq]; clear hHas
 refine hLp _ _ _<|sQ fun K42 hK43=>sr fun K44 hK45=>mv z<|fa fl28_2 z<|ld hI41 0 ag26 z z z<|q_len so26 z<|q_lss z z<|nl<|hK45 _ _ _<|dC (v22 < (a1.Keep.length : Int)) (fun h46=>?_) fun h46=>?_
 refine yK h46 H fun H=>wt (bY h46)<|ws<|hK43 _ _ _<|sQ fun K47 hK48=>wb<|sr fun K49 hK50=>fa fl28_2 z<|ld hI41 0 ag26 z z z<|mv z<|iK H fun⟨h51, h51'⟩H=>?_
 obtain ⟨ad52, cs53, hA54, hK55, hn56, hc57⟩ := Dat.get hD5 (⟨#[]⟩ : ByteArray) (v22) h51 h51'
 obtain rfl := hK55
 refine q_ia el26 z hA54 z h51 h51'<|q_lf hI41 ag9 z (gR.cel _ _ (hc57 0 _ z))<|iK H fun⟨h58, h58'⟩H=>q_is so9 z z h58 h58' z<|mv z<|q_eql z z<|mv z<|bK H fun v59 hC H=>js 9 hI41 [(1, int .u8 a6), (2, int .u8 a7), (3, pointer (some ⟨g11, 0, none⟩)), (7, int .i64 v22), (32, bool v59)] ?_ fun _ wd62 hI63=>?_
 refine have H:=hC;dC ((bt (a1.Keep.getD (Int.toNat v22) (⟨#[]⟩ : ByteArray)) 0) = a6) (fun h65=>?_) fun h65=>?_
 refine yK h65 H fun H=>fa (hw:=gY z z z (bY h65)) fl28_2 z<|ld (hw:=gY z z z (bY h65)) hI41 0 ag26 z z z<|mv (hw:=gY z z z (bY h65)) z<|iK H fun⟨h66, h66'⟩H=>?_
 obtain ⟨ad67, cs68, hA69, hK70, hn71, hc72⟩ := Dat.get hD5 (⟨#[]⟩ : ByteArray) (v22) h66 h66'
 obtain rfl := hK70
 refine q_ia (hw:=gY z z z (bY h65)) el26 z hA69 z h66 h66'<|q_lf (hw:=gY z z z (bY h65)) hI41 ag9 z (gR.cel _ _ (hc72 0 _ z))<|iK H fun⟨h73, h73'⟩H=>q_is (hw:=gY z z z (bY h65)) so9 z z h73 h73' z<|mv (hw:=gY z z z (bY h65)) z<|q_eql (hw:=gY z z z (bY h65)) z z<|pkt (bY h65) z<|nl<|?_
 cases H
 exact je ⟨z, z, z, z, z, tv⟩ hI41
 refine nK h65 H fun H=>Sk 8 z z (bN h65) z<|pkf (bN h65) z<|nl<|?_
 cases H
 exact je ⟨z, z, z, z, z, tv⟩ hI41
 refine nl<|hK50 _ _ _<|dC (v59 = true) (fun h74=>?_) fun h74=>?_
 refine yK h74 H fun H=>wt (vY h74)<|sr fun K75 hK76=>asn z<|nl<|hK76 _ _ _<|wr<|?_
 cases H
 exact ⟨z, z, ⟨z, tv⟩, hI63, tv⟩
 exact nK h74 H fun H=>wf (vN h74)<|ws<|hK48 _ _ _<|wpc_region<|mv z<|q_add z z<|asn z<|nl<|ih _ _ H _ _ ⟨z, z, z, z, tv⟩ hI63 z
 refine nK h46 H fun H=>wf (bN h46)<|wx<|?_
 cases H
 exact ⟨z, z, trivial, hI41, tv⟩
 rcases o37 with _ | _
 rintro e r ds wd31 ⟨rfl, rfl, hHas, hI32, _⟩
 rw [hHas.eq]; clear hHas
 refine have hI77:=Hp.sub hI32 (sd se);?_
 cases H
 exact rt ⟨_, _, z, z, z⟩ hI77
 rintro e r ds wd35 ⟨rfl, rfl, hHas, hI36, _⟩
 rw [hHas.eq]; clear hHas
 refine hK15 _ _ _<|sr fun K78 hK79=>asn z<|nl<|hK79 _ _ _<|wr<|have hI80:=Hp.sub hI36 (sd se);?_
 cases H
 exact rt ⟨_, _, z, z, z⟩ hI80
theorem formeref08_place_spec {a1 a6 a7 A2 c3 r1008 r1009 G L w} (H : formeref08_place a1 a6 a7 = some (r1008, r1009)) (hI : Hp G L w) (hl4 : a1.Keep.length ≤ c3) (hD5 : Dat Kd.str G A2 a1.Keep) :
    Calls Tryz.prog 86 [agg [int .i64 a1.Before, int .i64 a1.Behind, slice A2 a1.Keep.length c3].toArray, string a6, int .i64 a7].toArray w fun e w' => Hp G L w' ∧ e = .returned (tuple [bool r1008, bool r1009].toArray) := by
 refine calls_intro (N := 93) Tryz.func86 z z (Nat.le_of_ble_eq_true z)<|?_
 unfold formeref08_place at H
 refine sr fun K8 hK9=>bxk hI z z fun g11 wd12 hI13=>asn z<|asn z<|nl<|hK9 _ _ _<|sr fun K14 hK15=>mv z<|mv z<|q_sub z z<|iK H fun⟨h16, h16'⟩H=>q_is so9 z z h16 h16' z<|asn z<|nl<|?_
 refine hK15 _ _ _<|sQ fun K17 hK18=>sr fun K19 hK20=>mv z<|q_eql z z<|nl<|hK20 _ _ _<|dC ((bt a6 (w64 (a7 - 1))) = 32) (fun h21=>?_) fun h21=>?_
 refine yK h21 H fun H=>wt (bY h21)<|sr fun K22 hK23=>mv z<|mv z<|bK H fun y29 hy24 H=>cv bo111 (formeref08_some_spec hy24 hI13) z z fun wd27 hI28=>asn z<|nl<|hK23 _ _ _<|sr fun K30 hK31=>mv z<|mv z<|iK H fun⟨h32, h32'⟩H=>?_
 refine q_is so9 z z h32 h32' z<|q_neq z z<|mv z<|bK H fun v33 hC H=>js 2 hI28 [(33, bool v33)] ?_ fun _ wd36 hI37=>?_
 refine have H:=hC;dC (¬ (bt a6 a7) = 32) (fun h39=>?_) fun h39=>?_
 refine yK h39 H fun H=>mv (hw:=gY z z z (bY h39)) z<|pkt (bY h39) z<|nl<|?_
 cases H
 exact je ⟨z, tv⟩ hI28
 refine nK h39 H fun H=>wN (gN z z z (bN h39) z)<|pkf (bN h39) z<|nl<|?_
 cases H
 exact je ⟨z, tv⟩ hI28
 refine asn z<|asn z<|nl<|hK31 _ _ _<|wr<|have hI40:=Hp.sub hI37 (sd se);?_
 cases H
 exact rt ⟨_, _, z, z, ⟨_, _, z, z, z⟩⟩ hI40
 refine nK h21 H fun H=>wf (bN h21)<|ws<|hK18 _ _ _<|sQ fun K41 hK42=>sr fun K43 hK44=>mv z<|q_eql z z<|nl<|hK44 _ _ _<|dC ((bt a6 (w64 (a7 - 1))) = 45) (fun h45=>?_) fun h45=>?_
 refine yK h45 H fun H=>wt (bY h45)<|sQ fun K46 hK47=>sr fun K48 hK49=>mv z<|q_lss z z<|nl<|hK49 _ _ _<|dC (a7 < 2) (fun h50=>?_) fun h50=>?_
 refine yK h50 H fun H=>wt (bY h50)<|sr fun K51 hK52=>asn z<|asn z<|nl<|hK52 _ _ _<|wr<|have hI53:=Hp.sub hI13 (sd se);?_
 cases H
 exact rt ⟨_, _, z, z, ⟨_, _, z, z, z⟩⟩ hI53
 refine nK h50 H fun H=>wf (bN h50)<|ws<|hK47 _ _ _<|sr fun K54 hK55=>mv z<|mv z<|q_sub z z<|iK H fun⟨h56, h56'⟩H=>q_is so9 z z h56 h56' z<|bK H fun y62 hy57 H=>cv bo112 (formeref08_solid_spec hy57 hI13) z z fun wd60 hI61=>asn z<|nl<|?_
 refine hK55 _ _ _<|sr fun K63 hK64=>mv z<|mv z<|iK H fun⟨h65, h65'⟩H=>q_is so9 z z h65 h65' z<|bK H fun y71 hy66 H=>cv bo112 (formeref08_solid_spec hy66 hI61) z z fun wd69 hI70=>asn z<|nl<|hK64 _ _ _<|sr fun K72 hK73=>mv z<|mv z<|?_
 refine bK H fun v74 hC H=>js 2 hI70 [(50, bool v74)] ?_ fun _ wd77 hI78=>?_
 refine have H:=hC;dC (y62 = true) (fun h80=>?_) fun h80=>?_
 refine yK h80 H fun H=>mv (hw:=gY z z z (vY h80)) z<|pkt (vY h80) z<|nl<|?_
 cases H
 exact je ⟨z, tv⟩ hI70
 refine nK h80 H fun H=>wN (gN z z z (vN h80) z)<|pkf (vN h80) z<|nl<|?_
 cases H
 exact je ⟨z, tv⟩ hI70
 refine asn z<|asn z<|nl<|hK73 _ _ _<|wr<|have hI81:=Hp.sub hI78 (sd se);?_
 cases H
 exact rt ⟨_, _, z, z, ⟨_, _, z, z, z⟩⟩ hI81
 refine nK h45 H fun H=>wf (bN h45)<|ws<|hK42 _ _ _<|sQ fun K82 hK83=>sr fun K84 hK85=>mv z<|q_neq z z<|nl<|hK85 _ _ _<|dC (¬ (bt a6 (w64 (a7 - 1))) = 126) (fun h86=>?_) fun h86=>?_
 refine yK h86 H fun H=>wt (bY h86)<|sr fun K87 hK88=>asn z<|asn z<|nl<|hK88 _ _ _<|wr<|have hI89:=Hp.sub hI13 (sd se);?_
 cases H
 exact rt ⟨_, _, z, z, ⟨_, _, z, z, z⟩⟩ hI89
 refine nK h86 H fun H=>wf (bN h86)<|ws<|hK83 _ _ _<|sQ fun K90 hK91=>sr fun K92 hK93=>mv z<|q_lss z z<|nl<|hK93 _ _ _<|dC (a7 < 2) (fun h94=>?_) fun h94=>?_
 refine yK h94 H fun H=>wt (bY h94)<|sr fun K95 hK96=>asn z<|asn z<|nl<|hK96 _ _ _<|wr<|have hI97:=Hp.sub hI13 (sd se);?_
 cases H
 exact rt ⟨_, _, z, z, ⟨_, _, z, z, z⟩⟩ hI97
 refine nK h94 H fun H=>wf (bN h94)<|ws<|hK91 _ _ _<|sr fun K98 hK99=>mv z<|mv z<|q_sub z z<|iK H fun⟨h100, h100'⟩H=>q_is so9 z z h100 h100' z<|bK H fun y106 hy101 H=>cv bo113 (formeref08_letter_spec hy101 hI13) z z fun wd104 hI105=>asn z<|nl<|?_
 refine hK99 _ _ _<|sQ fun K107 hK108=>sr fun K109 hK110=>mv z<|q_not z<|nl<|hK110 _ _ _<|dC ((!y106) = true) (fun h111=>?_) fun h111=>?_
 refine yK h111 H fun H=>wt (vY h111)<|sr fun K112 hK113=>asn z<|asn z<|nl<|hK113 _ _ _<|wr<|have hI114:=Hp.sub hI105 (sd se);?_
 cases H
 exact rt ⟨_, _, z, z, ⟨_, _, z, z, z⟩⟩ hI114
 refine nK h111 H fun H=>wf (vN h111)<|ws<|hK108 _ _ _<|sr fun K115 hK116=>mv z<|mv z<|q_sub z z<|bK2 H fun y122 y123 hy117 H=>cv bo114 (formeref08_run_spec hy117 hI105) z z fun wd120 hI121=>mv z<|exk z z<|exk z z<|asn z<|?_
 refine asn z<|nl<|hK116 _ _ _<|sr fun K124 hK125=>mv z<|mv z<|bK2 H fun y131 y132 hy126 H=>cv bo114 (formeref08_run_spec hy126 hI121) z z fun wd129 hI130=>mv z<|exk z z<|exk z z<|asn z<|asn z<|nl<|?_
 refine hK125 _ _ _<|sQ fun K133 hK134=>sr fun K135 hK136=>mv z<|fa fl28_0 z<|ld hI130 0 ag3 z z z<|q_lss z z<|mv z<|bK H fun v137 hC H=>js 5 hI130 [(3, pointer (some ⟨g11, 0, none⟩)), (14, int .u8 y123), (16, int .u8 y132), (84, bool v137)] ?_ fun _ wd140 hI141=>?_
 refine have H:=hC;dC (y122 < a1.Before) (fun h143=>?_) fun h143=>?_
 refine yK h143 H fun H=>Sk 4 z z (bY h143) z<|pkt (bY h143) z<|nl<|?_
 cases H
 exact je ⟨z, z, z, z, tv⟩ hI130
 refine nK h143 H fun H=>mv (hw:=gY z z z (bN h143)) z<|fa (hw:=gY z z z (bN h143)) fl28_1 z<|ld (hw:=gY z z z (bN h143)) hI130 0 ag3 z z z<|q_lss (hw:=gY z z z (bN h143)) z z<|pkf (bN h143) z<|nl<|?_
 cases H
 exact je ⟨z, z, z, z, tv⟩ hI130
 refine nl<|hK136 _ _ _<|dC (v137 = true) (fun h144=>?_) fun h144=>?_
 refine yK h144 H fun H=>wt (vY h144)<|sr fun K145 hK146=>asn z<|asn z<|nl<|hK146 _ _ _<|wr<|have hI147:=Hp.sub hI141 (sd se);?_
 cases H
 exact rt ⟨_, _, z, z, ⟨_, _, z, z, z⟩⟩ hI147
 refine nK h144 H fun H=>wf (vN h144)<|ws<|hK134 _ _ _<|sr fun K148 hK149=>lda hI141 0 ag28 z z z z<|mv z<|mv z<|bK H fun y155 hy150 H=>cv bo115 (formeref08_kept_spec hy150 hI141 hl4 hD5) z z fun wd153 hI154=>asn z<|nl<|hK149 _ _ _<|sr fun K156 hK157=>?_
 refine mv z<|q_not z<|mv z<|q_not z<|asn z<|asn z<|nl<|hK157 _ _ _<|wr<|have hI158:=Hp.sub hI154 (sd se);?_
 cases H
 exact rt ⟨_, _, z, z, ⟨_, _, z, z, z⟩⟩ hI158
theorem formeref08_List_spec {a1 a6 A2 c3 r1007 r1014 G L w} (H : formeref08_List a1 a6 = some (r1007, r1014)) (hI : Hp G L w) (hl4 : a1.Keep.length ≤ c3) (hD5 : Dat Kd.str G A2 a1.Keep) :
    Calls Tryz.prog 62 [agg [int .i64 a1.Before, int .i64 a1.Behind, slice A2 a1.Keep.length c3].toArray, string a6].toArray w fun e w' => ∃ (A1008 : Option Addr) (c1009 : Nat) (G' : Gh), G ≤ G' ∧ Hp G' (tk (slice A1008 r1007.length c1009) 2 51 :: L) w' ∧ r1007.length ≤ c1009 ∧ Dat k_api_Break G' A1008 r1007 ∧ Own A1008 c1009 ∧ e = .returned (tuple [slice A1008 r1007.length c1009, int .i64 r1014].toArray) := by
 refine calls_intro (N := 43) Tryz.func62 z z (Nat.le_of_ble_eq_true z)<|?_
 unfold formeref08_List at H
 refine sr fun K7 hK8=>bxk hI z z fun g10 wd11 hI12=>asn z<|asn z<|nl<|hK8 _ _ _<|sr fun K13 hK14=>lda hI12 0 ag28 z z z z<|bK H fun y20 hy15 H=>cv bo46 (formeref08_Valid_spec hy15 hI12 hl4 hD5) z z fun wd18 hI19=>asn z<|nl<|hK14 _ _ _<|sr fun K21 hK22=>?_
 refine mv z<|bK H fun y28 hy23 H=>cv bo41 (formeref06_Valid_spec hy23 hI19) z z fun wd26 hI27=>asn z<|nl<|hK22 _ _ _<|sQ fun K29 hK30=>sr fun K31 hK32=>mv z<|q_not z<|mv z<|bK H fun v33 hC H=>js 3 hI27 [(1, string a6), (2, pointer (some ⟨g10, 0, none⟩)), (21, bool v33)] ?_ fun _ wd36 hI37=>?_
 refine have H:=hC;dC ((!y20) = true) (fun h39=>?_) fun h39=>?_
 refine yK h39 H fun H=>Sk 2 z z (vY h39) z<|pkt (vY h39) z<|nl<|?_
 cases H
 exact je ⟨z, z, z, tv⟩ hI27
 refine nK h39 H fun H=>mv (hw:=gY z z z (vN h39)) z<|q_not (hw:=gY z z z (vN h39)) z<|pkf (vN h39) z<|nl<|?_
 cases H
 exact je ⟨z, z, z, tv⟩ hI27
 refine nl<|hK32 _ _ _<|dC (v33 = true) (fun h40=>?_) fun h40=>?_
 refine yK h40 H fun H=>wt (vY h40)<|sr fun K41 hK42=>asn z<|asn z<|nl<|hK42 _ _ _<|wr<|have hI43:=Hp.emp hI37;have hI45:=Hp.sub hI43 (sk (sd se));?_
 cases H
 exact ⟨.inr z, z, _, ⟨_, _, z, z, ⟨_, _, z, z, z⟩⟩, none, 0, _, gR, hI45, (show ([] : List api_Break).length ≤ 0 from Nat.le_refl 0), (Dat.nil _ _ _), Own.nil, z⟩
 refine nK h40 H fun H=>wf (vN h40)<|ws<|hK30 _ _ _<|sr fun K46 hK47=>asn z<|nl<|hK47 _ _ _<|sQ fun K48 hK49=>sr fun K50 hK51=>asn z<|nl<|hK51 _ _ _<|wb<|?_
 refine bK H fun v77 hC H=>?_
 refine wpc_mono (Q := fun e r ds w => e = .exit 0 ∧ ∃ (A78 : Option Addr) (c79 : Nat) (G84 : Gh), ds = [] ∧ G ≤ G84 ∧ Has [(8, slice A78 v77.length c79)] r ∧ Hp G84 (bx g10 [int .i64 a1.Before, int .i64 a1.Behind, slice A2 a1.Keep.length c3] 28 :: tk (slice A78 v77.length c79) 2 51 :: L) w ∧ v77.length ≤ c79 ∧ Dat k_api_Break G84 A78 v77 ∧ Own A78 c79 ∧ True) ?_ ?_
 refine have hI141:=Hp.emp hI37;have hI143:=Hp.front hI141 1 z;wpc_loop fun I hLp=>?_
 refine formeref08_List_l76.partial_correctness a1 a6 (fun v56 v63 o => ∀ (A57 : Option Addr) (c58 : Nat) (G89 : Gh) (r : Rg) (w : World), G ≤ G89 → Has [(1, string a6), (2, pointer (some ⟨g10, 0, none⟩)), (8, slice A57 v56.length c58), (9, int .i64 v63)] r → Hp G89 (bx g10 [int .i64 a1.Before, int .i64 a1.Behind, slice A2 a1.Keep.length c3] 28 :: tk (slice A57 v56.length c58) 2 51 :: L) w → v56.length ≤ c58 → Dat k_api_Break G89 A57 v56 → Own A57 c58 → o = v77 → I r [] w) ?_ ([] : List api_Break) 1 _ hC none 0 _ _ _ gR ⟨rfl, rfl, rfl, rfl, tv⟩ hI143 (show ([] : List api_Break).length ≤ 0 from Nat.le_refl 0) (Dat.nil _ _ _) Own.nil rfl
 intro _ ih v56 v63 o H A57 c58 G89 r wd91 hG90 hHas hI92 hl59 hD60 ho61 ho
 rw [ho] at H; clear ho
 rw [hHas.eq]; clear hHas
 refine hLp _ _ _<|sQ fun K93 hK94=>sr fun K95 hK96=>mv z<|mv z<|q_lens so9 z<|q_lss z z<|nl<|hK96 _ _ _<|dC (v63 < (a6.size : Int)) (fun h97=>?_) fun h97=>?_
 refine yK h97 H fun H=>wt (bY h97)<|ws<|hK94 _ _ _<|sQ fun K98 hK99=>bK H fun v100 hC H=>?_
 refine wpc_mono (Q := fun e r ds w => e = .normal ∧ ∃ (A101 : Option Addr) (c102 : Nat) (G107 : Gh), ds = [] ∧ G89 ≤ G107 ∧ Has [(1, string a6), (2, pointer (some ⟨g10, 0, none⟩)), (8, slice A101 v100.length c102), (9, int .i64 v63)] r ∧ Hp G107 (bx g10 [int .i64 a1.Before, int .i64 a1.Behind, slice A2 a1.Keep.length c3] 28 :: tk (slice A101 v100.length c102) 2 51 :: L) w ∧ v100.length ≤ c102 ∧ Dat k_api_Break G107 A101 v100 ∧ Own A101 c102 ∧ True) ?_ ?_
 refine have H:=hC;wb<|sr fun K112 hK113=>lda hI92 0 ag28 z z z z<|mv z<|mv z<|bK2 H fun y119 y120 hy114 H=>cv bo86 (formeref08_place_spec hy114 hI92 hl4 (Dat.mono hG90 hD5)) z z fun wd117 hI118=>mv z<|exk z z<|exk z z<|asn z<|asn z<|nl<|?_
 refine hK113 _ _ _<|sr fun K121 hK122=>mv z<|nl<|hK122 _ _ _<|dC (y119 = true) (fun h123=>?_) fun h123=>?_
 refine yK h123 H fun H=>wt (vY h123)<|wpc_region<|mv z<|mv z<|mv z<|q_build (vs := [(0, int .i64 v63), (1, bool y120)]) (cs := [int .i64 v63, bool y120]) ze51 pl51 z z<|?_
 refine q_bs hI118 (vs := [(0, agg [int .i64 v63, bool y120].toArray)]) (cs := [int .i64 v63, bool y120]) el45 ze51 rfl (by decide) rfl rfl (fun g125 wd126 hI127 => ?_)
 refine iK H fun h137 H=>?_
 refine q_app (xs := v56) (ys := [(⟨v63, y120⟩ : api_Break)]) k_api_Break hI127 2 el45 ze51 rfl rfl rfl rfl ho61 hl59 hD60 (src_bx hI127 0 so45 rfl rfl) ⟨[int .i64 v63, bool y120], _, rfl, (mk_api_Break (x := (⟨v63, y120⟩ : api_Break))), rfl⟩ rfl (by simp only [List.length_cons, List.length_nil]; omega) (by simp only [List.length_cons, List.length_nil]; omega) (fun A128 c129 G130 wd131 hG132 ho133 hl134 hD135 hI136 => ?_)
 refine asn z<|nl<|have hI138:=Hp.front hI136 2 z;have hI139:=Hp.front hI138 2 z;have hI140:=Hp.sub hI139 (sk (sk (sd se)));?_
 cases H
 exact ⟨z, A128, c129, _, z, hG132, ⟨z, z, z, z, tv⟩, hI140, hl134, hD135, ho133, tv⟩
 refine nK h123 H fun H=>wf (vN h123)<|ws<|?_
 cases H
 exact ⟨z, A57, c58, _, z, gR, ⟨z, z, z, z, tv⟩, hI118, hl59, hD60, ho61, tv⟩
 rintro e r ds wd109 ⟨rfl, A101, c102, G107, rfl, hG108, hHas, hI110, hl103, hD104, ho105, _⟩
 rw [hHas.eq]; clear hHas
 exact hK99 _ _ _<|wpc_region<|mv z<|q_add z z<|asn z<|nl<|ih _ _ _ H A101 c102 _ _ _ (gT hG90 hG108) ⟨z, z, z, z, tv⟩ hI110 hl103 hD104 ho105 z
 refine nK h97 H fun H=>wf (bN h97)<|wx<|?_
 cases H
 exact ⟨z, A57, c58, _, z, hG90, ⟨z, tv⟩, hI92, hl59, hD60, ho61, tv⟩
 rintro e r ds wd86 ⟨rfl, A78, c79, G84, rfl, hG85, hHas, hI87, hl80, hD81, ho82, _⟩
 rw [hHas.eq]; clear hHas
 refine hK49 _ _ _<|sr fun K144 hK145=>mv z<|asn z<|asn z<|nl<|hK145 _ _ _<|wr<|have hI146:=Hp.front hI87 1 z;have hI147:=Hp.sub hI146 (sk (sd se));?_
 cases H
 exact ⟨.inr z, z, _, ⟨_, _, z, z, ⟨_, _, z, z, z⟩⟩, A78, c79, _, hG85, hI147, hl80, hD81, ho82, z⟩
theorem formeref07_Shown_spec {a1 r1002 G L w} (H : formeref07_Shown a1 = some r1002) (hI : Hp G L w) :
    Calls Tryz.prog 87 [string a1].toArray w fun e w' => ∃ (A1003 : Option Addr) (c1004 : Nat) (G' : Gh), G ≤ G' ∧ Hp G' (tk (slice A1003 r1002.length c1004) 1 5 :: L) w' ∧ r1002.length ≤ c1004 ∧ Dat (Kd.int .u8) G' A1003 r1002 ∧ Own A1003 c1004 ∧ e = .returned (slice A1003 r1002.length c1004) := by
 refine calls_intro (N := 22) Tryz.func87 z z (Nat.le_of_ble_eq_true z)<|?_
 unfold formeref07_Shown at H
 refine sr fun K2 hK3=>asn z<|nl<|hK3 _ _ _<|sr fun K4 hK5=>asn z<|nl<|hK5 _ _ _<|sQ fun K6 hK7=>sr fun K8 hK9=>asn z<|nl<|hK9 _ _ _<|wb<|?_
 refine bK H fun v35 hC H=>wpc_mono (Q := fun e r ds w => e = .exit 0 ∧ ∃ (A36 : Option Addr) (c37 : Nat) (G42 : Gh), ds = [] ∧ G ≤ G42 ∧ Has [(3, slice A36 v35.length c37)] r ∧ Hp G42 (tk (slice A36 v35.length c37) 1 5 :: L) w ∧ v35.length ≤ c37 ∧ Dat (Kd.int .u8) G42 A36 v35 ∧ Own A36 c37 ∧ True) ?_ ?_
 refine have hI91:=Hp.emp hI;wpc_loop fun I hLp=>?_
 refine formeref07_Shown_l34.partial_correctness a1 (fun v14 v21 o => ∀ (A15 : Option Addr) (c16 : Nat) (G47 : Gh) (r : Rg) (w : World), G ≤ G47 → Has [(0, string a1), (3, slice A15 v14.length c16), (4, int .i64 v21)] r → Hp G47 (tk (slice A15 v14.length c16) 1 5 :: L) w → v14.length ≤ c16 → Dat (Kd.int .u8) G47 A15 v14 → Own A15 c16 → o = v35 → I r [] w) ?_ ([] : List Int) 0 _ hC none 0 _ _ _ gR ⟨rfl, rfl, rfl, tv⟩ hI91 (show ([] : List Int).length ≤ 0 from Nat.le_refl 0) (Dat.nil _ _ _) Own.nil rfl
 intro _ ih v14 v21 o H A15 c16 G47 r wd49 hG48 hHas hI50 hl17 hD18 ho19 ho
 rw [ho] at H; clear ho
 rw [hHas.eq]; clear hHas
 refine hLp _ _ _<|sQ fun K51 hK52=>sr fun K53 hK54=>mv z<|mv z<|q_lens so9 z<|q_lss z z<|nl<|hK54 _ _ _<|dC (v21 < (a1.size : Int)) (fun h55=>?_) fun h55=>?_
 refine yK h55 H fun H=>wt (bY h55)<|ws<|hK52 _ _ _<|sQ fun K56 hK57=>bK H fun v58 hC H=>?_
 refine wpc_mono (Q := fun e r ds w => e = .normal ∧ ∃ (A59 : Option Addr) (c60 : Nat) (G65 : Gh), ds = [] ∧ G47 ≤ G65 ∧ Has [(0, string a1), (3, slice A59 v58.length c60), (4, int .i64 v21)] r ∧ Hp G65 (tk (slice A59 v58.length c60) 1 5 :: L) w ∧ v58.length ≤ c60 ∧ Dat (Kd.int .u8) G65 A59 v58 ∧ Own A59 c60 ∧ True) ?_ ?_
 refine have H:=hC;wb<|sr fun K70 hK71=>mv z<|mv z<|iK H fun⟨h72, h72'⟩H=>q_is so9 z z h72 h72' z<|q_neq z z<|nl<|hK71 _ _ _<|dC (¬ (bt a1 v21) = 126) (fun h73=>?_) fun h73=>?_
 refine yK h73 H fun H=>wt (bY h73)<|wpc_region<|mv z<|mv z<|mv z<|iK H fun⟨h74, h74'⟩H=>q_is so9 z z h74 h74' z<|?_
 refine q_bs hI50 (vs := [(0, int .u8 (bt a1 v21))]) (cs := [int .u8 (bt a1 v21)]) el124 ze5 rfl (by decide) rfl rfl (fun g76 wd77 hI78 => ?_)
 refine iK H fun h88 H=>?_
 refine q_app (xs := v14) (ys := [bt a1 v21]) (Kd.int .u8) hI78 1 el124 ze5 rfl rfl rfl rfl ho19 hl17 hD18 (src_bx hI78 0 so124 rfl rfl) ⟨[int .u8 (bt a1 v21)], _, rfl, rfl, rfl⟩ rfl (by simp only [List.length_cons, List.length_nil]; omega) (by simp only [List.length_cons, List.length_nil]; omega) (fun A79 c80 G81 wd82 hG83 ho84 hl85 hD86 hI87 => ?_)
 refine asn z<|nl<|have hI89:=Hp.front hI87 1 z;have hI90:=Hp.sub hI89 (sk (sd se));?_
 cases H
 exact ⟨z, A79, c80, _, z, hG83, ⟨z, z, z, tv⟩, hI90, hl85, hD86, ho84, tv⟩
 refine nK h73 H fun H=>wf (bN h73)<|ws<|?_
 cases H
 exact ⟨z, A15, c16, _, z, gR, ⟨z, z, z, tv⟩, hI50, hl17, hD18, ho19, tv⟩
 rintro e r ds wd67 ⟨rfl, A59, c60, G65, rfl, hG66, hHas, hI68, hl61, hD62, ho63, _⟩
 rw [hHas.eq]; clear hHas
 exact hK57 _ _ _<|wpc_region<|mv z<|q_add z z<|asn z<|nl<|ih _ _ _ H A59 c60 _ _ _ (gT hG48 hG66) ⟨z, z, z, tv⟩ hI68 hl61 hD62 ho63 z
 refine nK h55 H fun H=>wf (bN h55)<|wx<|?_
 cases H
 exact ⟨z, A15, c16, _, z, hG48, ⟨z, tv⟩, hI50, hl17, hD18, ho19, tv⟩
 rintro e r ds wd44 ⟨rfl, A36, c37, G42, rfl, hG43, hHas, hI45, hl38, hD39, ho40, _⟩
 rw [hHas.eq]; clear hHas
 refine hK7 _ _ _<|sr fun K93 hK94=>mv z<|asn z<|nl<|hK94 _ _ _<|wr<|?_
 cases H
 exact ⟨.inr z, z, _, ⟨_, _, z, z, z⟩, A36, c37, _, hG43, hI45, hl38, hD39, ho40, z⟩
theorem formeref07_Has_spec {a1 a10 A2 c3 A6 c7 r1011 r1012 G L w} (H : formeref07_Has a1 a10 = some (r1011, r1012)) (hI : Hp G L w) (hl4 : a1.Glyphs.length ≤ c3) (hD5 : Dat k_api_Glyph G A2 a1.Glyphs) (hl8 : a1.Kerns.length ≤ c7) (hD9 : Dat k_api_Kern G A6 a1.Kerns) :
    Calls Tryz.prog 63 [agg [slice A2 a1.Glyphs.length c3, slice A6 a1.Kerns.length c7].toArray, string a10].toArray w fun e w' => Hp G L w' ∧ e = .returned (tuple [bool r1011, int .i64 r1012].toArray) := by
 refine calls_intro (N := 35) Tryz.func63 z z (Nat.le_of_ble_eq_true z)<|?_
 unfold formeref07_Has at H
 refine sr fun K11 hK12=>bxk hI z z fun g14 wd15 hI16=>asn z<|asn z<|nl<|hK12 _ _ _<|sr fun K17 hK18=>lda hI16 0 ag25 z z z z<|bK H fun y24 hy19 H=>cv bo40 (formeref07_Valid_spec hy19 hI16 hl4 hD5 hl8 hD9) z z fun wd22 hI23=>asn z<|nl<|hK18 _ _ _<|sr fun K25 hK26=>?_
 refine mv z<|bK H fun y32 hy27 H=>cv bo41 (formeref06_Valid_spec hy27 hI23) z z fun wd30 hI31=>asn z<|nl<|hK26 _ _ _<|sQ fun K33 hK34=>sr fun K35 hK36=>mv z<|q_not z<|mv z<|bK H fun v37 hC H=>js 3 hI31 [(1, string a10), (2, pointer (some ⟨g14, 0, none⟩)), (19, bool v37)] ?_ fun _ wd40 hI41=>?_
 refine have H:=hC;dC ((!y24) = true) (fun h43=>?_) fun h43=>?_
 refine yK h43 H fun H=>Sk 2 z z (vY h43) z<|pkt (vY h43) z<|nl<|?_
 cases H
 exact je ⟨z, z, z, tv⟩ hI31
 refine nK h43 H fun H=>mv (hw:=gY z z z (vN h43)) z<|q_not (hw:=gY z z z (vN h43)) z<|pkf (vN h43) z<|nl<|?_
 cases H
 exact je ⟨z, z, z, tv⟩ hI31
 refine nl<|hK36 _ _ _<|dC (v37 = true) (fun h44=>?_) fun h44=>?_
 refine yK h44 H fun H=>wt (vY h44)<|sr fun K45 hK46=>asn z<|asn z<|nl<|hK46 _ _ _<|wr<|have hI47:=Hp.sub hI41 (sd se);?_
 cases H
 exact rt ⟨_, _, z, z, ⟨_, _, z, z, z⟩⟩ hI47
 refine nK h44 H fun H=>wf (vN h44)<|ws<|hK34 _ _ _<|sr fun K48 hK49=>mv z<|bK H fun y55 hy50 H=>q_cv (vs := [string a10]) bo87 z z (formeref07_Shown_spec hy50 hI41)<|?_
 rintro _ wd53 ⟨A56, c57, G51, hG52, hI54, hl58, hD59, ho60, rfl⟩
 refine ⟨_, rfl, ?_⟩
 refine asn z<|nl<|hK49 _ _ _<|sQ fun K62 hK63=>sr fun K64 hK65=>asn z<|nl<|hK65 _ _ _<|wb<|bK H fun o85 hC H=>?_
 refine wpc_mono (Q := fun e r ds w => match (generalizing := false) o85 with | (Sum.inl _) => e = .ret ∧ ds = [] ∧ Has [(4, bool false), (5, int .i64 0)] r ∧ Hp G51 (bx g14 [slice A2 a1.Glyphs.length c3, slice A6 a1.Kerns.length c7] 25 :: tk (slice A56 y55.length c57) 1 5 :: L) w ∧ True | (Sum.inr _) => e = .exit 0 ∧ ds = [] ∧ Has [] r ∧ Hp G51 (bx g14 [slice A2 a1.Glyphs.length c3, slice A6 a1.Kerns.length c7] 25 :: tk (slice A56 y55.length c57) 1 5 :: L) w ∧ True) ?_ ?_
 refine have hI123:=Hp.front hI54 1 z;wpc_loop fun I hLp=>?_
 refine formeref07_Has_l76.partial_correctness a1 y55 (fun v70 o => ∀ (r : Rg) (w : World), Has [(2, pointer (some ⟨g14, 0, none⟩)), (8, slice A56 y55.length c57), (9, int .i64 v70)] r → Hp G51 (bx g14 [slice A2 a1.Glyphs.length c3, slice A6 a1.Kerns.length c7] 25 :: tk (slice A56 y55.length c57) 1 5 :: L) w → o = o85 → I r [] w) ?_ 0 _ hC _ _ ⟨rfl, rfl, rfl, tv⟩ hI123 rfl
 intro _ ih v70 o H r wd88 hHas hI89 ho
 rw [ho] at H; clear ho
 rw [hHas.eq]; clear hHas
 refine hLp _ _ _<|sQ fun K90 hK91=>sr fun K92 hK93=>mv z<|mv z<|q_len so124 z<|q_lss z z<|nl<|hK93 _ _ _<|dC (v70 < (y55.length : Int)) (fun h94=>?_) fun h94=>?_
 refine yK h94 H fun H=>wt (bY h94)<|ws<|hK91 _ _ _<|sQ fun K95 hK96=>wb<|sQ fun K97 hK98=>?_
 refine wpc_class hI89 mixo (by kernel_rfl) ?_
 refine wq' (fun Gq w hGq Iq=>lda Iq 0 ag25 z z z z wqd) z z<|wq' (fun Gq w hGq Iq=>mv z wqd) z z<|wq' (fun Gq w hGq Iq=>mv z wqd) z z<|iK H fun⟨h111, h111'⟩H=>?_
 obtain ⟨ad112, cs113, hA114, hK115, hn116, hc117⟩ := Dat.get hD59 (0 : Int) (v70) h111 h111'
 obtain rfl := hK115
 refine wq' (fun Gq w hGq Iq=>q_ia el124 z hA114 z h111 h111' wqd) z z<|wq' (fun Gq w hGq Iq=>q_lf Iq ag5 z (hGq.cel _ _ (hc117 0 _ z)) wqd) z z<|bK H fun y119 hy118 H=>wk (vs := [agg [slice A2 a1.Glyphs.length c3, slice A6 a1.Kerns.length c7].toArray, int .u8 (y55.getD (Int.toNat v70) (0 : Int))]) (v := int .i64 y119) bo74 z z (fun Gq w hGq Iq => ?_) ?_
 refine Calls.mono (formeref07_Glyph_spec hy118 Iq hl4 (Dat.mono (gT hG52 hGq) hD5) hl8 (Dat.mono (gT hG52 hGq) hD9))<|?_
 rintro _ w2 ⟨I2, rfl⟩
 exact ⟨z, _, hGq, I2⟩
 refine wq' (fun Gq w hGq Iq=>q_lss z z wqd) z z<|wz fun wd109 G107 hG108 hI110=>hK98 _ _ _<|dC (y119 < 0) (fun h120=>?_) fun h120=>?_
 refine yK h120 H fun H=>wt (bY h120)<|sr fun K121 hK122=>asn z<|asn z<|nl<|hK122 _ _ _<|wr<|?_
 cases H
 exact ⟨z, z, ⟨z, z, tv⟩, (Hp.low hG108 hI110), tv⟩
 exact nK h120 H fun H=>wf (bN h120)<|ws<|hK96 _ _ _<|wpc_region<|mv z<|q_add z z<|asn z<|nl<|ih _ _ H _ _ ⟨z, z, z, tv⟩ (Hp.low hG108 hI110) z
 refine nK h94 H fun H=>wf (bN h94)<|wx<|?_
 cases H
 exact ⟨z, z, trivial, hI89, tv⟩
 rcases o85 with _ | _
 rintro e r ds wd79 ⟨rfl, rfl, hHas, hI80, _⟩
 rw [hHas.eq]; clear hHas
 refine have hI124:=Hp.sub hI80 (sd (sd se));?_
 cases H
 exact rt ⟨_, _, z, z, ⟨_, _, z, z, z⟩⟩ (Hp.low hG52 hI124)
 rintro e r ds wd83 ⟨rfl, rfl, hHas, hI84, _⟩
 rw [hHas.eq]; clear hHas
 refine hK63 _ _ _<|sr fun K125 hK126=>asn z<|asn z<|nl<|hK126 _ _ _<|wr<|have hI127:=Hp.sub hI84 (sd (sd se));?_
 cases H
 exact rt ⟨_, _, z, z, ⟨_, _, z, z, z⟩⟩ (Hp.low hG52 hI127)
theorem formeref17_check_spec {a1 a10 a15 a16 A2 c3 A6 c7 A11 c12 r1017 r1024 G L w} (H : formeref17_check a1 a10 a15 a16 = some (r1017, r1024)) (hI : Hp G L w) (hl4 : a1.Glyphs.length ≤ c3) (hD5 : Dat k_api_Glyph G A2 a1.Glyphs) (hl8 : a1.Kerns.length ≤ c7) (hD9 : Dat k_api_Kern G A6 a1.Kerns) (hl13 : a10.Keep.length ≤ c12) (hD14 : Dat Kd.str G A11 a10.Keep) :
    Calls Tryz.prog 29 [agg [slice A2 a1.Glyphs.length c3, slice A6 a1.Kerns.length c7].toArray, agg [int .i64 a10.Before, int .i64 a10.Behind, slice A11 a10.Keep.length c12].toArray, string a15, int .i64 a16].toArray w fun e w' => ∃ (A1018 : Option Addr) (c1019 : Nat) (G' : Gh), G ≤ G' ∧ Hp G' (tk (slice A1018 r1017.length c1019) 2 51 :: L) w' ∧ r1017.length ≤ c1019 ∧ Dat k_api_Break G' A1018 r1017 ∧ Own A1018 c1019 ∧ e = .returned (tuple [slice A1018 r1017.length c1019, int .i64 r1024].toArray) := by
 refine calls_intro (N := 68) Tryz.func29 z z (Nat.le_of_ble_eq_true z)<|?_
 unfold formeref17_check at H
 refine sr fun K17 hK18=>bxk hI z z fun g20 wd21 hI22=>bxk hI22 z z fun g24 wd25 hI26=>asn z<|asn z<|nl<|hK18 _ _ _<|sr fun K27 hK28=>lda hI26 1 ag25 z z z z<|bK H fun y34 hy29 H=>cv bo40 (formeref07_Valid_spec hy29 hI26 hl4 hD5 hl8 hD9) z z fun wd32 hI33=>asn z<|nl<|hK28 _ _ _<|?_
 refine sr fun K35 hK36=>lda hI33 0 ag28 z z z z<|mv z<|bK2 H fun y42 y49 hy37 H=>q_cv (vs := [agg [int .i64 a10.Before, int .i64 a10.Behind, slice A11 a10.Keep.length c12].toArray, string a15]) bo62 z z (formeref08_List_spec hy37 hI33 hl13 hD14)<|?_
 rintro _ wd40 ⟨A43, c44, G38, hG39, hI41, hl45, hD46, ho47, rfl⟩
 refine ⟨_, rfl, ?_⟩
 refine mv z<|exk z z<|exk z z<|asn z<|asn z<|nl<|hK36 _ _ _<|sr fun K50 hK51=>mv z<|bK H fun y57 hy52 H=>cv bo42 (formeref17_scaled_spec hy52 hI41) z z fun wd55 hI56=>asn z<|nl<|hK51 _ _ _<|?_
 refine sQ fun K58 hK59=>sr fun K60 hK61=>mv z<|q_not z<|mv z<|bK H fun v62 hC H=>?_
 refine jS 3 G38 [(2, string a15), (4, pointer (some ⟨g20, 0, none⟩)), (11, slice A43 y42.length c44), (13, bool y57), (34, bool v62)] (bx g24 [int .i64 a10.Before, int .i64 a10.Behind, slice A11 a10.Keep.length c12] 28 :: bx g20 [slice A2 a1.Glyphs.length c3, slice A6 a1.Kerns.length c7] 25 :: tk (slice A43 y42.length c44) 2 51 :: L) ?_ fun _ wd65 hI66=>?_
 refine have H:=hC;dC ((!y34) = true) (fun h68=>?_) fun h68=>?_
 refine yK h68 H fun H=>Sk 2 z z (vY h68) z<|pkt (vY h68) z<|nl<|have hI69:=Hp.front hI56 2 z;have hI70:=Hp.front hI69 2 z;?_
 cases H
 exact je ⟨z, z, z, z, z, tv⟩ hI70
 refine nK h68 H fun H=>mv (hw:=gY z z z (vN h68)) z<|q_neq (hw:=gY z z z (vN h68)) z z<|pkf (vN h68) z<|nl<|have hI71:=Hp.front hI56 2 z;have hI72:=Hp.front hI71 2 z;?_
 cases H
 exact je ⟨z, z, z, z, z, tv⟩ hI72
 refine mv z<|bK H fun v73 hC H=>js 3 hI66 [(2, string a15), (4, pointer (some ⟨g20, 0, none⟩)), (11, slice A43 y42.length c44), (38, bool v73)] ?_ fun _ wd76 hI77=>?_
 refine have H:=hC;dC (v62 = true) (fun h79=>?_) fun h79=>?_
 refine yK h79 H fun H=>Sk 2 z z (vY h79) z<|pkt (vY h79) z<|nl<|?_
 cases H
 exact je ⟨z, z, z, z, tv⟩ hI66
 refine nK h79 H fun H=>mv (hw:=gY z z z (vN h79)) z<|q_not (hw:=gY z z z (vN h79)) z<|pkf (vN h79) z<|nl<|?_
 cases H
 exact je ⟨z, z, z, z, tv⟩ hI66
 refine nl<|hK61 _ _ _<|dC (v73 = true) (fun h80=>?_) fun h80=>?_
 refine yK h80 H fun H=>wt (vY h80)<|sr fun K81 hK82=>asn z<|asn z<|nl<|hK82 _ _ _<|wr<|have hI83:=Hp.emp hI77;have hI85:=Hp.sub hI83 (sk (sd (sd (sd se))));?_
 cases H
 exact ⟨.inr z, z, _, ⟨_, _, z, z, ⟨_, _, z, z, z⟩⟩, none, 0, _, hG39, hI85, (show ([] : List api_Break).length ≤ 0 from Nat.le_refl 0), (Dat.nil _ _ _), Own.nil, z⟩
 refine nK h80 H fun H=>wf (vN h80)<|ws<|hK59 _ _ _<|sr fun K86 hK87=>lda hI77 1 ag25 z z z z<|mv z<|bK2 H fun y93 y94 hy88 H=>cv bo63 (formeref07_Has_spec hy88 hI77 hl4 (Dat.mono hG39 hD5) hl8 (Dat.mono hG39 hD9)) z z fun wd91 hI92=>mv z<|exk z z<|exk z z<|asn z<|asn z<|?_
 refine nl<|hK87 _ _ _<|sQ fun K95 hK96=>sr fun K97 hK98=>mv z<|q_not z<|nl<|hK98 _ _ _<|dC ((!y93) = true) (fun h99=>?_) fun h99=>?_
 refine yK h99 H fun H=>wt (vY h99)<|sr fun K100 hK101=>asn z<|asn z<|nl<|hK101 _ _ _<|wr<|have hI102:=Hp.emp hI92;have hI104:=Hp.sub hI102 (sk (sd (sd (sd se))));?_
 cases H
 exact ⟨.inr z, z, _, ⟨_, _, z, z, ⟨_, _, z, z, z⟩⟩, none, 0, _, hG39, hI104, (show ([] : List api_Break).length ≤ 0 from Nat.le_refl 0), (Dat.nil _ _ _), Own.nil, z⟩
 refine nK h99 H fun H=>wf (vN h99)<|ws<|hK96 _ _ _<|sr fun K105 hK106=>lda hI92 1 ag25 z z z z<|bK2 H fun y112 y113 hy107 H=>cv bo63 (formeref07_Has_spec hy107 hI92 hl4 (Dat.mono hG39 hD5) hl8 (Dat.mono hG39 hD9)) z z fun wd110 hI111=>mv z<|exk z z<|exk z z<|asn z<|asn z<|nl<|?_
 refine hK106 _ _ _<|sQ fun K114 hK115=>sr fun K116 hK117=>asn z<|nl<|hK117 _ _ _<|wb<|bK H fun o137 hC H=>?_
 refine wpc_mono (Q := fun e r ds w => match (generalizing := false) o137 with | (Sum.inl _) => e = .ret ∧ ds = [] ∧ Has [(8, slice none 0 0), (9, int .i64 20)] r ∧ Hp G38 (bx g24 [int .i64 a10.Before, int .i64 a10.Behind, slice A11 a10.Keep.length c12] 28 :: bx g20 [slice A2 a1.Glyphs.length c3, slice A6 a1.Kerns.length c7] 25 :: tk (slice A43 y42.length c44) 2 51 :: L) w ∧ True | (Sum.inr _) => e = .exit 0 ∧ ds = [] ∧ Has [(11, slice A43 y42.length c44)] r ∧ Hp G38 (bx g24 [int .i64 a10.Before, int .i64 a10.Behind, slice A11 a10.Keep.length c12] 28 :: bx g20 [slice A2 a1.Glyphs.length c3, slice A6 a1.Kerns.length c7] 25 :: tk (slice A43 y42.length c44) 2 51 :: L) w ∧ True) ?_ ?_
 refine wpc_loop fun I hLp=>?_
 refine formeref17_check_l128.partial_correctness y42 y112 (fun v122 o => ∀ (r : Rg) (w : World), Has [(11, slice A43 y42.length c44), (16, bool y112), (18, int .i64 v122)] r → Hp G38 (bx g24 [int .i64 a10.Before, int .i64 a10.Behind, slice A11 a10.Keep.length c12] 28 :: bx g20 [slice A2 a1.Glyphs.length c3, slice A6 a1.Kerns.length c7] 25 :: tk (slice A43 y42.length c44) 2 51 :: L) w → o = o137 → I r [] w) ?_ 0 _ hC _ _ ⟨rfl, rfl, rfl, tv⟩ hI111 rfl
 intro _ ih v122 o H r wd140 hHas hI141 ho
 rw [ho] at H; clear ho
 rw [hHas.eq]; clear hHas
 refine hLp _ _ _<|sQ fun K142 hK143=>sr fun K144 hK145=>mv z<|mv z<|q_len so45 z<|q_lss z z<|nl<|hK145 _ _ _<|dC (v122 < (y42.length : Int)) (fun h146=>?_) fun h146=>?_
 refine yK h146 H fun H=>wt (bY h146)<|ws<|hK143 _ _ _<|sQ fun K147 hK148=>wb<|sr fun K149 hK150=>mv z<|mv z<|iK H fun⟨h151, h151'⟩H=>?_
 obtain ⟨ad152, cs153, hA154, hK155, hn156, hc157⟩ := Dat.get hD46 z_api_Break (v122) h151 h151'
 obtain ⟨rfl⟩ := open_api_Break hK155
 refine q_ia el45 z hA154 z h151 h151'<|q_fa fl51_1 z z<|q_lf hI141 ag4 z (gR.cel _ _ (hc157 1 _ z))<|mv z<|bK H fun v158 hC H=>js 3 hI141 [(11, slice A43 y42.length c44), (16, bool y112), (18, int .i64 v122), (66, bool v158)] ?_ fun _ wd161 hI162=>?_
 refine have H:=hC;dC (((y42.getD (Int.toNat v122) z_api_Break).Hyphen) = true) (fun h164=>?_) fun h164=>?_
 refine yK h164 H fun H=>mv (hw:=gY z z z (vY h164)) z<|q_not (hw:=gY z z z (vY h164)) z<|pkt (vY h164) z<|nl<|?_
 cases H
 exact je ⟨z, z, z, z, tv⟩ hI141
 refine nK h164 H fun H=>Sk 2 z z (vN h164) z<|pkf (vN h164) z<|nl<|?_
 cases H
 exact je ⟨z, z, z, z, tv⟩ hI141
 refine nl<|hK150 _ _ _<|dC (v158 = true) (fun h165=>?_) fun h165=>?_
 refine yK h165 H fun H=>wt (vY h165)<|sr fun K166 hK167=>asn z<|asn z<|nl<|hK167 _ _ _<|wr<|?_
 cases H
 exact ⟨z, z, ⟨z, z, tv⟩, hI162, tv⟩
 exact nK h165 H fun H=>wf (vN h165)<|ws<|hK148 _ _ _<|wpc_region<|mv z<|q_add z z<|asn z<|nl<|ih _ _ H _ _ ⟨z, z, z, tv⟩ hI162 z
 refine nK h146 H fun H=>wf (bN h146)<|wx<|?_
 cases H
 exact ⟨z, z, ⟨z, tv⟩, hI141, tv⟩
 rcases o137 with _ | _
 rintro e r ds wd131 ⟨rfl, rfl, hHas, hI132, _⟩
 rw [hHas.eq]; clear hHas
 refine have hI168:=Hp.emp hI132;have hI170:=Hp.sub hI168 (sk (sd (sd (sd se))));?_
 cases H
 exact ⟨.inr z, z, _, ⟨_, _, z, z, ⟨_, _, z, z, z⟩⟩, none, 0, _, hG39, hI170, (show ([] : List api_Break).length ≤ 0 from Nat.le_refl 0), (Dat.nil _ _ _), Own.nil, z⟩
 rintro e r ds wd135 ⟨rfl, rfl, hHas, hI136, _⟩
 rw [hHas.eq]; clear hHas
 refine hK115 _ _ _<|sr fun K171 hK172=>mv z<|asn z<|asn z<|nl<|hK172 _ _ _<|wr<|have hI173:=Hp.front hI136 2 z;have hI174:=Hp.sub hI173 (sk (sd (sd se)));?_
 cases H
 exact ⟨.inr z, z, _, ⟨_, _, z, z, ⟨_, _, z, z, z⟩⟩, A43, c44, _, hG39, hI174, hl45, hD46, ho47, z⟩
theorem formeref06_shown_spec {a1 r1002 G L w} (H : formeref06_shown a1 = some r1002) (hI : Hp G L w) :
    Calls Tryz.prog 68 [string a1].toArray w fun e w' => Hp G L w' ∧ e = .returned (string r1002) := by
 refine calls_intro (N := 23) Tryz.func68 z z (Nat.le_of_ble_eq_true z)<|?_
 unfold formeref06_shown at H
 refine sr fun K2 hK3=>asn z<|nl<|hK3 _ _ _<|sr fun K4 hK5=>asn z<|nl<|hK5 _ _ _<|sQ fun K6 hK7=>sr fun K8 hK9=>asn z<|nl<|hK9 _ _ _<|wb<|?_
 refine bK H fun v35 hC H=>wpc_mono (Q := fun e r ds w => e = .exit 0 ∧ ∃ (A36 : Option Addr) (c37 : Nat) (G42 : Gh), ds = [] ∧ G ≤ G42 ∧ Has [(3, slice A36 v35.length c37)] r ∧ Hp G42 (tk (slice A36 v35.length c37) 1 5 :: L) w ∧ v35.length ≤ c37 ∧ Dat (Kd.int .u8) G42 A36 v35 ∧ Own A36 c37 ∧ True) ?_ ?_
 refine have hI91:=Hp.emp hI;wpc_loop fun I hLp=>?_
 refine formeref06_shown_l34.partial_correctness a1 (fun v14 v21 o => ∀ (A15 : Option Addr) (c16 : Nat) (G47 : Gh) (r : Rg) (w : World), G ≤ G47 → Has [(0, string a1), (3, slice A15 v14.length c16), (4, int .i64 v21)] r → Hp G47 (tk (slice A15 v14.length c16) 1 5 :: L) w → v14.length ≤ c16 → Dat (Kd.int .u8) G47 A15 v14 → Own A15 c16 → o = v35 → I r [] w) ?_ ([] : List Int) 0 _ hC none 0 _ _ _ gR ⟨rfl, rfl, rfl, tv⟩ hI91 (show ([] : List Int).length ≤ 0 from Nat.le_refl 0) (Dat.nil _ _ _) Own.nil rfl
 intro _ ih v14 v21 o H A15 c16 G47 r wd49 hG48 hHas hI50 hl17 hD18 ho19 ho
 rw [ho] at H; clear ho
 rw [hHas.eq]; clear hHas
 refine hLp _ _ _<|sQ fun K51 hK52=>sr fun K53 hK54=>mv z<|mv z<|q_lens so9 z<|q_lss z z<|nl<|hK54 _ _ _<|dC (v21 < (a1.size : Int)) (fun h55=>?_) fun h55=>?_
 refine yK h55 H fun H=>wt (bY h55)<|ws<|hK52 _ _ _<|sQ fun K56 hK57=>bK H fun v58 hC H=>?_
 refine wpc_mono (Q := fun e r ds w => e = .normal ∧ ∃ (A59 : Option Addr) (c60 : Nat) (G65 : Gh), ds = [] ∧ G47 ≤ G65 ∧ Has [(0, string a1), (3, slice A59 v58.length c60), (4, int .i64 v21)] r ∧ Hp G65 (tk (slice A59 v58.length c60) 1 5 :: L) w ∧ v58.length ≤ c60 ∧ Dat (Kd.int .u8) G65 A59 v58 ∧ Own A59 c60 ∧ True) ?_ ?_
 refine have H:=hC;wb<|sr fun K70 hK71=>mv z<|mv z<|iK H fun⟨h72, h72'⟩H=>q_is so9 z z h72 h72' z<|q_neq z z<|nl<|hK71 _ _ _<|dC (¬ (bt a1 v21) = 126) (fun h73=>?_) fun h73=>?_
 refine yK h73 H fun H=>wt (bY h73)<|wpc_region<|mv z<|mv z<|mv z<|iK H fun⟨h74, h74'⟩H=>q_is so9 z z h74 h74' z<|?_
 refine q_bs hI50 (vs := [(0, int .u8 (bt a1 v21))]) (cs := [int .u8 (bt a1 v21)]) el124 ze5 rfl (by decide) rfl rfl (fun g76 wd77 hI78 => ?_)
 refine iK H fun h88 H=>?_
 refine q_app (xs := v14) (ys := [bt a1 v21]) (Kd.int .u8) hI78 1 el124 ze5 rfl rfl rfl rfl ho19 hl17 hD18 (src_bx hI78 0 so124 rfl rfl) ⟨[int .u8 (bt a1 v21)], _, rfl, rfl, rfl⟩ rfl (by simp only [List.length_cons, List.length_nil]; omega) (by simp only [List.length_cons, List.length_nil]; omega) (fun A79 c80 G81 wd82 hG83 ho84 hl85 hD86 hI87 => ?_)
 refine asn z<|nl<|have hI89:=Hp.front hI87 1 z;have hI90:=Hp.sub hI89 (sk (sd se));?_
 cases H
 exact ⟨z, A79, c80, _, z, hG83, ⟨z, z, z, tv⟩, hI90, hl85, hD86, ho84, tv⟩
 refine nK h73 H fun H=>wf (bN h73)<|ws<|?_
 cases H
 exact ⟨z, A15, c16, _, z, gR, ⟨z, z, z, tv⟩, hI50, hl17, hD18, ho19, tv⟩
 rintro e r ds wd67 ⟨rfl, A59, c60, G65, rfl, hG66, hHas, hI68, hl61, hD62, ho63, _⟩
 rw [hHas.eq]; clear hHas
 exact hK57 _ _ _<|wpc_region<|mv z<|q_add z z<|asn z<|nl<|ih _ _ _ H A59 c60 _ _ _ (gT hG48 hG66) ⟨z, z, z, tv⟩ hI68 hl61 hD62 ho63 z
 refine nK h55 H fun H=>wf (bN h55)<|wx<|?_
 cases H
 exact ⟨z, A15, c16, _, z, hG48, ⟨z, tv⟩, hI50, hl17, hD18, ho19, tv⟩
 rintro e r ds wd44 ⟨rfl, A36, c37, G42, rfl, hG43, hHas, hI45, hl38, hD39, ho40, _⟩
 rw [hHas.eq]; clear hHas
 refine hK7 _ _ _<|sr fun K93 hK94=>mv z<|q_cvb hI45 el124 ik5 so9 z z hD39<|asn z<|nl<|hK94 _ _ _<|wr<|have hI95:=Hp.sub hI45 (sd se);?_
 cases H
 exact rt ⟨_, _, z, z, z⟩ (Hp.low hG43 hI95)
theorem formeref06_Shown_spec {a1 r1002 r1003 G L w} (H : formeref06_Shown a1 = some (r1002, r1003)) (hI : Hp G L w) :
    Calls Tryz.prog 51 [string a1].toArray w fun e w' => Hp G L w' ∧ e = .returned (tuple [string r1002, int .i64 r1003].toArray) := by
 refine calls_intro (N := 9) Tryz.func51 z z (Nat.le_of_ble_eq_true z)<|?_
 unfold formeref06_Shown at H
 refine sr fun K2 hK3=>asn z<|asn z<|nl<|hK3 _ _ _<|sQ fun K4 hK5=>sr fun K6 hK7=>mv z<|bK H fun y13 hy8 H=>cv bo41 (formeref06_Valid_spec hy8 hI) z z fun wd11 hI12=>q_not z<|nl<|hK7 _ _ _<|dC ((!y13) = true) (fun h14=>?_) fun h14=>?_
 refine yK h14 H fun H=>wt (vY h14)<|sr fun K15 hK16=>asn z<|asn z<|nl<|hK16 _ _ _<|wr<|?_
 cases H
 exact rt ⟨_, _, z, z, ⟨_, _, z, z, z⟩⟩ hI12
 refine nK h14 H fun H=>wf (vN h14)<|ws<|hK5 _ _ _<|sr fun K17 hK18=>mv z<|bK H fun y24 hy19 H=>cv bo68 (formeref06_shown_spec hy19 hI12) z z fun wd22 hI23=>asn z<|asn z<|nl<|hK18 _ _ _<|wr<|?_
 cases H
 exact rt ⟨_, _, z, z, ⟨_, _, z, z, z⟩⟩ hI23
theorem formeref06_Trim_spec {a1 r1002 r1003 G L w} (H : formeref06_Trim a1 = some (r1002, r1003)) (hI : Hp G L w) :
    Calls Tryz.prog 52 [string a1].toArray w fun e w' => Hp G L w' ∧ e = .returned (tuple [string r1002, int .i64 r1003].toArray) := by
 refine calls_intro (N := 34) Tryz.func52 z z (Nat.le_of_ble_eq_true z)<|?_
 unfold formeref06_Trim at H
 refine sr fun K2 hK3=>asn z<|asn z<|nl<|hK3 _ _ _<|sQ fun K4 hK5=>sr fun K6 hK7=>mv z<|bK H fun y13 hy8 H=>cv bo41 (formeref06_Valid_spec hy8 hI) z z fun wd11 hI12=>q_not z<|nl<|hK7 _ _ _<|dC ((!y13) = true) (fun h14=>?_) fun h14=>?_
 refine yK h14 H fun H=>wt (vY h14)<|sr fun K15 hK16=>asn z<|asn z<|nl<|hK16 _ _ _<|wr<|?_
 cases H
 exact rt ⟨_, _, z, z, ⟨_, _, z, z, z⟩⟩ hI12
 refine nK h14 H fun H=>wf (vN h14)<|ws<|hK5 _ _ _<|sQ fun K17 hK18=>wb<|bK H fun v30 hC H=>wpc_mono (Q := fun e r ds w => e = .exit 0 ∧ ds = [] ∧ Has [(0, string v30)] r ∧ Hp G (L) w ∧ True) ?_ ?_
 refine wpc_loop fun I hLp=>?_
 refine formeref06_Trim_l29.partial_correctness (fun v23 o => ∀ (r : Rg) (w : World), Has [(0, string v23)] r → Hp G (L) w → o = v30 → I r [] w) ?_ a1 _ hC _ _ ⟨rfl, tv⟩ hI12 rfl
 intro _ ih v23 o H r wd38 hHas hI39 ho
 rw [ho] at H; clear ho
 rw [hHas.eq]; clear hHas
 refine hLp _ _ _<|sQ fun K40 hK41=>sr fun K42 hK43=>mv z<|q_lens so9 z<|q_gtr z z<|mv z<|bK H fun v44 hC H=>js 4 hI39 [(0, string v23), (14, bool v44)] ?_ fun _ wd47 hI48=>?_
 refine have H:=hC;dC (0 < (v23.size : Int)) (fun h50=>?_) fun h50=>?_
 refine yK h50 H fun H=>mv (hw:=gY z z z (bY h50)) z<|iK H fun⟨h51, h51'⟩H=>q_is (hw:=gY z z z (bY h50)) so9 z z h51 h51' z<|q_eql (hw:=gY z z z (bY h50)) z z<|pkt (bY h50) z<|nl<|?_
 cases H
 exact je ⟨z, z, tv⟩ hI39
 refine nK h50 H fun H=>Sk 3 z z (bN h50) z<|pkf (bN h50) z<|nl<|?_
 cases H
 exact je ⟨z, z, tv⟩ hI39
 refine nl<|hK43 _ _ _<|dC (v44 = true) (fun h52=>?_) fun h52=>?_
 exact yK h52 H fun H=>wt (vY h52)<|ws<|hK41 _ _ _<|wb<|wpc_region<|mv z<|iK H fun⟨h53, h54⟩H=>q_ss (l := 1) (h := (v23.size : Int)) so9 z (.inr ⟨_, z, z⟩) (.inl ⟨z, z⟩) h53 h54 (Int.le_refl _)<|asn z<|nl<|ih _ _ H _ _ ⟨z, tv⟩ hI48 z
 refine nK h52 H fun H=>wf (vN h52)<|wx<|?_
 cases H
 exact ⟨z, z, ⟨z, tv⟩, hI48, tv⟩
 rintro e r ds wd33 ⟨rfl, rfl, hHas, hI34, _⟩
 rw [hHas.eq]; clear hHas
 refine hK18 _ _ _<|sQ fun K56 hK57=>wb<|bK H fun v69 hC H=>wpc_mono (Q := fun e r ds w => e = .exit 2 ∧ ds = [] ∧ Has [(0, string v69)] r ∧ Hp G (L) w ∧ True) ?_ ?_
 refine wpc_loop fun I hLp=>?_
 refine formeref06_Trim_l68.partial_correctness (fun v62 o => ∀ (r : Rg) (w : World), Has [(0, string v62)] r → Hp G (L) w → o = v69 → I r [] w) ?_ v30 _ hC _ _ ⟨rfl, tv⟩ hI34 rfl
 intro _ ih v62 o H r wd77 hHas hI78 ho
 rw [ho] at H; clear ho
 rw [hHas.eq]; clear hHas
 refine hLp _ _ _<|sQ fun K79 hK80=>sr fun K81 hK82=>mv z<|q_lens so9 z<|q_gtr z z<|mv z<|bK H fun v83 hC H=>js 7 hI78 [(0, string v62), (27, bool v83)] ?_ fun _ wd86 hI87=>?_
 refine have H:=hC;dC (0 < (v62.size : Int)) (fun h89=>?_) fun h89=>?_
 refine yK h89 H fun H=>mv (hw:=gY z z z (bY h89)) z<|mv (hw:=gY z z z (bY h89)) z<|q_lens (hw:=gY z z z (bY h89)) so9 z<|q_sub (hw:=gY z z z (bY h89)) z z<|iK H fun⟨h90, h90'⟩H=>q_is (hw:=gY z z z (bY h89)) so9 z z h90 h90' z<|q_eql (hw:=gY z z z (bY h89)) z z<|pkt (bY h89) z<|nl<|?_
 cases H
 exact je ⟨z, z, tv⟩ hI78
 refine nK h89 H fun H=>Sk 6 z z (bN h89) z<|pkf (bN h89) z<|nl<|?_
 cases H
 exact je ⟨z, z, tv⟩ hI78
 refine nl<|hK82 _ _ _<|dC (v83 = true) (fun h91=>?_) fun h91=>?_
 refine yK h91 H fun H=>wt (vY h91)<|ws<|hK80 _ _ _<|wb<|wpc_region<|mv z<|mv z<|q_lens so9 z<|q_sub z z<|iK H fun⟨h93, h94⟩H=>q_ss (l := 0) (h := w64 ((v62.size : Int) - 1)) so9 z (.inl ⟨z, z⟩) (.inr ⟨_, z, z⟩) (Int.le_refl 0) h93 h94<|asn z<|nl<|?_
 exact ih _ _ H _ _ ⟨z, tv⟩ hI87 z
 refine nK h91 H fun H=>wf (vN h91)<|wx<|?_
 cases H
 exact ⟨z, z, ⟨z, tv⟩, hI87, tv⟩
 rintro e r ds wd72 ⟨rfl, rfl, hHas, hI73, _⟩
 rw [hHas.eq]; clear hHas
 refine hK57 _ _ _<|sr fun K95 hK96=>mv z<|asn z<|asn z<|nl<|hK96 _ _ _<|wr<|?_
 cases H
 exact rt ⟨_, _, z, z, ⟨_, _, z, z, z⟩⟩ hI73
theorem formeref08_Part_spec {a1 a2 a3 a4 r1005 G L w} (H : formeref08_Part a1 a2 a3 a4 = some r1005) (hI : Hp G L w) :
    Calls Tryz.prog 22 [string a1, int .i64 a2, int .i64 a3, bool a4].toArray w fun e w' => Hp G L w' ∧ e = .returned (string r1005) := by
 refine calls_intro (N := 30) Tryz.func22 z z (Nat.le_of_ble_eq_true z)<|?_
 unfold formeref08_Part at H
 refine sr fun K5 hK6=>asn z<|nl<|hK6 _ _ _<|sr fun K7 hK8=>mv z<|mv z<|mv z<|iK H fun⟨h9, h10, h11⟩H=>q_ss (l := a2) (h := a3) so9 z (.inr ⟨_, z, z⟩) (.inr ⟨_, z, z⟩) h9 h10 h11<|bK2 H fun y17 y18 hy12 H=>cv bo51 (formeref06_Shown_spec hy12 hI) z z fun wd15 hI16=>mv z<|exk z z<|?_
 refine exk z z<|asn z<|asn z<|nl<|hK8 _ _ _<|sr fun K19 hK20=>mv z<|bK2 H fun y26 y27 hy21 H=>cv bo52 (formeref06_Trim_spec hy21 hI16) z z fun wd24 hI25=>mv z<|exk z z<|exk z z<|asn z<|asn z<|?_
 refine nl<|hK20 _ _ _<|sQ fun K28 hK29=>sr fun K30 hK31=>mv z<|nl<|hK31 _ _ _<|dC (a4 = true) (fun h32=>?_) fun h32=>?_
 refine yK h32 H fun H=>wt (vY h32)<|sr fun K33 hK34=>mv z<|iK H fun h35 H=>q_str_add z z h35<|asn z<|nl<|hK34 _ _ _<|wr<|?_
 cases H
 exact rt ⟨_, _, z, z, z⟩ hI25
 refine nK h32 H fun H=>wf (vN h32)<|ws<|hK29 _ _ _<|sr fun K36 hK37=>mv z<|asn z<|nl<|hK37 _ _ _<|wr<|?_
 cases H
 exact rt ⟨_, _, z, z, z⟩ hI25
theorem formeref07_Kern_spec {a1 a10 a11 A2 c3 A6 c7 r1012 G L w} (H : formeref07_Kern a1 a10 a11 = some r1012) (hI : Hp G L w) (hl4 : a1.Glyphs.length ≤ c3) (hD5 : Dat k_api_Glyph G A2 a1.Glyphs) (hl8 : a1.Kerns.length ≤ c7) (hD9 : Dat k_api_Kern G A6 a1.Kerns) :
    Calls Tryz.prog 102 [agg [slice A2 a1.Glyphs.length c3, slice A6 a1.Kerns.length c7].toArray, int .u8 a10, int .u8 a11].toArray w fun e w' => Hp G L w' ∧ e = .returned (int .i64 r1012) := by
 refine calls_intro (N := 39) Tryz.func102 z z (Nat.le_of_ble_eq_true z)<|?_
 unfold formeref07_Kern at H
 refine sr fun K12 hK13=>bxk hI z z fun g15 wd16 hI17=>asn z<|nl<|hK13 _ _ _<|sQ fun K18 hK19=>sr fun K20 hK21=>asn z<|nl<|hK21 _ _ _<|wb<|bK H fun o42 hC H=>?_
 refine wpc_mono (Q := fun e r ds w => match (generalizing := false) o42 with | (Sum.inl v33) => e = .ret ∧ ds = [] ∧ Has [(6, int .i64 v33)] r ∧ Hp G (bx g15 [slice A2 a1.Glyphs.length c3, slice A6 a1.Kerns.length c7] 25 :: L) w ∧ True | (Sum.inr _) => e = .exit 0 ∧ ds = [] ∧ Has [] r ∧ Hp G (bx g15 [slice A2 a1.Glyphs.length c3, slice A6 a1.Kerns.length c7] 25 :: L) w ∧ True) ?_ ?_
 refine wpc_loop fun I hLp=>?_
 refine formeref07_Kern_l32.partial_correctness a1 a10 a11 (fun v26 o => ∀ (r : Rg) (w : World), Has [(1, int .u8 a10), (2, int .u8 a11), (3, pointer (some ⟨g15, 0, none⟩)), (7, int .i64 v26)] r → Hp G (bx g15 [slice A2 a1.Glyphs.length c3, slice A6 a1.Kerns.length c7] 25 :: L) w → o = o42 → I r [] w) ?_ 0 _ hC _ _ ⟨rfl, rfl, rfl, rfl, tv⟩ hI17 rfl
 intro _ ih v26 o H r wd45 hHas hI46 ho
 rw [ho] at H; clear ho
 rw [hHas.eq]; clear hHas
 refine hLp _ _ _<|sQ fun K47 hK48=>sr fun K49 hK50=>mv z<|fa fl25_1 z<|ld hI46 0 ag23 z z z<|q_len so23 z<|q_lss z z<|nl<|hK50 _ _ _<|dC (v26 < (a1.Kerns.length : Int)) (fun h51=>?_) fun h51=>?_
 refine yK h51 H fun H=>wt (bY h51)<|ws<|hK48 _ _ _<|sQ fun K52 hK53=>wb<|sr fun K54 hK55=>fa fl25_1 z<|ld hI46 0 ag23 z z z<|mv z<|iK H fun⟨h56, h56'⟩H=>?_
 obtain ⟨ad57, cs58, hA59, hK60, hn61, hc62⟩ := Dat.get hD9 z_api_Kern (v26) h56 h56'
 obtain ⟨rfl⟩ := open_api_Kern hK60
 refine q_ia el23 z hA59 z h56 h56'<|q_fa fl114_0 z z<|q_lf hI46 ag5 z (gR.cel _ _ (hc62 0 _ z))<|mv z<|q_eql z z<|mv z<|bK H fun v63 hC H=>js 9 hI46 [(1, int .u8 a10), (2, int .u8 a11), (3, pointer (some ⟨g15, 0, none⟩)), (7, int .i64 v26), (32, bool v63)] ?_ fun _ wd66 hI67=>?_
 refine have H:=hC;dC (((a1.Kerns.getD (Int.toNat v26) z_api_Kern).Left) = a10) (fun h69=>?_) fun h69=>?_
 refine yK h69 H fun H=>fa (hw:=gY z z z (bY h69)) fl25_1 z<|ld (hw:=gY z z z (bY h69)) hI46 0 ag23 z z z<|mv (hw:=gY z z z (bY h69)) z<|iK H fun⟨h70, h70'⟩H=>?_
 obtain ⟨ad71, cs72, hA73, hK74, hn75, hc76⟩ := Dat.get hD9 z_api_Kern (v26) h70 h70'
 obtain ⟨rfl⟩ := open_api_Kern hK74
 refine q_ia (hw:=gY z z z (bY h69)) el23 z hA73 z h70 h70'<|q_fa (hw:=gY z z z (bY h69)) fl114_1 z z<|q_lf (hw:=gY z z z (bY h69)) hI46 ag5 z (gR.cel _ _ (hc76 1 _ z))<|mv (hw:=gY z z z (bY h69)) z<|q_eql (hw:=gY z z z (bY h69)) z z<|pkt (bY h69) z<|nl<|?_
 cases H
 exact je ⟨z, z, z, z, z, tv⟩ hI46
 refine nK h69 H fun H=>Sk 8 z z (bN h69) z<|pkf (bN h69) z<|nl<|?_
 cases H
 exact je ⟨z, z, z, z, z, tv⟩ hI46
 refine nl<|hK55 _ _ _<|dC (v63 = true) (fun h77=>?_) fun h77=>?_
 refine yK h77 H fun H=>wt (vY h77)<|sr fun K78 hK79=>fa fl25_1 z<|ld hI67 0 ag23 z z z<|mv z<|iK H fun⟨h80, h80'⟩H=>?_
 obtain ⟨ad81, cs82, hA83, hK84, hn85, hc86⟩ := Dat.get hD9 z_api_Kern (v26) h80 h80'
 obtain ⟨rfl⟩ := open_api_Kern hK84
 refine q_ia el23 z hA83 z h80 h80'<|q_fa fl114_2 z z<|q_lf hI67 ag3 z (gR.cel _ _ (hc86 2 _ z))<|asn z<|nl<|hK79 _ _ _<|wr<|?_
 cases H
 exact ⟨z, z, ⟨z, tv⟩, hI67, tv⟩
 exact nK h77 H fun H=>wf (vN h77)<|ws<|hK53 _ _ _<|wpc_region<|mv z<|q_add z z<|asn z<|nl<|ih _ _ H _ _ ⟨z, z, z, z, tv⟩ hI67 z
 refine nK h51 H fun H=>wf (bN h51)<|wx<|?_
 cases H
 exact ⟨z, z, trivial, hI46, tv⟩
 rcases o42 with v33 | _
 rintro e r ds wd36 ⟨rfl, rfl, hHas, hI37, _⟩
 rw [hHas.eq]; clear hHas
 refine have hI87:=Hp.sub hI37 (sd se);?_
 cases H
 exact rt ⟨_, _, z, z, z⟩ hI87
 rintro e r ds wd40 ⟨rfl, rfl, hHas, hI41, _⟩
 rw [hHas.eq]; clear hHas
 refine hK19 _ _ _<|sr fun K88 hK89=>asn z<|nl<|hK89 _ _ _<|wr<|have hI90:=Hp.sub hI41 (sd se);?_
 cases H
 exact rt ⟨_, _, z, z, z⟩ hI90
end Go.Proofs.YtokeiiakkfdmgaaGreatDoor.LG
