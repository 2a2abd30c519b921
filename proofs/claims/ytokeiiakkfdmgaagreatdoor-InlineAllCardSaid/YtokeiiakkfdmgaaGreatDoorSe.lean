/-
  The walks: each function computes its plain function: printed by a program out of the translation.
-/
import Derived.Test.YtokeiiakkfdmgaaGreatDoorSd
set_option linter.unusedVariables false
set_option linter.unusedSimpArgs false
set_option maxRecDepth 100000
namespace Go.Proofs.YtokeiiakkfdmgaaGreatDoor.LG
open Go Go.LG Go.RowKit Go.Value
open Go.Lib Go.Shelf Go.Proofs
set_option maxHeartbeats 1000000 in
theorem formelaw17_head_spec {r2914 : Bool} {G : Gh} {L : List Itm} {w : World} (hI : Hp G (L) w) (hgl : Gl G) (H : formelaw17_head = some r2914) :
    Calls Tryz.prog 9 [].toArray w fun e w' => ∃ (G' : Gh), G ≤ G' ∧ Hp G' (L) w' ∧ e = .returned (bool r2914) := by
 refine calls_intro (N := 123) Tryz.func9 rfl rfl (Nat.le_of_ble_eq_true rfl) ?_
 unfold formelaw17_head at H
 refine sr fun K1 hK2 => ?_
 refine q_as (v := bool false) rfl ?_
 refine nl ?_
 refine hK2 _ _ _ ?_
 refine sr fun K3 hK4 => ?_
 refine q_build (vs := [(0, int .i64 2), (1, int .i64 2)]) (cs := [int .i64 2, int .i64 2, slice none 0 0]) ze28 pl28 rfl rfl ?_
 refine q_alloc hI ze28 (fun g6 wd7 hI8 => ?_)
 refine q_stA hI8 0 (v := agg [int .i64 2, int .i64 2, slice none 0 0].toArray) (cs := [int .i64 2, int .i64 2, slice none 0 0]) (vs' := [int .i64 2, int .i64 2, slice none 0 0]) ag28 rfl rfl rfl rfl rfl rfl (Nat.le_of_ble_eq_true rfl) rfl (fun wd9 hI10 => ?_)
 refine nl ?_
 refine hK4 _ _ _ ?_
 refine sQ fun K11 hK12 => ?_
 obtain ⟨y32, hy217, H⟩ := bS H
 obtain ⟨⟨y240, y247⟩, hy425, H⟩ := bS H
 refine wpc_drawL [0, 0, 0, 7, 15, 31, 31, 63, 255] (fun D r w => (D 0 = false ∧ D 2 = false ∧ D 3 = false ∧ ∃ (G' : Gh), G ≤ G' ∧ Regs [(1, pointer (some ⟨g6, 0, none⟩))] [] [(1, 22, agg [int .i64 2, int .i64 2, slice none 0 0].toArray)] D r ∧ Hp G' (bx g6 [int .i64 2, int .i64 2, slice none 0 0] 28 :: L) w) ∨ (D 0 = true ∧ D 2 = false ∧ D 3 = false ∧ ∃ (A33 : Option Addr) (c34 : Nat) (A37 : Option Addr) (c38 : Nat) (G' : Gh), G ≤ G' ∧ y32.Glyphs.length ≤ c34 ∧ Dat k_api_Glyph G' A33 y32.Glyphs ∧ y32.Kerns.length ≤ c38 ∧ Dat k_api_Kern G' A37 y32.Kerns ∧ Regs [(1, pointer (some ⟨g6, 0, none⟩))] [] [(0, 21, agg [slice A33 y32.Glyphs.length c34, slice A37 y32.Kerns.length c38].toArray), (1, 22, agg [int .i64 2, int .i64 2, slice none 0 0].toArray)] D r ∧ Hp G' (bx g6 [int .i64 2, int .i64 2, slice none 0 0] 28 :: L) w) ∨ (D 0 = false ∧ D 2 = true ∧ D 3 = false ∧ ∃ (g229 : Nat) (G' : Gh), G ≤ G' ∧ Dat (Kd.int .i64) G' (some ⟨g229, 0, none⟩) ([50] : List Int) ∧ Regs [(1, pointer (some ⟨g6, 0, none⟩))] [] [(1, 22, agg [int .i64 2, int .i64 2, slice none 0 0].toArray), (2, 23, slice (some ⟨g229, 0, none⟩) ([50] : List Int).length 1)] D r ∧ Hp G' (tk (slice (some ⟨g229, 0, none⟩) ([50] : List Int).length 1) 1 3 :: bx g6 [int .i64 2, int .i64 2, slice none 0 0] 28 :: L) w) ∨ (D 0 = true ∧ D 2 = true ∧ D 3 = false ∧ ∃ (A33 : Option Addr) (c34 : Nat) (A37 : Option Addr) (c38 : Nat) (g229 : Nat) (G' : Gh), G ≤ G' ∧ y32.Glyphs.length ≤ c34 ∧ Dat k_api_Glyph G' A33 y32.Glyphs ∧ y32.Kerns.length ≤ c38 ∧ Dat k_api_Kern G' A37 y32.Kerns ∧ Dat (Kd.int .i64) G' (some ⟨g229, 0, none⟩) ([50] : List Int) ∧ Regs [(1, pointer (some ⟨g6, 0, none⟩))] [] [(0, 21, agg [slice A33 y32.Glyphs.length c34, slice A37 y32.Kerns.length c38].toArray), (1, 22, agg [int .i64 2, int .i64 2, slice none 0 0].toArray), (2, 23, slice (some ⟨g229, 0, none⟩) ([50] : List Int).length 1)] D r ∧ Hp G' (tk (slice (some ⟨g229, 0, none⟩) ([50] : List Int).length 1) 1 3 :: bx g6 [int .i64 2, int .i64 2, slice none 0 0] 28 :: L) w) ∨ (D 0 = true ∧ D 2 = true ∧ D 3 = true ∧ ∃ (A33 : Option Addr) (c34 : Nat) (A37 : Option Addr) (c38 : Nat) (g229 : Nat) (A241 : Option Addr) (c242 : Nat) (G' : Gh), G ≤ G' ∧ y32.Glyphs.length ≤ c34 ∧ Dat k_api_Glyph G' A33 y32.Glyphs ∧ y32.Kerns.length ≤ c38 ∧ Dat k_api_Kern G' A37 y32.Kerns ∧ Dat (Kd.int .i64) G' (some ⟨g229, 0, none⟩) ([50] : List Int) ∧ y240.length ≤ c242 ∧ Dat k_api_Line G' A241 y240 ∧ Own A241 c242 ∧ Regs [(1, pointer (some ⟨g6, 0, none⟩))] [] [(0, 21, agg [slice A33 y32.Glyphs.length c34, slice A37 y32.Kerns.length c38].toArray), (1, 22, agg [int .i64 2, int .i64 2, slice none 0 0].toArray), (2, 23, slice (some ⟨g229, 0, none⟩) ([50] : List Int).length 1), (3, 24, tuple [slice A241 y240.length c242, int .i64 y247].toArray), (4, 20, tuple [slice A241 y240.length c242, int .i64 y247].toArray), (5, 25, slice A241 y240.length c242), (6, 26, int .i64 y247), (7, 2, slice A241 y240.length c242), (8, 3, int .i64 y247)] D r ∧ Hp G' (tk (slice A241 y240.length c242) 4 31 :: tk (slice (some ⟨g229, 0, none⟩) ([50] : List Int).length 1) 1 3 :: bx g6 [int .i64 2, int .i64 2, slice none 0 0] 28 :: L) w)) mixo rfl rfl ?_ ?_ ?_
 exact (.inl ⟨rfl, rfl, rfl, _, Gh.le_refl _, Regs.start ⟨rfl, trivial⟩ trivial, hI10.drew⟩)
 refine ⟨?_, ?_, ?_, ?_, ?_, ?_, ?_, ?_, ?_, trivial⟩
 rintro D r wd440 (⟨hd0, hd2, hd3, G436, hG437, hReg439, hI438⟩ | ⟨hd0, hd2, hd3, A33, c34, A37, c38, G436, hG437, hl35, hD36, hl39, hD40, hReg439, hI438⟩ | ⟨hd0, hd2, hd3, g229, G436, hG437, hD234, hReg439, hI438⟩ | ⟨hd0, hd2, hd3, A33, c34, A37, c38, g229, G436, hG437, hl35, hD36, hl39, hD40, hD234, hReg439, hI438⟩ | ⟨hd0, hd2, hd3, A33, c34, A37, c38, g229, A241, c242, G436, hG437, hl35, hD36, hl39, hD40, hD234, hl243, hD244, ho245, hReg439, hI438⟩) hDi hpre hpost
 obtain ⟨r0, rfl⟩ := Has.ex (r := r) cN
 refine q_cv (vs := []) bo23 rfl rfl (formelaw17_plain_spec hI438 hy217) ?_
 rintro _ wd30 ⟨A33, c34, A37, c38, G28, hG29, hI31, hl35, hD36, hl39, hD40, rfl⟩
 refine ⟨_, rfl, ?_⟩
 exact nl ⟨rfl, (.inr (.inl ⟨rfl, hd2, hd3, A33, c34, A37, c38, _, (gT hG437 hG29), hl35, hD36, hl39, hD40, (Regs.step (Regs.re (vals' := [(0, 21, agg [slice A33 y32.Glyphs.length c34, slice A37 y32.Kerns.length c38].toArray), (1, 22, agg [int .i64 2, int .i64 2, slice none 0 0].toArray)]) hReg439 (List.forall_mem_cons.2 ⟨.inr hDi, (List.forall_mem_cons.2 ⟨.inl (List.mem_of_getElem? (i := 0) rfl), (fun _ h => nomatch h)⟩)⟩)) hDi rfl rfl rfl rfl), hI31⟩))⟩
 cases hDi.symm.trans hd0
 obtain ⟨r0, rfl⟩ := Has.ex (r := r) cN
 refine q_cv (vs := []) bo23 rfl rfl (formelaw17_plain_spec hI438 hy217) ?_
 rintro _ wd30 ⟨A33, c34, A37, c38, G28, hG29, hI31, hl35, hD36, hl39, hD40, rfl⟩
 refine ⟨_, rfl, ?_⟩
 exact nl ⟨rfl, (.inr (.inr (.inr (.inl ⟨rfl, hd2, hd3, A33, c34, A37, c38, g229, _, (gT hG437 hG29), hl35, hD36, hl39, hD40, (Dat.mono hG29 hD234), (Regs.step (Regs.re (vals' := [(0, 21, agg [slice A33 y32.Glyphs.length c34, slice A37 y32.Kerns.length c38].toArray), (1, 22, agg [int .i64 2, int .i64 2, slice none 0 0].toArray), (2, 23, slice (some ⟨g229, 0, none⟩) ([50] : List Int).length 1)]) hReg439 (List.forall_mem_cons.2 ⟨.inr hDi, (List.forall_mem_cons.2 ⟨.inl (List.mem_of_getElem? (i := 0) rfl), (List.forall_mem_cons.2 ⟨.inl (List.mem_of_getElem? (i := 1) rfl), (fun _ h => nomatch h)⟩)⟩)⟩)) hDi rfl rfl rfl rfl), hI31⟩))))⟩
 cases hDi.symm.trans hd0
 cases hDi.symm.trans hd0
 rintro D r wd440 (⟨hd0, hd2, hd3, G436, hG437, hReg439, hI438⟩ | ⟨hd0, hd2, hd3, A33, c34, A37, c38, G436, hG437, hl35, hD36, hl39, hD40, hReg439, hI438⟩ | ⟨hd0, hd2, hd3, g229, G436, hG437, hD234, hReg439, hI438⟩ | ⟨hd0, hd2, hd3, A33, c34, A37, c38, g229, G436, hG437, hl35, hD36, hl39, hD40, hD234, hReg439, hI438⟩ | ⟨hd0, hd2, hd3, A33, c34, A37, c38, g229, A241, c242, G436, hG437, hl35, hD36, hl39, hD40, hD234, hl243, hD244, ho245, hReg439, hI438⟩) hDi hpre hpost
 obtain ⟨r0, rfl⟩ := Has.ex (cC (hReg439.ins.get 0 rfl) cN)
 refine q_ldA hI438 0 (cs := [int .i64 2, int .i64 2, slice none 0 0]) ag28 rfl rfl rfl rfl ?_
 exact nl ⟨rfl, (.inl ⟨hd0, hd2, hd3, _, hG437, (Regs.step hReg439 hDi rfl rfl rfl rfl), hI438⟩)⟩
 obtain ⟨r0, rfl⟩ := Has.ex (cC (hReg439.ins.get 0 rfl) cN)
 refine q_ldA hI438 0 (cs := [int .i64 2, int .i64 2, slice none 0 0]) ag28 rfl rfl rfl rfl ?_
 exact nl ⟨rfl, (.inr (.inl ⟨hd0, hd2, hd3, A33, c34, A37, c38, _, hG437, hl35, hD36, hl39, hD40, (Regs.step hReg439 hDi rfl rfl rfl rfl), hI438⟩))⟩
 obtain ⟨r0, rfl⟩ := Has.ex (cC (hReg439.ins.get 0 rfl) cN)
 refine q_ldA hI438 1 (cs := [int .i64 2, int .i64 2, slice none 0 0]) ag28 rfl rfl rfl rfl ?_
 exact nl ⟨rfl, (.inr (.inr (.inl ⟨hd0, hd2, hd3, g229, _, hG437, hD234, (Regs.step hReg439 hDi rfl rfl rfl rfl), hI438⟩)))⟩
 obtain ⟨r0, rfl⟩ := Has.ex (cC (hReg439.ins.get 0 rfl) cN)
 refine q_ldA hI438 1 (cs := [int .i64 2, int .i64 2, slice none 0 0]) ag28 rfl rfl rfl rfl ?_
 exact nl ⟨rfl, (.inr (.inr (.inr (.inl ⟨hd0, hd2, hd3, A33, c34, A37, c38, g229, _, hG437, hl35, hD36, hl39, hD40, hD234, (Regs.step hReg439 hDi rfl rfl rfl rfl), hI438⟩))))⟩
 cases (hpost 3 rfl).symm.trans hd3
 rintro D r wd440 (⟨hd0, hd2, hd3, G436, hG437, hReg439, hI438⟩ | ⟨hd0, hd2, hd3, A33, c34, A37, c38, G436, hG437, hl35, hD36, hl39, hD40, hReg439, hI438⟩ | ⟨hd0, hd2, hd3, g229, G436, hG437, hD234, hReg439, hI438⟩ | ⟨hd0, hd2, hd3, A33, c34, A37, c38, g229, G436, hG437, hl35, hD36, hl39, hD40, hD234, hReg439, hI438⟩ | ⟨hd0, hd2, hd3, A33, c34, A37, c38, g229, A241, c242, G436, hG437, hl35, hD36, hl39, hD40, hD234, hl243, hD244, ho245, hReg439, hI438⟩) hDi hpre hpost
 obtain ⟨r0, rfl⟩ := Has.ex (r := r) cN
 refine q_bs hI438 (vs := [(0, int .i64 50)]) (cs := [int .i64 50]) el29 ze3 rfl (by decide) rfl rfl (fun g229 wd230 hI231 => ?_)
 obtain ⟨G232, hG233, hI235, hD234⟩ := Hp.publish (xs := ([50] : List Int)) (n := 1) (Kd.int .i64) hI231 ⟨[int .i64 50], _, rfl, rfl, rfl⟩ rfl
 exact nl ⟨rfl, (.inr (.inr (.inl ⟨hd0, rfl, hd3, g229, _, (gT hG437 hG233), hD234, (Regs.step (Regs.re (vals' := [(1, 22, agg [int .i64 2, int .i64 2, slice none 0 0].toArray), (2, 23, slice (some ⟨g229, 0, none⟩) ([50] : List Int).length 1)]) hReg439 (List.forall_mem_cons.2 ⟨.inl (List.mem_of_getElem? (i := 0) rfl), (List.forall_mem_cons.2 ⟨.inr hDi, (fun _ h => nomatch h)⟩)⟩)) hDi rfl rfl rfl rfl), hI235⟩)))⟩
 obtain ⟨r0, rfl⟩ := Has.ex (r := r) cN
 refine q_bs hI438 (vs := [(0, int .i64 50)]) (cs := [int .i64 50]) el29 ze3 rfl (by decide) rfl rfl (fun g229 wd230 hI231 => ?_)
 obtain ⟨G232, hG233, hI235, hD234⟩ := Hp.publish (xs := ([50] : List Int)) (n := 1) (Kd.int .i64) hI231 ⟨[int .i64 50], _, rfl, rfl, rfl⟩ rfl
 exact nl ⟨rfl, (.inr (.inr (.inr (.inl ⟨hd0, rfl, hd3, A33, c34, A37, c38, g229, _, (gT hG437 hG233), hl35, (Dat.mono hG233 hD36), hl39, (Dat.mono hG233 hD40), hD234, (Regs.step (Regs.re (vals' := [(0, 21, agg [slice A33 y32.Glyphs.length c34, slice A37 y32.Kerns.length c38].toArray), (1, 22, agg [int .i64 2, int .i64 2, slice none 0 0].toArray), (2, 23, slice (some ⟨g229, 0, none⟩) ([50] : List Int).length 1)]) hReg439 (List.forall_mem_cons.2 ⟨.inl (List.mem_of_getElem? (i := 0) rfl), (List.forall_mem_cons.2 ⟨.inl (List.mem_of_getElem? (i := 1) rfl), (List.forall_mem_cons.2 ⟨.inr hDi, (fun _ h => nomatch h)⟩)⟩)⟩)) hDi rfl rfl rfl rfl), hI235⟩))))⟩
 cases hDi.symm.trans hd2
 cases hDi.symm.trans hd2
 cases hDi.symm.trans hd2
 rintro D r wd440 (⟨hd0, hd2, hd3, G436, hG437, hReg439, hI438⟩ | ⟨hd0, hd2, hd3, A33, c34, A37, c38, G436, hG437, hl35, hD36, hl39, hD40, hReg439, hI438⟩ | ⟨hd0, hd2, hd3, g229, G436, hG437, hD234, hReg439, hI438⟩ | ⟨hd0, hd2, hd3, A33, c34, A37, c38, g229, G436, hG437, hl35, hD36, hl39, hD40, hD234, hReg439, hI438⟩ | ⟨hd0, hd2, hd3, A33, c34, A37, c38, g229, A241, c242, G436, hG437, hl35, hD36, hl39, hD40, hD234, hl243, hD244, ho245, hReg439, hI438⟩) hDi hpre hpost
 cases (hpre 0 rfl).symm.trans hd0
 cases (hpre 2 rfl).symm.trans hd2
 cases (hpre 0 rfl).symm.trans hd0
 obtain ⟨r0, rfl⟩ := Has.ex (cC (hReg439.get 0 rfl (hpre 0 rfl)) (cC (hReg439.get 1 rfl (hpre 1 rfl)) (cC (hReg439.get 2 rfl (hpre 2 rfl)) cN)))
 refine q_cv (vs := [agg [slice A33 y32.Glyphs.length c34, slice A37 y32.Kerns.length c38].toArray, agg [int .i64 2, int .i64 2, slice none 0 0].toArray, string (⟨#[97, 98, 32, 99, 100, 32, 101, 102]⟩ : ByteArray), int .i64 100, slice (some ⟨g229, 0, none⟩) ([50] : List Int).length 1]) bo13 rfl rfl (inline_Lines_spec (a1 := y32) (a10 := (⟨2, 2, ([] : List ByteArray)⟩ : api_Breaks)) (a15 := (⟨#[97, 98, 32, 99, 100, 32, 101, 102]⟩ : ByteArray)) (a16 := 100) (a17 := ([50] : List Int)) hI438 hl35 hD36 hl39 hD40 (show ([] : List ByteArray).length ≤ 0 from Nat.le_refl 0) (Dat.nil _ _ _) (show ([50] : List Int).length ≤ 1 from Nat.le_of_ble_eq_true rfl) hD234 (hgl.mono hG437) hy425) ?_
 rintro _ wd238 ⟨A241, c242, G236, hG237, hI239, hl243, hD244, ho245, rfl⟩
 refine ⟨_, rfl, ?_⟩
 exact nl ⟨rfl, (.inr (.inr (.inr (.inr ⟨hd0, hd2, rfl, A33, c34, A37, c38, g229, A241, c242, _, (gT hG437 hG237), hl35, (Dat.mono hG237 hD36), hl39, (Dat.mono hG237 hD40), (Dat.mono hG237 hD234), hl243, hD244, ho245, (Regs.step (Regs.re (vals' := [(0, 21, agg [slice A33 y32.Glyphs.length c34, slice A37 y32.Kerns.length c38].toArray), (1, 22, agg [int .i64 2, int .i64 2, slice none 0 0].toArray), (2, 23, slice (some ⟨g229, 0, none⟩) ([50] : List Int).length 1), (3, 24, tuple [slice A241 y240.length c242, int .i64 y247].toArray), (4, 20, tuple [slice A241 y240.length c242, int .i64 y247].toArray), (5, 25, slice A241 y240.length c242), (6, 26, int .i64 y247), (7, 2, slice A241 y240.length c242), (8, 3, int .i64 y247)]) hReg439 (List.forall_mem_cons.2 ⟨.inl (List.mem_of_getElem? (i := 0) rfl), (List.forall_mem_cons.2 ⟨.inl (List.mem_of_getElem? (i := 1) rfl), (List.forall_mem_cons.2 ⟨.inl (List.mem_of_getElem? (i := 2) rfl), (List.forall_mem_cons.2 ⟨.inr hDi, (List.forall_mem_cons.2 ⟨.inr (hpost 4 rfl), (List.forall_mem_cons.2 ⟨.inr (hpost 5 rfl), (List.forall_mem_cons.2 ⟨.inr (hpost 6 rfl), (List.forall_mem_cons.2 ⟨.inr (hpost 7 rfl), (List.forall_mem_cons.2 ⟨.inr (hpost 8 rfl), (fun _ h => nomatch h)⟩)⟩)⟩)⟩)⟩)⟩)⟩)⟩)⟩)) hDi rfl rfl rfl rfl), hI239⟩))))⟩
 cases hDi.symm.trans hd3
 rintro D r wd440 (⟨hd0, hd2, hd3, G436, hG437, hReg439, hI438⟩ | ⟨hd0, hd2, hd3, A33, c34, A37, c38, G436, hG437, hl35, hD36, hl39, hD40, hReg439, hI438⟩ | ⟨hd0, hd2, hd3, g229, G436, hG437, hD234, hReg439, hI438⟩ | ⟨hd0, hd2, hd3, A33, c34, A37, c38, g229, G436, hG437, hl35, hD36, hl39, hD40, hD234, hReg439, hI438⟩ | ⟨hd0, hd2, hd3, A33, c34, A37, c38, g229, A241, c242, G436, hG437, hl35, hD36, hl39, hD40, hD234, hl243, hD244, ho245, hReg439, hI438⟩) hDi hpre hpost
 cases (hpre 0 rfl).symm.trans hd0
 cases (hpre 2 rfl).symm.trans hd2
 cases (hpre 0 rfl).symm.trans hd0
 cases (hpre 3 rfl).symm.trans hd3
 obtain ⟨r0, rfl⟩ := Has.ex (cC (hReg439.get 3 rfl (hpre 3 rfl)) cN)
 refine q_mv (v := tuple [slice A241 y240.length c242, int .i64 y247].toArray) rfl ?_
 exact nl ⟨rfl, (.inr (.inr (.inr (.inr ⟨hd0, hd2, hd3, A33, c34, A37, c38, g229, A241, c242, _, hG437, hl35, hD36, hl39, hD40, hD234, hl243, hD244, ho245, (Regs.step hReg439 hDi rfl rfl rfl rfl), hI438⟩))))⟩
 rintro D r wd440 (⟨hd0, hd2, hd3, G436, hG437, hReg439, hI438⟩ | ⟨hd0, hd2, hd3, A33, c34, A37, c38, G436, hG437, hl35, hD36, hl39, hD40, hReg439, hI438⟩ | ⟨hd0, hd2, hd3, g229, G436, hG437, hD234, hReg439, hI438⟩ | ⟨hd0, hd2, hd3, A33, c34, A37, c38, g229, G436, hG437, hl35, hD36, hl39, hD40, hD234, hReg439, hI438⟩ | ⟨hd0, hd2, hd3, A33, c34, A37, c38, g229, A241, c242, G436, hG437, hl35, hD36, hl39, hD40, hD234, hl243, hD244, ho245, hReg439, hI438⟩) hDi hpre hpost
 cases (hpre 0 rfl).symm.trans hd0
 cases (hpre 2 rfl).symm.trans hd2
 cases (hpre 0 rfl).symm.trans hd0
 cases (hpre 3 rfl).symm.trans hd3
 obtain ⟨r0, rfl⟩ := Has.ex (cC (hReg439.get 4 rfl (hpre 4 rfl)) cN)
 refine q_ex (v := slice A241 y240.length c242) rfl rfl ?_
 exact nl ⟨rfl, (.inr (.inr (.inr (.inr ⟨hd0, hd2, hd3, A33, c34, A37, c38, g229, A241, c242, _, hG437, hl35, hD36, hl39, hD40, hD234, hl243, hD244, ho245, (Regs.step hReg439 hDi rfl rfl rfl rfl), hI438⟩))))⟩
 rintro D r wd440 (⟨hd0, hd2, hd3, G436, hG437, hReg439, hI438⟩ | ⟨hd0, hd2, hd3, A33, c34, A37, c38, G436, hG437, hl35, hD36, hl39, hD40, hReg439, hI438⟩ | ⟨hd0, hd2, hd3, g229, G436, hG437, hD234, hReg439, hI438⟩ | ⟨hd0, hd2, hd3, A33, c34, A37, c38, g229, G436, hG437, hl35, hD36, hl39, hD40, hD234, hReg439, hI438⟩ | ⟨hd0, hd2, hd3, A33, c34, A37, c38, g229, A241, c242, G436, hG437, hl35, hD36, hl39, hD40, hD234, hl243, hD244, ho245, hReg439, hI438⟩) hDi hpre hpost
 cases (hpre 0 rfl).symm.trans hd0
 cases (hpre 2 rfl).symm.trans hd2
 cases (hpre 0 rfl).symm.trans hd0
 cases (hpre 3 rfl).symm.trans hd3
 obtain ⟨r0, rfl⟩ := Has.ex (cC (hReg439.get 4 rfl (hpre 4 rfl)) cN)
 refine q_ex (v := int .i64 y247) rfl rfl ?_
 exact nl ⟨rfl, (.inr (.inr (.inr (.inr ⟨hd0, hd2, hd3, A33, c34, A37, c38, g229, A241, c242, _, hG437, hl35, hD36, hl39, hD40, hD234, hl243, hD244, ho245, (Regs.step hReg439 hDi rfl rfl rfl rfl), hI438⟩))))⟩
 rintro D r wd440 (⟨hd0, hd2, hd3, G436, hG437, hReg439, hI438⟩ | ⟨hd0, hd2, hd3, A33, c34, A37, c38, G436, hG437, hl35, hD36, hl39, hD40, hReg439, hI438⟩ | ⟨hd0, hd2, hd3, g229, G436, hG437, hD234, hReg439, hI438⟩ | ⟨hd0, hd2, hd3, A33, c34, A37, c38, g229, G436, hG437, hl35, hD36, hl39, hD40, hD234, hReg439, hI438⟩ | ⟨hd0, hd2, hd3, A33, c34, A37, c38, g229, A241, c242, G436, hG437, hl35, hD36, hl39, hD40, hD234, hl243, hD244, ho245, hReg439, hI438⟩) hDi hpre hpost
 cases (hpre 0 rfl).symm.trans hd0
 cases (hpre 2 rfl).symm.trans hd2
 cases (hpre 0 rfl).symm.trans hd0
 cases (hpre 3 rfl).symm.trans hd3
 obtain ⟨r0, rfl⟩ := Has.ex (cC (hReg439.get 5 rfl (hpre 5 rfl)) cN)
 refine q_as (v := slice A241 y240.length c242) rfl ?_
 exact nl ⟨rfl, (.inr (.inr (.inr (.inr ⟨hd0, hd2, hd3, A33, c34, A37, c38, g229, A241, c242, _, hG437, hl35, hD36, hl39, hD40, hD234, hl243, hD244, ho245, (Regs.step hReg439 hDi rfl rfl rfl rfl), hI438⟩))))⟩
 rintro D r wd440 (⟨hd0, hd2, hd3, G436, hG437, hReg439, hI438⟩ | ⟨hd0, hd2, hd3, A33, c34, A37, c38, G436, hG437, hl35, hD36, hl39, hD40, hReg439, hI438⟩ | ⟨hd0, hd2, hd3, g229, G436, hG437, hD234, hReg439, hI438⟩ | ⟨hd0, hd2, hd3, A33, c34, A37, c38, g229, G436, hG437, hl35, hD36, hl39, hD40, hD234, hReg439, hI438⟩ | ⟨hd0, hd2, hd3, A33, c34, A37, c38, g229, A241, c242, G436, hG437, hl35, hD36, hl39, hD40, hD234, hl243, hD244, ho245, hReg439, hI438⟩) hDi hpre hpost
 cases (hpre 0 rfl).symm.trans hd0
 cases (hpre 2 rfl).symm.trans hd2
 cases (hpre 0 rfl).symm.trans hd0
 cases (hpre 3 rfl).symm.trans hd3
 obtain ⟨r0, rfl⟩ := Has.ex (cC (hReg439.get 6 rfl (hpre 6 rfl)) cN)
 refine q_as (v := int .i64 y247) rfl ?_
 exact nl ⟨rfl, (.inr (.inr (.inr (.inr ⟨hd0, hd2, hd3, A33, c34, A37, c38, g229, A241, c242, _, hG437, hl35, hD36, hl39, hD40, hD234, hl243, hD244, ho245, (Regs.step hReg439 hDi rfl rfl rfl rfl), hI438⟩))))⟩
 intro D r wd440 hall hR
 rcases hR with ⟨hd0, hd2, hd3, G436, hG437, hReg439, hI438⟩ | ⟨hd0, hd2, hd3, A33, c34, A37, c38, G436, hG437, hl35, hD36, hl39, hD40, hReg439, hI438⟩ | ⟨hd0, hd2, hd3, g229, G436, hG437, hD234, hReg439, hI438⟩ | ⟨hd0, hd2, hd3, A33, c34, A37, c38, g229, G436, hG437, hl35, hD36, hl39, hD40, hD234, hReg439, hI438⟩ | ⟨hd0, hd2, hd3, A33, c34, A37, c38, g229, A241, c242, G436, hG437, hl35, hD36, hl39, hD40, hD234, hl243, hD244, ho245, hReg439, hI438⟩
 cases (hall 0 (Nat.le_of_ble_eq_true rfl)).symm.trans hd0
 cases (hall 2 (Nat.le_of_ble_eq_true rfl)).symm.trans hd2
 cases (hall 0 (Nat.le_of_ble_eq_true rfl)).symm.trans hd0
 cases (hall 3 (Nat.le_of_ble_eq_true rfl)).symm.trans hd3
 obtain ⟨r0, rfl⟩ := Has.ex (cC (hReg439.ins.get 0 rfl) (cC (hReg439.get 7 rfl (hall 7 (Nat.le_of_ble_eq_true rfl))) (cC (hReg439.get 8 rfl (hall 8 (Nat.le_of_ble_eq_true rfl))) cN)))
 refine hK12 _ _ _ ?_
 refine sQ fun K441 hK442 => ?_
 obtain ⟨y462, hy647, H⟩ := bS H
 obtain ⟨⟨y670, y677⟩, hy855, H⟩ := bS H
 refine wpc_drawL [0, 0, 0, 7, 15, 31, 31, 63, 255] (fun D r w => (D 0 = false ∧ D 2 = false ∧ D 3 = false ∧ ∃ (G' : Gh), G436 ≤ G' ∧ Regs [(1, pointer (some ⟨g6, 0, none⟩)), (2, slice A241 y240.length c242), (3, int .i64 y247)] [] [(1, 29, agg [int .i64 2, int .i64 2, slice none 0 0].toArray)] D r ∧ Hp G' (tk (slice A241 y240.length c242) 4 31 :: tk (slice (some ⟨g229, 0, none⟩) ([50] : List Int).length 1) 1 3 :: bx g6 [int .i64 2, int .i64 2, slice none 0 0] 28 :: L) w) ∨ (D 0 = true ∧ D 2 = false ∧ D 3 = false ∧ ∃ (A463 : Option Addr) (c464 : Nat) (A467 : Option Addr) (c468 : Nat) (G' : Gh), G436 ≤ G' ∧ y462.Glyphs.length ≤ c464 ∧ Dat k_api_Glyph G' A463 y462.Glyphs ∧ y462.Kerns.length ≤ c468 ∧ Dat k_api_Kern G' A467 y462.Kerns ∧ Regs [(1, pointer (some ⟨g6, 0, none⟩)), (2, slice A241 y240.length c242), (3, int .i64 y247)] [] [(0, 28, agg [slice A463 y462.Glyphs.length c464, slice A467 y462.Kerns.length c468].toArray), (1, 29, agg [int .i64 2, int .i64 2, slice none 0 0].toArray)] D r ∧ Hp G' (tk (slice A241 y240.length c242) 4 31 :: tk (slice (some ⟨g229, 0, none⟩) ([50] : List Int).length 1) 1 3 :: bx g6 [int .i64 2, int .i64 2, slice none 0 0] 28 :: L) w) ∨ (D 0 = false ∧ D 2 = true ∧ D 3 = false ∧ ∃ (g659 : Nat) (G' : Gh), G436 ≤ G' ∧ Dat (Kd.int .i64) G' (some ⟨g659, 0, none⟩) ([40] : List Int) ∧ Regs [(1, pointer (some ⟨g6, 0, none⟩)), (2, slice A241 y240.length c242), (3, int .i64 y247)] [] [(1, 29, agg [int .i64 2, int .i64 2, slice none 0 0].toArray), (2, 30, slice (some ⟨g659, 0, none⟩) ([40] : List Int).length 1)] D r ∧ Hp G' (tk (slice (some ⟨g659, 0, none⟩) ([40] : List Int).length 1) 1 3 :: tk (slice A241 y240.length c242) 4 31 :: tk (slice (some ⟨g229, 0, none⟩) ([50] : List Int).length 1) 1 3 :: bx g6 [int .i64 2, int .i64 2, slice none 0 0] 28 :: L) w) ∨ (D 0 = true ∧ D 2 = true ∧ D 3 = false ∧ ∃ (A463 : Option Addr) (c464 : Nat) (A467 : Option Addr) (c468 : Nat) (g659 : Nat) (G' : Gh), G436 ≤ G' ∧ y462.Glyphs.length ≤ c464 ∧ Dat k_api_Glyph G' A463 y462.Glyphs ∧ y462.Kerns.length ≤ c468 ∧ Dat k_api_Kern G' A467 y462.Kerns ∧ Dat (Kd.int .i64) G' (some ⟨g659, 0, none⟩) ([40] : List Int) ∧ Regs [(1, pointer (some ⟨g6, 0, none⟩)), (2, slice A241 y240.length c242), (3, int .i64 y247)] [] [(0, 28, agg [slice A463 y462.Glyphs.length c464, slice A467 y462.Kerns.length c468].toArray), (1, 29, agg [int .i64 2, int .i64 2, slice none 0 0].toArray), (2, 30, slice (some ⟨g659, 0, none⟩) ([40] : List Int).length 1)] D r ∧ Hp G' (tk (slice (some ⟨g659, 0, none⟩) ([40] : List Int).length 1) 1 3 :: tk (slice A241 y240.length c242) 4 31 :: tk (slice (some ⟨g229, 0, none⟩) ([50] : List Int).length 1) 1 3 :: bx g6 [int .i64 2, int .i64 2, slice none 0 0] 28 :: L) w) ∨ (D 0 = true ∧ D 2 = true ∧ D 3 = true ∧ ∃ (A463 : Option Addr) (c464 : Nat) (A467 : Option Addr) (c468 : Nat) (g659 : Nat) (A671 : Option Addr) (c672 : Nat) (G' : Gh), G436 ≤ G' ∧ y462.Glyphs.length ≤ c464 ∧ Dat k_api_Glyph G' A463 y462.Glyphs ∧ y462.Kerns.length ≤ c468 ∧ Dat k_api_Kern G' A467 y462.Kerns ∧ Dat (Kd.int .i64) G' (some ⟨g659, 0, none⟩) ([40] : List Int) ∧ y670.length ≤ c672 ∧ Dat k_api_Line G' A671 y670 ∧ Own A671 c672 ∧ Regs [(1, pointer (some ⟨g6, 0, none⟩)), (2, slice A241 y240.length c242), (3, int .i64 y247)] [] [(0, 28, agg [slice A463 y462.Glyphs.length c464, slice A467 y462.Kerns.length c468].toArray), (1, 29, agg [int .i64 2, int .i64 2, slice none 0 0].toArray), (2, 30, slice (some ⟨g659, 0, none⟩) ([40] : List Int).length 1), (3, 31, tuple [slice A671 y670.length c672, int .i64 y677].toArray), (4, 27, tuple [slice A671 y670.length c672, int .i64 y677].toArray), (5, 32, slice A671 y670.length c672), (6, 33, int .i64 y677), (7, 4, slice A671 y670.length c672), (8, 5, int .i64 y677)] D r ∧ Hp G' (tk (slice A671 y670.length c672) 4 31 :: tk (slice (some ⟨g659, 0, none⟩) ([40] : List Int).length 1) 1 3 :: tk (slice A241 y240.length c242) 4 31 :: tk (slice (some ⟨g229, 0, none⟩) ([50] : List Int).length 1) 1 3 :: bx g6 [int .i64 2, int .i64 2, slice none 0 0] 28 :: L) w)) mixo rfl rfl ?_ ?_ ?_
 exact (.inl ⟨rfl, rfl, rfl, _, Gh.le_refl _, Regs.start ⟨rfl, rfl, rfl, trivial⟩ trivial, hI438.drew⟩)
 refine ⟨?_, ?_, ?_, ?_, ?_, ?_, ?_, ?_, ?_, trivial⟩
 rintro D r wd870 (⟨hd0, hd2, hd3, G866, hG867, hReg869, hI868⟩ | ⟨hd0, hd2, hd3, A463, c464, A467, c468, G866, hG867, hl465, hD466, hl469, hD470, hReg869, hI868⟩ | ⟨hd0, hd2, hd3, g659, G866, hG867, hD664, hReg869, hI868⟩ | ⟨hd0, hd2, hd3, A463, c464, A467, c468, g659, G866, hG867, hl465, hD466, hl469, hD470, hD664, hReg869, hI868⟩ | ⟨hd0, hd2, hd3, A463, c464, A467, c468, g659, A671, c672, G866, hG867, hl465, hD466, hl469, hD470, hD664, hl673, hD674, ho675, hReg869, hI868⟩) hDi hpre hpost
 obtain ⟨r0, rfl⟩ := Has.ex (r := r) cN
 refine q_cv (vs := []) bo23 rfl rfl (formelaw17_plain_spec hI868 hy647) ?_
 rintro _ wd460 ⟨A463, c464, A467, c468, G458, hG459, hI461, hl465, hD466, hl469, hD470, rfl⟩
 refine ⟨_, rfl, ?_⟩
 exact nl ⟨rfl, (.inr (.inl ⟨rfl, hd2, hd3, A463, c464, A467, c468, _, (gT hG867 hG459), hl465, hD466, hl469, hD470, (Regs.step (Regs.re (vals' := [(0, 28, agg [slice A463 y462.Glyphs.length c464, slice A467 y462.Kerns.length c468].toArray), (1, 29, agg [int .i64 2, int .i64 2, slice none 0 0].toArray)]) hReg869 (List.forall_mem_cons.2 ⟨.inr hDi, (List.forall_mem_cons.2 ⟨.inl (List.mem_of_getElem? (i := 0) rfl), (fun _ h => nomatch h)⟩)⟩)) hDi rfl rfl rfl rfl), hI461⟩))⟩
 cases hDi.symm.trans hd0
 obtain ⟨r0, rfl⟩ := Has.ex (r := r) cN
 refine q_cv (vs := []) bo23 rfl rfl (formelaw17_plain_spec hI868 hy647) ?_
 rintro _ wd460 ⟨A463, c464, A467, c468, G458, hG459, hI461, hl465, hD466, hl469, hD470, rfl⟩
 refine ⟨_, rfl, ?_⟩
 exact nl ⟨rfl, (.inr (.inr (.inr (.inl ⟨rfl, hd2, hd3, A463, c464, A467, c468, g659, _, (gT hG867 hG459), hl465, hD466, hl469, hD470, (Dat.mono hG459 hD664), (Regs.step (Regs.re (vals' := [(0, 28, agg [slice A463 y462.Glyphs.length c464, slice A467 y462.Kerns.length c468].toArray), (1, 29, agg [int .i64 2, int .i64 2, slice none 0 0].toArray), (2, 30, slice (some ⟨g659, 0, none⟩) ([40] : List Int).length 1)]) hReg869 (List.forall_mem_cons.2 ⟨.inr hDi, (List.forall_mem_cons.2 ⟨.inl (List.mem_of_getElem? (i := 0) rfl), (List.forall_mem_cons.2 ⟨.inl (List.mem_of_getElem? (i := 1) rfl), (fun _ h => nomatch h)⟩)⟩)⟩)) hDi rfl rfl rfl rfl), hI461⟩))))⟩
 cases hDi.symm.trans hd0
 cases hDi.symm.trans hd0
 rintro D r wd870 (⟨hd0, hd2, hd3, G866, hG867, hReg869, hI868⟩ | ⟨hd0, hd2, hd3, A463, c464, A467, c468, G866, hG867, hl465, hD466, hl469, hD470, hReg869, hI868⟩ | ⟨hd0, hd2, hd3, g659, G866, hG867, hD664, hReg869, hI868⟩ | ⟨hd0, hd2, hd3, A463, c464, A467, c468, g659, G866, hG867, hl465, hD466, hl469, hD470, hD664, hReg869, hI868⟩ | ⟨hd0, hd2, hd3, A463, c464, A467, c468, g659, A671, c672, G866, hG867, hl465, hD466, hl469, hD470, hD664, hl673, hD674, ho675, hReg869, hI868⟩) hDi hpre hpost
 obtain ⟨r0, rfl⟩ := Has.ex (cC (hReg869.ins.get 0 rfl) cN)
 refine q_ldA hI868 2 (cs := [int .i64 2, int .i64 2, slice none 0 0]) ag28 rfl rfl rfl rfl ?_
 exact nl ⟨rfl, (.inl ⟨hd0, hd2, hd3, _, hG867, (Regs.step hReg869 hDi rfl rfl rfl rfl), hI868⟩)⟩
 obtain ⟨r0, rfl⟩ := Has.ex (cC (hReg869.ins.get 0 rfl) cN)
 refine q_ldA hI868 2 (cs := [int .i64 2, int .i64 2, slice none 0 0]) ag28 rfl rfl rfl rfl ?_
 exact nl ⟨rfl, (.inr (.inl ⟨hd0, hd2, hd3, A463, c464, A467, c468, _, hG867, hl465, hD466, hl469, hD470, (Regs.step hReg869 hDi rfl rfl rfl rfl), hI868⟩))⟩
 obtain ⟨r0, rfl⟩ := Has.ex (cC (hReg869.ins.get 0 rfl) cN)
 refine q_ldA hI868 3 (cs := [int .i64 2, int .i64 2, slice none 0 0]) ag28 rfl rfl rfl rfl ?_
 exact nl ⟨rfl, (.inr (.inr (.inl ⟨hd0, hd2, hd3, g659, _, hG867, hD664, (Regs.step hReg869 hDi rfl rfl rfl rfl), hI868⟩)))⟩
 obtain ⟨r0, rfl⟩ := Has.ex (cC (hReg869.ins.get 0 rfl) cN)
 refine q_ldA hI868 3 (cs := [int .i64 2, int .i64 2, slice none 0 0]) ag28 rfl rfl rfl rfl ?_
 exact nl ⟨rfl, (.inr (.inr (.inr (.inl ⟨hd0, hd2, hd3, A463, c464, A467, c468, g659, _, hG867, hl465, hD466, hl469, hD470, hD664, (Regs.step hReg869 hDi rfl rfl rfl rfl), hI868⟩))))⟩
 cases (hpost 3 rfl).symm.trans hd3
 rintro D r wd870 (⟨hd0, hd2, hd3, G866, hG867, hReg869, hI868⟩ | ⟨hd0, hd2, hd3, A463, c464, A467, c468, G866, hG867, hl465, hD466, hl469, hD470, hReg869, hI868⟩ | ⟨hd0, hd2, hd3, g659, G866, hG867, hD664, hReg869, hI868⟩ | ⟨hd0, hd2, hd3, A463, c464, A467, c468, g659, G866, hG867, hl465, hD466, hl469, hD470, hD664, hReg869, hI868⟩ | ⟨hd0, hd2, hd3, A463, c464, A467, c468, g659, A671, c672, G866, hG867, hl465, hD466, hl469, hD470, hD664, hl673, hD674, ho675, hReg869, hI868⟩) hDi hpre hpost
 obtain ⟨r0, rfl⟩ := Has.ex (r := r) cN
 refine q_bs hI868 (vs := [(0, int .i64 40)]) (cs := [int .i64 40]) el29 ze3 rfl (by decide) rfl rfl (fun g659 wd660 hI661 => ?_)
 obtain ⟨G662, hG663, hI665, hD664⟩ := Hp.publish (xs := ([40] : List Int)) (n := 1) (Kd.int .i64) hI661 ⟨[int .i64 40], _, rfl, rfl, rfl⟩ rfl
 exact nl ⟨rfl, (.inr (.inr (.inl ⟨hd0, rfl, hd3, g659, _, (gT hG867 hG663), hD664, (Regs.step (Regs.re (vals' := [(1, 29, agg [int .i64 2, int .i64 2, slice none 0 0].toArray), (2, 30, slice (some ⟨g659, 0, none⟩) ([40] : List Int).length 1)]) hReg869 (List.forall_mem_cons.2 ⟨.inl (List.mem_of_getElem? (i := 0) rfl), (List.forall_mem_cons.2 ⟨.inr hDi, (fun _ h => nomatch h)⟩)⟩)) hDi rfl rfl rfl rfl), hI665⟩)))⟩
 obtain ⟨r0, rfl⟩ := Has.ex (r := r) cN
 refine q_bs hI868 (vs := [(0, int .i64 40)]) (cs := [int .i64 40]) el29 ze3 rfl (by decide) rfl rfl (fun g659 wd660 hI661 => ?_)
 obtain ⟨G662, hG663, hI665, hD664⟩ := Hp.publish (xs := ([40] : List Int)) (n := 1) (Kd.int .i64) hI661 ⟨[int .i64 40], _, rfl, rfl, rfl⟩ rfl
 exact nl ⟨rfl, (.inr (.inr (.inr (.inl ⟨hd0, rfl, hd3, A463, c464, A467, c468, g659, _, (gT hG867 hG663), hl465, (Dat.mono hG663 hD466), hl469, (Dat.mono hG663 hD470), hD664, (Regs.step (Regs.re (vals' := [(0, 28, agg [slice A463 y462.Glyphs.length c464, slice A467 y462.Kerns.length c468].toArray), (1, 29, agg [int .i64 2, int .i64 2, slice none 0 0].toArray), (2, 30, slice (some ⟨g659, 0, none⟩) ([40] : List Int).length 1)]) hReg869 (List.forall_mem_cons.2 ⟨.inl (List.mem_of_getElem? (i := 0) rfl), (List.forall_mem_cons.2 ⟨.inl (List.mem_of_getElem? (i := 1) rfl), (List.forall_mem_cons.2 ⟨.inr hDi, (fun _ h => nomatch h)⟩)⟩)⟩)) hDi rfl rfl rfl rfl), hI665⟩))))⟩
 cases hDi.symm.trans hd2
 cases hDi.symm.trans hd2
 cases hDi.symm.trans hd2
 rintro D r wd870 (⟨hd0, hd2, hd3, G866, hG867, hReg869, hI868⟩ | ⟨hd0, hd2, hd3, A463, c464, A467, c468, G866, hG867, hl465, hD466, hl469, hD470, hReg869, hI868⟩ | ⟨hd0, hd2, hd3, g659, G866, hG867, hD664, hReg869, hI868⟩ | ⟨hd0, hd2, hd3, A463, c464, A467, c468, g659, G866, hG867, hl465, hD466, hl469, hD470, hD664, hReg869, hI868⟩ | ⟨hd0, hd2, hd3, A463, c464, A467, c468, g659, A671, c672, G866, hG867, hl465, hD466, hl469, hD470, hD664, hl673, hD674, ho675, hReg869, hI868⟩) hDi hpre hpost
 cases (hpre 0 rfl).symm.trans hd0
 cases (hpre 2 rfl).symm.trans hd2
 cases (hpre 0 rfl).symm.trans hd0
 obtain ⟨r0, rfl⟩ := Has.ex (cC (hReg869.get 0 rfl (hpre 0 rfl)) (cC (hReg869.get 1 rfl (hpre 1 rfl)) (cC (hReg869.get 2 rfl (hpre 2 rfl)) cN)))
 refine q_cv (vs := [agg [slice A463 y462.Glyphs.length c464, slice A467 y462.Kerns.length c468].toArray, agg [int .i64 2, int .i64 2, slice none 0 0].toArray, string (⟨#[97, 98, 32, 99, 100, 32, 101, 102]⟩ : ByteArray), int .i64 100, slice (some ⟨g659, 0, none⟩) ([40] : List Int).length 1]) bo13 rfl rfl (inline_Lines_spec (a1 := y462) (a10 := (⟨2, 2, ([] : List ByteArray)⟩ : api_Breaks)) (a15 := (⟨#[97, 98, 32, 99, 100, 32, 101, 102]⟩ : ByteArray)) (a16 := 100) (a17 := ([40] : List Int)) hI868 hl465 hD466 hl469 hD470 (show ([] : List ByteArray).length ≤ 0 from Nat.le_refl 0) (Dat.nil _ _ _) (show ([40] : List Int).length ≤ 1 from Nat.le_of_ble_eq_true rfl) hD664 (hgl.mono (gT hG437 hG867)) hy855) ?_
 rintro _ wd668 ⟨A671, c672, G666, hG667, hI669, hl673, hD674, ho675, rfl⟩
 refine ⟨_, rfl, ?_⟩
 exact nl ⟨rfl, (.inr (.inr (.inr (.inr ⟨hd0, hd2, rfl, A463, c464, A467, c468, g659, A671, c672, _, (gT hG867 hG667), hl465, (Dat.mono hG667 hD466), hl469, (Dat.mono hG667 hD470), (Dat.mono hG667 hD664), hl673, hD674, ho675, (Regs.step (Regs.re (vals' := [(0, 28, agg [slice A463 y462.Glyphs.length c464, slice A467 y462.Kerns.length c468].toArray), (1, 29, agg [int .i64 2, int .i64 2, slice none 0 0].toArray), (2, 30, slice (some ⟨g659, 0, none⟩) ([40] : List Int).length 1), (3, 31, tuple [slice A671 y670.length c672, int .i64 y677].toArray), (4, 27, tuple [slice A671 y670.length c672, int .i64 y677].toArray), (5, 32, slice A671 y670.length c672), (6, 33, int .i64 y677), (7, 4, slice A671 y670.length c672), (8, 5, int .i64 y677)]) hReg869 (List.forall_mem_cons.2 ⟨.inl (List.mem_of_getElem? (i := 0) rfl), (List.forall_mem_cons.2 ⟨.inl (List.mem_of_getElem? (i := 1) rfl), (List.forall_mem_cons.2 ⟨.inl (List.mem_of_getElem? (i := 2) rfl), (List.forall_mem_cons.2 ⟨.inr hDi, (List.forall_mem_cons.2 ⟨.inr (hpost 4 rfl), (List.forall_mem_cons.2 ⟨.inr (hpost 5 rfl), (List.forall_mem_cons.2 ⟨.inr (hpost 6 rfl), (List.forall_mem_cons.2 ⟨.inr (hpost 7 rfl), (List.forall_mem_cons.2 ⟨.inr (hpost 8 rfl), (fun _ h => nomatch h)⟩)⟩)⟩)⟩)⟩)⟩)⟩)⟩)⟩)) hDi rfl rfl rfl rfl), hI669⟩))))⟩
 cases hDi.symm.trans hd3
 rintro D r wd870 (⟨hd0, hd2, hd3, G866, hG867, hReg869, hI868⟩ | ⟨hd0, hd2, hd3, A463, c464, A467, c468, G866, hG867, hl465, hD466, hl469, hD470, hReg869, hI868⟩ | ⟨hd0, hd2, hd3, g659, G866, hG867, hD664, hReg869, hI868⟩ | ⟨hd0, hd2, hd3, A463, c464, A467, c468, g659, G866, hG867, hl465, hD466, hl469, hD470, hD664, hReg869, hI868⟩ | ⟨hd0, hd2, hd3, A463, c464, A467, c468, g659, A671, c672, G866, hG867, hl465, hD466, hl469, hD470, hD664, hl673, hD674, ho675, hReg869, hI868⟩) hDi hpre hpost
 cases (hpre 0 rfl).symm.trans hd0
 cases (hpre 2 rfl).symm.trans hd2
 cases (hpre 0 rfl).symm.trans hd0
 cases (hpre 3 rfl).symm.trans hd3
 obtain ⟨r0, rfl⟩ := Has.ex (cC (hReg869.get 3 rfl (hpre 3 rfl)) cN)
 refine q_mv (v := tuple [slice A671 y670.length c672, int .i64 y677].toArray) rfl ?_
 exact nl ⟨rfl, (.inr (.inr (.inr (.inr ⟨hd0, hd2, hd3, A463, c464, A467, c468, g659, A671, c672, _, hG867, hl465, hD466, hl469, hD470, hD664, hl673, hD674, ho675, (Regs.step hReg869 hDi rfl rfl rfl rfl), hI868⟩))))⟩
 rintro D r wd870 (⟨hd0, hd2, hd3, G866, hG867, hReg869, hI868⟩ | ⟨hd0, hd2, hd3, A463, c464, A467, c468, G866, hG867, hl465, hD466, hl469, hD470, hReg869, hI868⟩ | ⟨hd0, hd2, hd3, g659, G866, hG867, hD664, hReg869, hI868⟩ | ⟨hd0, hd2, hd3, A463, c464, A467, c468, g659, G866, hG867, hl465, hD466, hl469, hD470, hD664, hReg869, hI868⟩ | ⟨hd0, hd2, hd3, A463, c464, A467, c468, g659, A671, c672, G866, hG867, hl465, hD466, hl469, hD470, hD664, hl673, hD674, ho675, hReg869, hI868⟩) hDi hpre hpost
 cases (hpre 0 rfl).symm.trans hd0
 cases (hpre 2 rfl).symm.trans hd2
 cases (hpre 0 rfl).symm.trans hd0
 cases (hpre 3 rfl).symm.trans hd3
 obtain ⟨r0, rfl⟩ := Has.ex (cC (hReg869.get 4 rfl (hpre 4 rfl)) cN)
 refine q_ex (v := slice A671 y670.length c672) rfl rfl ?_
 exact nl ⟨rfl, (.inr (.inr (.inr (.inr ⟨hd0, hd2, hd3, A463, c464, A467, c468, g659, A671, c672, _, hG867, hl465, hD466, hl469, hD470, hD664, hl673, hD674, ho675, (Regs.step hReg869 hDi rfl rfl rfl rfl), hI868⟩))))⟩
 rintro D r wd870 (⟨hd0, hd2, hd3, G866, hG867, hReg869, hI868⟩ | ⟨hd0, hd2, hd3, A463, c464, A467, c468, G866, hG867, hl465, hD466, hl469, hD470, hReg869, hI868⟩ | ⟨hd0, hd2, hd3, g659, G866, hG867, hD664, hReg869, hI868⟩ | ⟨hd0, hd2, hd3, A463, c464, A467, c468, g659, G866, hG867, hl465, hD466, hl469, hD470, hD664, hReg869, hI868⟩ | ⟨hd0, hd2, hd3, A463, c464, A467, c468, g659, A671, c672, G866, hG867, hl465, hD466, hl469, hD470, hD664, hl673, hD674, ho675, hReg869, hI868⟩) hDi hpre hpost
 cases (hpre 0 rfl).symm.trans hd0
 cases (hpre 2 rfl).symm.trans hd2
 cases (hpre 0 rfl).symm.trans hd0
 cases (hpre 3 rfl).symm.trans hd3
 obtain ⟨r0, rfl⟩ := Has.ex (cC (hReg869.get 4 rfl (hpre 4 rfl)) cN)
 refine q_ex (v := int .i64 y677) rfl rfl ?_
 exact nl ⟨rfl, (.inr (.inr (.inr (.inr ⟨hd0, hd2, hd3, A463, c464, A467, c468, g659, A671, c672, _, hG867, hl465, hD466, hl469, hD470, hD664, hl673, hD674, ho675, (Regs.step hReg869 hDi rfl rfl rfl rfl), hI868⟩))))⟩
 rintro D r wd870 (⟨hd0, hd2, hd3, G866, hG867, hReg869, hI868⟩ | ⟨hd0, hd2, hd3, A463, c464, A467, c468, G866, hG867, hl465, hD466, hl469, hD470, hReg869, hI868⟩ | ⟨hd0, hd2, hd3, g659, G866, hG867, hD664, hReg869, hI868⟩ | ⟨hd0, hd2, hd3, A463, c464, A467, c468, g659, G866, hG867, hl465, hD466, hl469, hD470, hD664, hReg869, hI868⟩ | ⟨hd0, hd2, hd3, A463, c464, A467, c468, g659, A671, c672, G866, hG867, hl465, hD466, hl469, hD470, hD664, hl673, hD674, ho675, hReg869, hI868⟩) hDi hpre hpost
 cases (hpre 0 rfl).symm.trans hd0
 cases (hpre 2 rfl).symm.trans hd2
 cases (hpre 0 rfl).symm.trans hd0
 cases (hpre 3 rfl).symm.trans hd3
 obtain ⟨r0, rfl⟩ := Has.ex (cC (hReg869.get 5 rfl (hpre 5 rfl)) cN)
 refine q_as (v := slice A671 y670.length c672) rfl ?_
 exact nl ⟨rfl, (.inr (.inr (.inr (.inr ⟨hd0, hd2, hd3, A463, c464, A467, c468, g659, A671, c672, _, hG867, hl465, hD466, hl469, hD470, hD664, hl673, hD674, ho675, (Regs.step hReg869 hDi rfl rfl rfl rfl), hI868⟩))))⟩
 rintro D r wd870 (⟨hd0, hd2, hd3, G866, hG867, hReg869, hI868⟩ | ⟨hd0, hd2, hd3, A463, c464, A467, c468, G866, hG867, hl465, hD466, hl469, hD470, hReg869, hI868⟩ | ⟨hd0, hd2, hd3, g659, G866, hG867, hD664, hReg869, hI868⟩ | ⟨hd0, hd2, hd3, A463, c464, A467, c468, g659, G866, hG867, hl465, hD466, hl469, hD470, hD664, hReg869, hI868⟩ | ⟨hd0, hd2, hd3, A463, c464, A467, c468, g659, A671, c672, G866, hG867, hl465, hD466, hl469, hD470, hD664, hl673, hD674, ho675, hReg869, hI868⟩) hDi hpre hpost
 cases (hpre 0 rfl).symm.trans hd0
 cases (hpre 2 rfl).symm.trans hd2
 cases (hpre 0 rfl).symm.trans hd0
 cases (hpre 3 rfl).symm.trans hd3
 obtain ⟨r0, rfl⟩ := Has.ex (cC (hReg869.get 6 rfl (hpre 6 rfl)) cN)
 refine q_as (v := int .i64 y677) rfl ?_
 exact nl ⟨rfl, (.inr (.inr (.inr (.inr ⟨hd0, hd2, hd3, A463, c464, A467, c468, g659, A671, c672, _, hG867, hl465, hD466, hl469, hD470, hD664, hl673, hD674, ho675, (Regs.step hReg869 hDi rfl rfl rfl rfl), hI868⟩))))⟩
 intro D r wd870 hall hR
 rcases hR with ⟨hd0, hd2, hd3, G866, hG867, hReg869, hI868⟩ | ⟨hd0, hd2, hd3, A463, c464, A467, c468, G866, hG867, hl465, hD466, hl469, hD470, hReg869, hI868⟩ | ⟨hd0, hd2, hd3, g659, G866, hG867, hD664, hReg869, hI868⟩ | ⟨hd0, hd2, hd3, A463, c464, A467, c468, g659, G866, hG867, hl465, hD466, hl469, hD470, hD664, hReg869, hI868⟩ | ⟨hd0, hd2, hd3, A463, c464, A467, c468, g659, A671, c672, G866, hG867, hl465, hD466, hl469, hD470, hD664, hl673, hD674, ho675, hReg869, hI868⟩
 cases (hall 0 (Nat.le_of_ble_eq_true rfl)).symm.trans hd0
 cases (hall 2 (Nat.le_of_ble_eq_true rfl)).symm.trans hd2
 cases (hall 0 (Nat.le_of_ble_eq_true rfl)).symm.trans hd0
 cases (hall 3 (Nat.le_of_ble_eq_true rfl)).symm.trans hd3
 obtain ⟨r0, rfl⟩ := Has.ex (cC (hReg869.ins.get 0 rfl) (cC (hReg869.ins.get 1 rfl) (cC (hReg869.ins.get 2 rfl) (cC (hReg869.get 7 rfl (hall 7 (Nat.le_of_ble_eq_true rfl))) (cC (hReg869.get 8 rfl (hall 8 (Nat.le_of_ble_eq_true rfl))) cN)))))
 refine hK442 _ _ _ ?_
 refine sQ fun K871 hK872 => ?_
 obtain ⟨y892, hy1077, H⟩ := bS H
 obtain ⟨⟨y1092, y1093⟩, hy1277, H⟩ := bS H
 refine wpc_drawL [0, 0, 3, 7, 15, 15, 0, 95, 255] (fun D r w => (D 0 = false ∧ D 6 = false ∧ D 7 = false ∧ ∃ (G' : Gh), G866 ≤ G' ∧ Regs [(1, pointer (some ⟨g6, 0, none⟩)), (2, slice A241 y240.length c242), (3, int .i64 y247), (4, slice A671 y670.length c672), (5, int .i64 y677)] [] [(1, 36, agg [int .i64 2, int .i64 2, slice none 0 0].toArray)] D r ∧ Hp G' (tk (slice A671 y670.length c672) 4 31 :: tk (slice (some ⟨g659, 0, none⟩) ([40] : List Int).length 1) 1 3 :: tk (slice A241 y240.length c242) 4 31 :: tk (slice (some ⟨g229, 0, none⟩) ([50] : List Int).length 1) 1 3 :: bx g6 [int .i64 2, int .i64 2, slice none 0 0] 28 :: L) w) ∨ (D 0 = true ∧ D 6 = false ∧ D 7 = false ∧ ∃ (A893 : Option Addr) (c894 : Nat) (A897 : Option Addr) (c898 : Nat) (G' : Gh), G866 ≤ G' ∧ y892.Glyphs.length ≤ c894 ∧ Dat k_api_Glyph G' A893 y892.Glyphs ∧ y892.Kerns.length ≤ c898 ∧ Dat k_api_Kern G' A897 y892.Kerns ∧ Regs [(1, pointer (some ⟨g6, 0, none⟩)), (2, slice A241 y240.length c242), (3, int .i64 y247), (4, slice A671 y670.length c672), (5, int .i64 y677)] [] [(0, 35, agg [slice A893 y892.Glyphs.length c894, slice A897 y892.Kerns.length c898].toArray), (1, 36, agg [int .i64 2, int .i64 2, slice none 0 0].toArray), (2, 37, tuple [agg [int .i64 y1092.From, int .i64 y1092.Until, int .i64 y1092.Width, bool y1092.Hyphen].toArray, int .i64 y1093].toArray), (3, 34, tuple [agg [int .i64 y1092.From, int .i64 y1092.Until, int .i64 y1092.Width, bool y1092.Hyphen].toArray, int .i64 y1093].toArray), (4, 38, agg [int .i64 y1092.From, int .i64 y1092.Until, int .i64 y1092.Width, bool y1092.Hyphen].toArray), (5, 39, int .i64 y1093)] D r ∧ Hp G' (tk (slice A671 y670.length c672) 4 31 :: tk (slice (some ⟨g659, 0, none⟩) ([40] : List Int).length 1) 1 3 :: tk (slice A241 y240.length c242) 4 31 :: tk (slice (some ⟨g229, 0, none⟩) ([50] : List Int).length 1) 1 3 :: bx g6 [int .i64 2, int .i64 2, slice none 0 0] 28 :: L) w) ∨ (D 0 = false ∧ D 6 = true ∧ D 7 = false ∧ ∃ (g1289 : Nat) (G' : Gh), G866 ≤ G' ∧ Regs [(1, pointer (some ⟨g6, 0, none⟩)), (2, slice A241 y240.length c242), (3, int .i64 y247), (4, slice A671 y670.length c672), (5, int .i64 y677)] [] [(1, 36, agg [int .i64 2, int .i64 2, slice none 0 0].toArray), (6, 6, pointer (some ⟨g1289, 0, none⟩))] D r ∧ Hp G' (bx g1289 [int .i64 0, int .i64 0, int .i64 0, bool false] 31 :: tk (slice A671 y670.length c672) 4 31 :: tk (slice (some ⟨g659, 0, none⟩) ([40] : List Int).length 1) 1 3 :: tk (slice A241 y240.length c242) 4 31 :: tk (slice (some ⟨g229, 0, none⟩) ([50] : List Int).length 1) 1 3 :: bx g6 [int .i64 2, int .i64 2, slice none 0 0] 28 :: L) w) ∨ (D 0 = true ∧ D 6 = true ∧ D 7 = false ∧ ∃ (A893 : Option Addr) (c894 : Nat) (A897 : Option Addr) (c898 : Nat) (g1289 : Nat) (G' : Gh), G866 ≤ G' ∧ y892.Glyphs.length ≤ c894 ∧ Dat k_api_Glyph G' A893 y892.Glyphs ∧ y892.Kerns.length ≤ c898 ∧ Dat k_api_Kern G' A897 y892.Kerns ∧ Regs [(1, pointer (some ⟨g6, 0, none⟩)), (2, slice A241 y240.length c242), (3, int .i64 y247), (4, slice A671 y670.length c672), (5, int .i64 y677)] [] [(0, 35, agg [slice A893 y892.Glyphs.length c894, slice A897 y892.Kerns.length c898].toArray), (1, 36, agg [int .i64 2, int .i64 2, slice none 0 0].toArray), (2, 37, tuple [agg [int .i64 y1092.From, int .i64 y1092.Until, int .i64 y1092.Width, bool y1092.Hyphen].toArray, int .i64 y1093].toArray), (3, 34, tuple [agg [int .i64 y1092.From, int .i64 y1092.Until, int .i64 y1092.Width, bool y1092.Hyphen].toArray, int .i64 y1093].toArray), (4, 38, agg [int .i64 y1092.From, int .i64 y1092.Until, int .i64 y1092.Width, bool y1092.Hyphen].toArray), (5, 39, int .i64 y1093), (6, 6, pointer (some ⟨g1289, 0, none⟩))] D r ∧ Hp G' (bx g1289 [int .i64 0, int .i64 0, int .i64 0, bool false] 31 :: tk (slice A671 y670.length c672) 4 31 :: tk (slice (some ⟨g659, 0, none⟩) ([40] : List Int).length 1) 1 3 :: tk (slice A241 y240.length c242) 4 31 :: tk (slice (some ⟨g229, 0, none⟩) ([50] : List Int).length 1) 1 3 :: bx g6 [int .i64 2, int .i64 2, slice none 0 0] 28 :: L) w) ∨ (D 0 = true ∧ D 6 = true ∧ D 7 = true ∧ ∃ (A893 : Option Addr) (c894 : Nat) (A897 : Option Addr) (c898 : Nat) (g1289 : Nat) (G' : Gh), G866 ≤ G' ∧ y892.Glyphs.length ≤ c894 ∧ Dat k_api_Glyph G' A893 y892.Glyphs ∧ y892.Kerns.length ≤ c898 ∧ Dat k_api_Kern G' A897 y892.Kerns ∧ Regs [(1, pointer (some ⟨g6, 0, none⟩)), (2, slice A241 y240.length c242), (3, int .i64 y247), (4, slice A671 y670.length c672), (5, int .i64 y677)] [] [(0, 35, agg [slice A893 y892.Glyphs.length c894, slice A897 y892.Kerns.length c898].toArray), (1, 36, agg [int .i64 2, int .i64 2, slice none 0 0].toArray), (2, 37, tuple [agg [int .i64 y1092.From, int .i64 y1092.Until, int .i64 y1092.Width, bool y1092.Hyphen].toArray, int .i64 y1093].toArray), (3, 34, tuple [agg [int .i64 y1092.From, int .i64 y1092.Until, int .i64 y1092.Width, bool y1092.Hyphen].toArray, int .i64 y1093].toArray), (4, 38, agg [int .i64 y1092.From, int .i64 y1092.Until, int .i64 y1092.Width, bool y1092.Hyphen].toArray), (5, 39, int .i64 y1093), (6, 6, pointer (some ⟨g1289, 0, none⟩)), (8, 7, int .i64 y1093)] D r ∧ Hp G' (bx g1289 [int .i64 y1092.From, int .i64 y1092.Until, int .i64 y1092.Width, bool y1092.Hyphen] 31 :: tk (slice A671 y670.length c672) 4 31 :: tk (slice (some ⟨g659, 0, none⟩) ([40] : List Int).length 1) 1 3 :: tk (slice A241 y240.length c242) 4 31 :: tk (slice (some ⟨g229, 0, none⟩) ([50] : List Int).length 1) 1 3 :: bx g6 [int .i64 2, int .i64 2, slice none 0 0] 28 :: L) w)) mixo rfl rfl ?_ ?_ ?_
 exact (.inl ⟨rfl, rfl, rfl, _, Gh.le_refl _, Regs.start ⟨rfl, rfl, rfl, rfl, rfl, trivial⟩ trivial, hI868.drew⟩)
 refine ⟨?_, ?_, ?_, ?_, ?_, ?_, ?_, ?_, ?_, trivial⟩
 rintro D r wd1298 (⟨hd0, hd6, hd7, G1294, hG1295, hReg1297, hI1296⟩ | ⟨hd0, hd6, hd7, A893, c894, A897, c898, G1294, hG1295, hl895, hD896, hl899, hD900, hReg1297, hI1296⟩ | ⟨hd0, hd6, hd7, g1289, G1294, hG1295, hReg1297, hI1296⟩ | ⟨hd0, hd6, hd7, A893, c894, A897, c898, g1289, G1294, hG1295, hl895, hD896, hl899, hD900, hReg1297, hI1296⟩ | ⟨hd0, hd6, hd7, A893, c894, A897, c898, g1289, G1294, hG1295, hl895, hD896, hl899, hD900, hReg1297, hI1296⟩) hDi hpre hpost
 obtain ⟨r0, rfl⟩ := Has.ex (r := r) cN
 refine q_cv (vs := []) bo23 rfl rfl (formelaw17_plain_spec hI1296 hy1077) ?_
 rintro _ wd890 ⟨A893, c894, A897, c898, G888, hG889, hI891, hl895, hD896, hl899, hD900, rfl⟩
 refine ⟨_, rfl, ?_⟩
 exact nl ⟨rfl, (.inr (.inl ⟨rfl, hd6, hd7, A893, c894, A897, c898, _, (gT hG1295 hG889), hl895, hD896, hl899, hD900, (Regs.step (Regs.re (vals' := [(0, 35, agg [slice A893 y892.Glyphs.length c894, slice A897 y892.Kerns.length c898].toArray), (1, 36, agg [int .i64 2, int .i64 2, slice none 0 0].toArray), (2, 37, tuple [agg [int .i64 y1092.From, int .i64 y1092.Until, int .i64 y1092.Width, bool y1092.Hyphen].toArray, int .i64 y1093].toArray), (3, 34, tuple [agg [int .i64 y1092.From, int .i64 y1092.Until, int .i64 y1092.Width, bool y1092.Hyphen].toArray, int .i64 y1093].toArray), (4, 38, agg [int .i64 y1092.From, int .i64 y1092.Until, int .i64 y1092.Width, bool y1092.Hyphen].toArray), (5, 39, int .i64 y1093)]) hReg1297 (List.forall_mem_cons.2 ⟨.inr hDi, (List.forall_mem_cons.2 ⟨.inl (List.mem_of_getElem? (i := 0) rfl), (List.forall_mem_cons.2 ⟨.inr (hpost 2 rfl), (List.forall_mem_cons.2 ⟨.inr (hpost 3 rfl), (List.forall_mem_cons.2 ⟨.inr (hpost 4 rfl), (List.forall_mem_cons.2 ⟨.inr (hpost 5 rfl), (fun _ h => nomatch h)⟩)⟩)⟩)⟩)⟩)⟩)) hDi rfl rfl rfl rfl), hI891⟩))⟩
 cases hDi.symm.trans hd0
 obtain ⟨r0, rfl⟩ := Has.ex (r := r) cN
 refine q_cv (vs := []) bo23 rfl rfl (formelaw17_plain_spec hI1296 hy1077) ?_
 rintro _ wd890 ⟨A893, c894, A897, c898, G888, hG889, hI891, hl895, hD896, hl899, hD900, rfl⟩
 refine ⟨_, rfl, ?_⟩
 exact nl ⟨rfl, (.inr (.inr (.inr (.inl ⟨rfl, hd6, hd7, A893, c894, A897, c898, g1289, _, (gT hG1295 hG889), hl895, hD896, hl899, hD900, (Regs.step (Regs.re (vals' := [(0, 35, agg [slice A893 y892.Glyphs.length c894, slice A897 y892.Kerns.length c898].toArray), (1, 36, agg [int .i64 2, int .i64 2, slice none 0 0].toArray), (2, 37, tuple [agg [int .i64 y1092.From, int .i64 y1092.Until, int .i64 y1092.Width, bool y1092.Hyphen].toArray, int .i64 y1093].toArray), (3, 34, tuple [agg [int .i64 y1092.From, int .i64 y1092.Until, int .i64 y1092.Width, bool y1092.Hyphen].toArray, int .i64 y1093].toArray), (4, 38, agg [int .i64 y1092.From, int .i64 y1092.Until, int .i64 y1092.Width, bool y1092.Hyphen].toArray), (5, 39, int .i64 y1093), (6, 6, pointer (some ⟨g1289, 0, none⟩))]) hReg1297 (List.forall_mem_cons.2 ⟨.inr hDi, (List.forall_mem_cons.2 ⟨.inl (List.mem_of_getElem? (i := 0) rfl), (List.forall_mem_cons.2 ⟨.inr (hpost 2 rfl), (List.forall_mem_cons.2 ⟨.inr (hpost 3 rfl), (List.forall_mem_cons.2 ⟨.inr (hpost 4 rfl), (List.forall_mem_cons.2 ⟨.inr (hpost 5 rfl), (List.forall_mem_cons.2 ⟨.inl (List.mem_of_getElem? (i := 1) rfl), (fun _ h => nomatch h)⟩)⟩)⟩)⟩)⟩)⟩)⟩)) hDi rfl rfl rfl rfl), hI891⟩))))⟩
 cases hDi.symm.trans hd0
 cases hDi.symm.trans hd0
 rintro D r wd1298 (⟨hd0, hd6, hd7, G1294, hG1295, hReg1297, hI1296⟩ | ⟨hd0, hd6, hd7, A893, c894, A897, c898, G1294, hG1295, hl895, hD896, hl899, hD900, hReg1297, hI1296⟩ | ⟨hd0, hd6, hd7, g1289, G1294, hG1295, hReg1297, hI1296⟩ | ⟨hd0, hd6, hd7, A893, c894, A897, c898, g1289, G1294, hG1295, hl895, hD896, hl899, hD900, hReg1297, hI1296⟩ | ⟨hd0, hd6, hd7, A893, c894, A897, c898, g1289, G1294, hG1295, hl895, hD896, hl899, hD900, hReg1297, hI1296⟩) hDi hpre hpost
 obtain ⟨r0, rfl⟩ := Has.ex (cC (hReg1297.ins.get 0 rfl) cN)
 refine q_ldA hI1296 4 (cs := [int .i64 2, int .i64 2, slice none 0 0]) ag28 rfl rfl rfl rfl ?_
 exact nl ⟨rfl, (.inl ⟨hd0, hd6, hd7, _, hG1295, (Regs.step hReg1297 hDi rfl rfl rfl rfl), hI1296⟩)⟩
 obtain ⟨r0, rfl⟩ := Has.ex (cC (hReg1297.ins.get 0 rfl) cN)
 refine q_ldA hI1296 4 (cs := [int .i64 2, int .i64 2, slice none 0 0]) ag28 rfl rfl rfl rfl ?_
 exact nl ⟨rfl, (.inr (.inl ⟨hd0, hd6, hd7, A893, c894, A897, c898, _, hG1295, hl895, hD896, hl899, hD900, (Regs.step hReg1297 hDi rfl rfl rfl rfl), hI1296⟩))⟩
 obtain ⟨r0, rfl⟩ := Has.ex (cC (hReg1297.ins.get 0 rfl) cN)
 refine q_ldA hI1296 5 (cs := [int .i64 2, int .i64 2, slice none 0 0]) ag28 rfl rfl rfl rfl ?_
 exact nl ⟨rfl, (.inr (.inr (.inl ⟨hd0, hd6, hd7, g1289, _, hG1295, (Regs.step hReg1297 hDi rfl rfl rfl rfl), hI1296⟩)))⟩
 obtain ⟨r0, rfl⟩ := Has.ex (cC (hReg1297.ins.get 0 rfl) cN)
 refine q_ldA hI1296 5 (cs := [int .i64 2, int .i64 2, slice none 0 0]) ag28 rfl rfl rfl rfl ?_
 exact nl ⟨rfl, (.inr (.inr (.inr (.inl ⟨hd0, hd6, hd7, A893, c894, A897, c898, g1289, _, hG1295, hl895, hD896, hl899, hD900, (Regs.step hReg1297 hDi rfl rfl rfl rfl), hI1296⟩))))⟩
 cases (hpost 7 rfl).symm.trans hd7
 rintro D r wd1298 (⟨hd0, hd6, hd7, G1294, hG1295, hReg1297, hI1296⟩ | ⟨hd0, hd6, hd7, A893, c894, A897, c898, G1294, hG1295, hl895, hD896, hl899, hD900, hReg1297, hI1296⟩ | ⟨hd0, hd6, hd7, g1289, G1294, hG1295, hReg1297, hI1296⟩ | ⟨hd0, hd6, hd7, A893, c894, A897, c898, g1289, G1294, hG1295, hl895, hD896, hl899, hD900, hReg1297, hI1296⟩ | ⟨hd0, hd6, hd7, A893, c894, A897, c898, g1289, G1294, hG1295, hl895, hD896, hl899, hD900, hReg1297, hI1296⟩) hDi hpre hpost
 cases (hpre 0 rfl).symm.trans hd0
 obtain ⟨r0, rfl⟩ := Has.ex (cC (hReg1297.get 0 rfl (hpre 0 rfl)) (cC (hReg1297.get 1 rfl (hpre 1 rfl)) cN))
 refine q_cv (vs := [agg [slice A893 y892.Glyphs.length c894, slice A897 y892.Kerns.length c898].toArray, agg [int .i64 2, int .i64 2, slice none 0 0].toArray, string (⟨#[97, 98, 126, 99, 100]⟩ : ByteArray), int .i64 0, int .i64 100, int .i64 30]) bo11 rfl rfl (inline_Next_spec (a1 := y892) (a10 := (⟨2, 2, ([] : List ByteArray)⟩ : api_Breaks)) (a15 := (⟨#[97, 98, 126, 99, 100]⟩ : ByteArray)) (a16 := 0) (a17 := 100) (a18 := 30) hI1296 hl895 hD896 hl899 hD900 (show ([] : List ByteArray).length ≤ 0 from Nat.le_refl 0) (Dat.nil _ _ _) (hgl.mono (gT (gT hG437 hG867) hG1295)) hy1277) ?_
 rintro _ wd1090 ⟨G1088, hG1089, hI1091, rfl⟩
 refine ⟨_, rfl, ?_⟩
 exact nl ⟨rfl, (.inr (.inl ⟨hd0, hd6, hd7, A893, c894, A897, c898, _, (gT hG1295 hG1089), hl895, (Dat.mono hG1089 hD896), hl899, (Dat.mono hG1089 hD900), (Regs.step hReg1297 hDi rfl rfl rfl rfl), hI1091⟩))⟩
 cases (hpre 0 rfl).symm.trans hd0
 obtain ⟨r0, rfl⟩ := Has.ex (cC (hReg1297.get 0 rfl (hpre 0 rfl)) (cC (hReg1297.get 1 rfl (hpre 1 rfl)) cN))
 refine q_cv (vs := [agg [slice A893 y892.Glyphs.length c894, slice A897 y892.Kerns.length c898].toArray, agg [int .i64 2, int .i64 2, slice none 0 0].toArray, string (⟨#[97, 98, 126, 99, 100]⟩ : ByteArray), int .i64 0, int .i64 100, int .i64 30]) bo11 rfl rfl (inline_Next_spec (a1 := y892) (a10 := (⟨2, 2, ([] : List ByteArray)⟩ : api_Breaks)) (a15 := (⟨#[97, 98, 126, 99, 100]⟩ : ByteArray)) (a16 := 0) (a17 := 100) (a18 := 30) hI1296 hl895 hD896 hl899 hD900 (show ([] : List ByteArray).length ≤ 0 from Nat.le_refl 0) (Dat.nil _ _ _) (hgl.mono (gT (gT hG437 hG867) hG1295)) hy1277) ?_
 rintro _ wd1090 ⟨G1088, hG1089, hI1091, rfl⟩
 refine ⟨_, rfl, ?_⟩
 exact nl ⟨rfl, (.inr (.inr (.inr (.inl ⟨hd0, hd6, hd7, A893, c894, A897, c898, g1289, _, (gT hG1295 hG1089), hl895, (Dat.mono hG1089 hD896), hl899, (Dat.mono hG1089 hD900), (Regs.step hReg1297 hDi rfl rfl rfl rfl), hI1091⟩))))⟩
 cases (hpost 7 rfl).symm.trans hd7
 rintro D r wd1298 (⟨hd0, hd6, hd7, G1294, hG1295, hReg1297, hI1296⟩ | ⟨hd0, hd6, hd7, A893, c894, A897, c898, G1294, hG1295, hl895, hD896, hl899, hD900, hReg1297, hI1296⟩ | ⟨hd0, hd6, hd7, g1289, G1294, hG1295, hReg1297, hI1296⟩ | ⟨hd0, hd6, hd7, A893, c894, A897, c898, g1289, G1294, hG1295, hl895, hD896, hl899, hD900, hReg1297, hI1296⟩ | ⟨hd0, hd6, hd7, A893, c894, A897, c898, g1289, G1294, hG1295, hl895, hD896, hl899, hD900, hReg1297, hI1296⟩) hDi hpre hpost
 cases (hpre 0 rfl).symm.trans hd0
 obtain ⟨r0, rfl⟩ := Has.ex (cC (hReg1297.get 2 rfl (hpre 2 rfl)) cN)
 refine q_mv (v := tuple [agg [int .i64 y1092.From, int .i64 y1092.Until, int .i64 y1092.Width, bool y1092.Hyphen].toArray, int .i64 y1093].toArray) rfl ?_
 exact nl ⟨rfl, (.inr (.inl ⟨hd0, hd6, hd7, A893, c894, A897, c898, _, hG1295, hl895, hD896, hl899, hD900, (Regs.step hReg1297 hDi rfl rfl rfl rfl), hI1296⟩))⟩
 cases (hpre 0 rfl).symm.trans hd0
 obtain ⟨r0, rfl⟩ := Has.ex (cC (hReg1297.get 2 rfl (hpre 2 rfl)) cN)
 refine q_mv (v := tuple [agg [int .i64 y1092.From, int .i64 y1092.Until, int .i64 y1092.Width, bool y1092.Hyphen].toArray, int .i64 y1093].toArray) rfl ?_
 exact nl ⟨rfl, (.inr (.inr (.inr (.inl ⟨hd0, hd6, hd7, A893, c894, A897, c898, g1289, _, hG1295, hl895, hD896, hl899, hD900, (Regs.step hReg1297 hDi rfl rfl rfl rfl), hI1296⟩))))⟩
 cases (hpost 7 rfl).symm.trans hd7
 rintro D r wd1298 (⟨hd0, hd6, hd7, G1294, hG1295, hReg1297, hI1296⟩ | ⟨hd0, hd6, hd7, A893, c894, A897, c898, G1294, hG1295, hl895, hD896, hl899, hD900, hReg1297, hI1296⟩ | ⟨hd0, hd6, hd7, g1289, G1294, hG1295, hReg1297, hI1296⟩ | ⟨hd0, hd6, hd7, A893, c894, A897, c898, g1289, G1294, hG1295, hl895, hD896, hl899, hD900, hReg1297, hI1296⟩ | ⟨hd0, hd6, hd7, A893, c894, A897, c898, g1289, G1294, hG1295, hl895, hD896, hl899, hD900, hReg1297, hI1296⟩) hDi hpre hpost
 cases (hpre 0 rfl).symm.trans hd0
 obtain ⟨r0, rfl⟩ := Has.ex (cC (hReg1297.get 3 rfl (hpre 3 rfl)) cN)
 refine q_ex (v := agg [int .i64 y1092.From, int .i64 y1092.Until, int .i64 y1092.Width, bool y1092.Hyphen].toArray) rfl rfl ?_
 exact nl ⟨rfl, (.inr (.inl ⟨hd0, hd6, hd7, A893, c894, A897, c898, _, hG1295, hl895, hD896, hl899, hD900, (Regs.step hReg1297 hDi rfl rfl rfl rfl), hI1296⟩))⟩
 cases (hpre 0 rfl).symm.trans hd0
 obtain ⟨r0, rfl⟩ := Has.ex (cC (hReg1297.get 3 rfl (hpre 3 rfl)) cN)
 refine q_ex (v := agg [int .i64 y1092.From, int .i64 y1092.Until, int .i64 y1092.Width, bool y1092.Hyphen].toArray) rfl rfl ?_
 exact nl ⟨rfl, (.inr (.inr (.inr (.inl ⟨hd0, hd6, hd7, A893, c894, A897, c898, g1289, _, hG1295, hl895, hD896, hl899, hD900, (Regs.step hReg1297 hDi rfl rfl rfl rfl), hI1296⟩))))⟩
 cases (hpost 7 rfl).symm.trans hd7
 rintro D r wd1298 (⟨hd0, hd6, hd7, G1294, hG1295, hReg1297, hI1296⟩ | ⟨hd0, hd6, hd7, A893, c894, A897, c898, G1294, hG1295, hl895, hD896, hl899, hD900, hReg1297, hI1296⟩ | ⟨hd0, hd6, hd7, g1289, G1294, hG1295, hReg1297, hI1296⟩ | ⟨hd0, hd6, hd7, A893, c894, A897, c898, g1289, G1294, hG1295, hl895, hD896, hl899, hD900, hReg1297, hI1296⟩ | ⟨hd0, hd6, hd7, A893, c894, A897, c898, g1289, G1294, hG1295, hl895, hD896, hl899, hD900, hReg1297, hI1296⟩) hDi hpre hpost
 cases (hpre 0 rfl).symm.trans hd0
 obtain ⟨r0, rfl⟩ := Has.ex (cC (hReg1297.get 3 rfl (hpre 3 rfl)) cN)
 refine q_ex (v := int .i64 y1093) rfl rfl ?_
 exact nl ⟨rfl, (.inr (.inl ⟨hd0, hd6, hd7, A893, c894, A897, c898, _, hG1295, hl895, hD896, hl899, hD900, (Regs.step hReg1297 hDi rfl rfl rfl rfl), hI1296⟩))⟩
 cases (hpre 0 rfl).symm.trans hd0
 obtain ⟨r0, rfl⟩ := Has.ex (cC (hReg1297.get 3 rfl (hpre 3 rfl)) cN)
 refine q_ex (v := int .i64 y1093) rfl rfl ?_
 exact nl ⟨rfl, (.inr (.inr (.inr (.inl ⟨hd0, hd6, hd7, A893, c894, A897, c898, g1289, _, hG1295, hl895, hD896, hl899, hD900, (Regs.step hReg1297 hDi rfl rfl rfl rfl), hI1296⟩))))⟩
 obtain ⟨r0, rfl⟩ := Has.ex (cC (hReg1297.get 3 rfl (hpre 3 rfl)) cN)
 refine q_ex (v := int .i64 y1093) rfl rfl ?_
 exact nl ⟨rfl, (.inr (.inr (.inr (.inr ⟨hd0, hd6, hd7, A893, c894, A897, c898, g1289, _, hG1295, hl895, hD896, hl899, hD900, (Regs.step hReg1297 hDi rfl rfl rfl rfl), hI1296⟩))))⟩
 rintro D r wd1298 (⟨hd0, hd6, hd7, G1294, hG1295, hReg1297, hI1296⟩ | ⟨hd0, hd6, hd7, A893, c894, A897, c898, G1294, hG1295, hl895, hD896, hl899, hD900, hReg1297, hI1296⟩ | ⟨hd0, hd6, hd7, g1289, G1294, hG1295, hReg1297, hI1296⟩ | ⟨hd0, hd6, hd7, A893, c894, A897, c898, g1289, G1294, hG1295, hl895, hD896, hl899, hD900, hReg1297, hI1296⟩ | ⟨hd0, hd6, hd7, A893, c894, A897, c898, g1289, G1294, hG1295, hl895, hD896, hl899, hD900, hReg1297, hI1296⟩) hDi hpre hpost
 obtain ⟨r0, rfl⟩ := Has.ex (r := r) cN
 refine q_alloc hI1296 ze31 (fun g1289 wd1290 hI1291 => ?_)
 exact nl ⟨rfl, (.inr (.inr (.inl ⟨hd0, rfl, hd7, g1289, _, hG1295, (Regs.step (Regs.re (vals' := [(1, 36, agg [int .i64 2, int .i64 2, slice none 0 0].toArray), (6, 6, pointer (some ⟨g1289, 0, none⟩))]) hReg1297 (List.forall_mem_cons.2 ⟨.inl (List.mem_of_getElem? (i := 0) rfl), (List.forall_mem_cons.2 ⟨.inr hDi, (fun _ h => nomatch h)⟩)⟩)) hDi rfl rfl rfl rfl), hI1291⟩)))⟩
 obtain ⟨r0, rfl⟩ := Has.ex (r := r) cN
 refine q_alloc hI1296 ze31 (fun g1289 wd1290 hI1291 => ?_)
 exact nl ⟨rfl, (.inr (.inr (.inr (.inl ⟨hd0, rfl, hd7, A893, c894, A897, c898, g1289, _, hG1295, hl895, hD896, hl899, hD900, (Regs.step (Regs.re (vals' := [(0, 35, agg [slice A893 y892.Glyphs.length c894, slice A897 y892.Kerns.length c898].toArray), (1, 36, agg [int .i64 2, int .i64 2, slice none 0 0].toArray), (2, 37, tuple [agg [int .i64 y1092.From, int .i64 y1092.Until, int .i64 y1092.Width, bool y1092.Hyphen].toArray, int .i64 y1093].toArray), (3, 34, tuple [agg [int .i64 y1092.From, int .i64 y1092.Until, int .i64 y1092.Width, bool y1092.Hyphen].toArray, int .i64 y1093].toArray), (4, 38, agg [int .i64 y1092.From, int .i64 y1092.Until, int .i64 y1092.Width, bool y1092.Hyphen].toArray), (5, 39, int .i64 y1093), (6, 6, pointer (some ⟨g1289, 0, none⟩))]) hReg1297 (List.forall_mem_cons.2 ⟨.inl (List.mem_of_getElem? (i := 0) rfl), (List.forall_mem_cons.2 ⟨.inl (List.mem_of_getElem? (i := 1) rfl), (List.forall_mem_cons.2 ⟨.inl (List.mem_of_getElem? (i := 2) rfl), (List.forall_mem_cons.2 ⟨.inl (List.mem_of_getElem? (i := 3) rfl), (List.forall_mem_cons.2 ⟨.inl (List.mem_of_getElem? (i := 4) rfl), (List.forall_mem_cons.2 ⟨.inl (List.mem_of_getElem? (i := 5) rfl), (List.forall_mem_cons.2 ⟨.inr hDi, (fun _ h => nomatch h)⟩)⟩)⟩)⟩)⟩)⟩)⟩)) hDi rfl rfl rfl rfl), hI1291⟩))))⟩
 cases hDi.symm.trans hd6
 cases hDi.symm.trans hd6
 cases hDi.symm.trans hd6
 rintro D r wd1298 (⟨hd0, hd6, hd7, G1294, hG1295, hReg1297, hI1296⟩ | ⟨hd0, hd6, hd7, A893, c894, A897, c898, G1294, hG1295, hl895, hD896, hl899, hD900, hReg1297, hI1296⟩ | ⟨hd0, hd6, hd7, g1289, G1294, hG1295, hReg1297, hI1296⟩ | ⟨hd0, hd6, hd7, A893, c894, A897, c898, g1289, G1294, hG1295, hl895, hD896, hl899, hD900, hReg1297, hI1296⟩ | ⟨hd0, hd6, hd7, A893, c894, A897, c898, g1289, G1294, hG1295, hl895, hD896, hl899, hD900, hReg1297, hI1296⟩) hDi hpre hpost
 cases (hpre 0 rfl).symm.trans hd0
 cases (hpre 6 rfl).symm.trans hd6
 cases (hpre 0 rfl).symm.trans hd0
 obtain ⟨r0, rfl⟩ := Has.ex (cC (hReg1297.get 6 rfl (hpre 6 rfl)) (cC (hReg1297.get 4 rfl (hpre 4 rfl)) cN))
 refine q_stA hI1296 0 (v := agg [int .i64 y1092.From, int .i64 y1092.Until, int .i64 y1092.Width, bool y1092.Hyphen].toArray) (cs := [int .i64 y1092.From, int .i64 y1092.Until, int .i64 y1092.Width, bool y1092.Hyphen]) (vs' := [int .i64 y1092.From, int .i64 y1092.Until, int .i64 y1092.Width, bool y1092.Hyphen]) ag31 rfl rfl rfl rfl rfl rfl (Nat.le_of_ble_eq_true rfl) rfl (fun wd1292 hI1293 => ?_)
 exact nl ⟨rfl, (.inr (.inr (.inr (.inr ⟨hd0, hd6, rfl, A893, c894, A897, c898, g1289, _, hG1295, hl895, hD896, hl899, hD900, (Regs.stepN (Regs.re (vals' := [(0, 35, agg [slice A893 y892.Glyphs.length c894, slice A897 y892.Kerns.length c898].toArray), (1, 36, agg [int .i64 2, int .i64 2, slice none 0 0].toArray), (2, 37, tuple [agg [int .i64 y1092.From, int .i64 y1092.Until, int .i64 y1092.Width, bool y1092.Hyphen].toArray, int .i64 y1093].toArray), (3, 34, tuple [agg [int .i64 y1092.From, int .i64 y1092.Until, int .i64 y1092.Width, bool y1092.Hyphen].toArray, int .i64 y1093].toArray), (4, 38, agg [int .i64 y1092.From, int .i64 y1092.Until, int .i64 y1092.Width, bool y1092.Hyphen].toArray), (5, 39, int .i64 y1093), (6, 6, pointer (some ⟨g1289, 0, none⟩)), (8, 7, int .i64 y1093)]) hReg1297 (List.forall_mem_cons.2 ⟨.inl (List.mem_of_getElem? (i := 0) rfl), (List.forall_mem_cons.2 ⟨.inl (List.mem_of_getElem? (i := 1) rfl), (List.forall_mem_cons.2 ⟨.inl (List.mem_of_getElem? (i := 2) rfl), (List.forall_mem_cons.2 ⟨.inl (List.mem_of_getElem? (i := 3) rfl), (List.forall_mem_cons.2 ⟨.inl (List.mem_of_getElem? (i := 4) rfl), (List.forall_mem_cons.2 ⟨.inl (List.mem_of_getElem? (i := 5) rfl), (List.forall_mem_cons.2 ⟨.inl (List.mem_of_getElem? (i := 6) rfl), (List.forall_mem_cons.2 ⟨.inr (hpost 8 rfl), (fun _ h => nomatch h)⟩)⟩)⟩)⟩)⟩)⟩)⟩)⟩)) rfl rfl), hI1293⟩))))⟩
 cases hDi.symm.trans hd7
 rintro D r wd1298 (⟨hd0, hd6, hd7, G1294, hG1295, hReg1297, hI1296⟩ | ⟨hd0, hd6, hd7, A893, c894, A897, c898, G1294, hG1295, hl895, hD896, hl899, hD900, hReg1297, hI1296⟩ | ⟨hd0, hd6, hd7, g1289, G1294, hG1295, hReg1297, hI1296⟩ | ⟨hd0, hd6, hd7, A893, c894, A897, c898, g1289, G1294, hG1295, hl895, hD896, hl899, hD900, hReg1297, hI1296⟩ | ⟨hd0, hd6, hd7, A893, c894, A897, c898, g1289, G1294, hG1295, hl895, hD896, hl899, hD900, hReg1297, hI1296⟩) hDi hpre hpost
 cases (hpre 0 rfl).symm.trans hd0
 cases (hpre 6 rfl).symm.trans hd6
 cases (hpre 0 rfl).symm.trans hd0
 cases (hpre 7 rfl).symm.trans hd7
 obtain ⟨r0, rfl⟩ := Has.ex (cC (hReg1297.get 5 rfl (hpre 5 rfl)) cN)
 refine q_as (v := int .i64 y1093) rfl ?_
 exact nl ⟨rfl, (.inr (.inr (.inr (.inr ⟨hd0, hd6, hd7, A893, c894, A897, c898, g1289, _, hG1295, hl895, hD896, hl899, hD900, (Regs.step hReg1297 hDi rfl rfl rfl rfl), hI1296⟩))))⟩
 intro D r wd1298 hall hR
 rcases hR with ⟨hd0, hd6, hd7, G1294, hG1295, hReg1297, hI1296⟩ | ⟨hd0, hd6, hd7, A893, c894, A897, c898, G1294, hG1295, hl895, hD896, hl899, hD900, hReg1297, hI1296⟩ | ⟨hd0, hd6, hd7, g1289, G1294, hG1295, hReg1297, hI1296⟩ | ⟨hd0, hd6, hd7, A893, c894, A897, c898, g1289, G1294, hG1295, hl895, hD896, hl899, hD900, hReg1297, hI1296⟩ | ⟨hd0, hd6, hd7, A893, c894, A897, c898, g1289, G1294, hG1295, hl895, hD896, hl899, hD900, hReg1297, hI1296⟩
 cases (hall 0 (Nat.le_of_ble_eq_true rfl)).symm.trans hd0
 cases (hall 6 (Nat.le_of_ble_eq_true rfl)).symm.trans hd6
 cases (hall 0 (Nat.le_of_ble_eq_true rfl)).symm.trans hd0
 cases (hall 7 (Nat.le_of_ble_eq_true rfl)).symm.trans hd7
 obtain ⟨r0, rfl⟩ := Has.ex (cC (hReg1297.ins.get 0 rfl) (cC (hReg1297.ins.get 1 rfl) (cC (hReg1297.ins.get 2 rfl) (cC (hReg1297.ins.get 3 rfl) (cC (hReg1297.ins.get 4 rfl) (cC (hReg1297.get 6 rfl (hall 6 (Nat.le_of_ble_eq_true rfl))) (cC (hReg1297.get 7 rfl (hall 8 (Nat.le_of_ble_eq_true rfl))) cN)))))))
 refine hK872 _ _ _ ?_
 refine sr fun K1299 hK1300 => ?_
 obtain ⟨y1306, hy1301, H⟩ := bS H
 refine q_cv (vs := []) bo23 rfl rfl (formelaw17_plain_spec hI1296 hy1301) ?_
 rintro _ wd1304 ⟨A1307, c1308, A1311, c1312, G1302, hG1303, hI1305, hl1309, hD1310, hl1313, hD1314, rfl⟩
 refine ⟨_, rfl, ?_⟩
 refine q_build (vs := [(0, int .i64 3), (1, int .i64 6), (2, int .i64 20)]) (cs := [int .i64 3, int .i64 6, int .i64 20, bool false]) ze31 pl31 rfl rfl ?_
 obtain ⟨⟨y1320, y1321, y1322⟩, hy1315, H⟩ := bS H
 refine q_cv (vs := [agg [slice A1307 y1306.Glyphs.length c1308, slice A1311 y1306.Kerns.length c1312].toArray, string (⟨#[97, 98, 32, 99, 100, 32, 101, 102]⟩ : ByteArray), agg [int .i64 3, int .i64 6, int .i64 20, bool false].toArray, int .i64 100, int .i64 51, int .i64 2, int .i64 0]) bo16 rfl rfl (inline_Place_spec (a1 := y1306) (a10 := (⟨#[97, 98, 32, 99, 100, 32, 101, 102]⟩ : ByteArray)) (a11 := (⟨3, 6, 20, false⟩ : api_Line)) (a12 := 100) (a13 := 51) (a14 := 2) (a15 := 0) hI1305 hl1309 hD1310 hl1313 hD1314 (hgl.mono (gT (gT (gT hG437 hG867) hG1295) hG1303)) hy1315) ?_
 rintro _ wd1318 ⟨G1316, hG1317, hI1319, rfl⟩
 refine ⟨_, rfl, ?_⟩
 refine q_mv (v := tuple [string y1320, int .i64 y1321, int .i64 y1322].toArray) rfl ?_
 refine q_ex (v := string y1320) rfl rfl ?_
 refine q_ex (v := int .i64 y1321) rfl rfl ?_
 refine q_ex (v := int .i64 y1322) rfl rfl ?_
 refine q_as (v := string y1320) rfl ?_
 refine q_as (v := int .i64 y1321) rfl ?_
 refine q_as (v := int .i64 y1322) rfl ?_
 refine nl ?_
 refine hK1300 _ _ _ ?_
 refine sr fun K1323 hK1324 => ?_
 obtain ⟨y1330, hy1325, H⟩ := bS H
 refine q_cv (vs := []) bo23 rfl rfl (formelaw17_plain_spec hI1319 hy1325) ?_
 rintro _ wd1328 ⟨A1331, c1332, A1335, c1336, G1326, hG1327, hI1329, hl1333, hD1334, hl1337, hD1338, rfl⟩
 refine ⟨_, rfl, ?_⟩
 refine q_build (vs := [(0, int .i64 3), (1, int .i64 6), (2, int .i64 20)]) (cs := [int .i64 3, int .i64 6, int .i64 20, bool false]) ze31 pl31 rfl rfl ?_
 obtain ⟨⟨y1344, y1345, y1346⟩, hy1339, H⟩ := bS H
 refine q_cv (vs := [agg [slice A1331 y1330.Glyphs.length c1332, slice A1335 y1330.Kerns.length c1336].toArray, string (⟨#[97, 98, 32, 99, 100, 32, 101, 102]⟩ : ByteArray), agg [int .i64 3, int .i64 6, int .i64 20, bool false].toArray, int .i64 100, int .i64 50, int .i64 0, int .i64 1]) bo16 rfl rfl (inline_Place_spec (a1 := y1330) (a10 := (⟨#[97, 98, 32, 99, 100, 32, 101, 102]⟩ : ByteArray)) (a11 := (⟨3, 6, 20, false⟩ : api_Line)) (a12 := 100) (a13 := 50) (a14 := 0) (a15 := 1) hI1329 hl1333 hD1334 hl1337 hD1338 (hgl.mono (gT (gT (gT (gT (gT hG437 hG867) hG1295) hG1303) hG1317) hG1327)) hy1339) ?_
 rintro _ wd1342 ⟨G1340, hG1341, hI1343, rfl⟩
 refine ⟨_, rfl, ?_⟩
 refine q_mv (v := tuple [string y1344, int .i64 y1345, int .i64 y1346].toArray) rfl ?_
 refine q_ex (v := string y1344) rfl rfl ?_
 refine q_ex (v := int .i64 y1345) rfl rfl ?_
 refine q_ex (v := int .i64 y1346) rfl rfl ?_
 refine q_as (v := string y1344) rfl ?_
 refine q_as (v := int .i64 y1345) rfl ?_
 refine q_as (v := int .i64 y1346) rfl ?_
 refine nl ?_
 refine hK1324 _ _ _ ?_
 refine sQ fun K1347 hK1348 => ?_
 obtain ⟨y1368, hy1553, H⟩ := bS H
 obtain ⟨⟨y1568, y1575⟩, hy1753, H⟩ := bS H
 refine wpc_drawL [0, 0, 3, 7, 15, 15, 31, 127] (fun D r w => (D 0 = false ∧ ∃ (G' : Gh), G1340 ≤ G' ∧ Regs [(1, pointer (some ⟨g6, 0, none⟩)), (2, slice A241 y240.length c242), (3, int .i64 y247), (4, slice A671 y670.length c672), (5, int .i64 y677), (6, pointer (some ⟨g1289, 0, none⟩)), (7, int .i64 y1093), (8, string y1320), (9, int .i64 y1321), (10, int .i64 y1322), (12, int .i64 y1345), (13, int .i64 y1346)] [] [(1, 56, agg [int .i64 2, int .i64 2, slice none 0 0].toArray)] D r ∧ Hp G' (bx g1289 [int .i64 y1092.From, int .i64 y1092.Until, int .i64 y1092.Width, bool y1092.Hyphen] 31 :: tk (slice A671 y670.length c672) 4 31 :: tk (slice (some ⟨g659, 0, none⟩) ([40] : List Int).length 1) 1 3 :: tk (slice A241 y240.length c242) 4 31 :: tk (slice (some ⟨g229, 0, none⟩) ([50] : List Int).length 1) 1 3 :: bx g6 [int .i64 2, int .i64 2, slice none 0 0] 28 :: L) w) ∨ (D 0 = true ∧ D 2 = false ∧ ∃ (A1369 : Option Addr) (c1370 : Nat) (A1373 : Option Addr) (c1374 : Nat) (G' : Gh), G1340 ≤ G' ∧ y1368.Glyphs.length ≤ c1370 ∧ Dat k_api_Glyph G' A1369 y1368.Glyphs ∧ y1368.Kerns.length ≤ c1374 ∧ Dat k_api_Kern G' A1373 y1368.Kerns ∧ Regs [(1, pointer (some ⟨g6, 0, none⟩)), (2, slice A241 y240.length c242), (3, int .i64 y247), (4, slice A671 y670.length c672), (5, int .i64 y677), (6, pointer (some ⟨g1289, 0, none⟩)), (7, int .i64 y1093), (8, string y1320), (9, int .i64 y1321), (10, int .i64 y1322), (12, int .i64 y1345), (13, int .i64 y1346)] [] [(1, 56, agg [int .i64 2, int .i64 2, slice none 0 0].toArray), (0, 55, agg [slice A1369 y1368.Glyphs.length c1370, slice A1373 y1368.Kerns.length c1374].toArray)] D r ∧ Hp G' (bx g1289 [int .i64 y1092.From, int .i64 y1092.Until, int .i64 y1092.Width, bool y1092.Hyphen] 31 :: tk (slice A671 y670.length c672) 4 31 :: tk (slice (some ⟨g659, 0, none⟩) ([40] : List Int).length 1) 1 3 :: tk (slice A241 y240.length c242) 4 31 :: tk (slice (some ⟨g229, 0, none⟩) ([50] : List Int).length 1) 1 3 :: bx g6 [int .i64 2, int .i64 2, slice none 0 0] 28 :: L) w) ∨ (D 2 = true ∧ ∃ (A1369 : Option Addr) (c1370 : Nat) (A1373 : Option Addr) (c1374 : Nat) (A1569 : Option Addr) (c1570 : Nat) (G' : Gh), G1340 ≤ G' ∧ y1368.Glyphs.length ≤ c1370 ∧ Dat k_api_Glyph G' A1369 y1368.Glyphs ∧ y1368.Kerns.length ≤ c1374 ∧ Dat k_api_Kern G' A1373 y1368.Kerns ∧ y1568.length ≤ c1570 ∧ Dat k_api_Line G' A1569 y1568 ∧ Own A1569 c1570 ∧ Regs [(1, pointer (some ⟨g6, 0, none⟩)), (2, slice A241 y240.length c242), (3, int .i64 y247), (4, slice A671 y670.length c672), (5, int .i64 y677), (6, pointer (some ⟨g1289, 0, none⟩)), (7, int .i64 y1093), (8, string y1320), (9, int .i64 y1321), (10, int .i64 y1322), (12, int .i64 y1345), (13, int .i64 y1346)] [] [(1, 56, agg [int .i64 2, int .i64 2, slice none 0 0].toArray), (0, 55, agg [slice A1369 y1368.Glyphs.length c1370, slice A1373 y1368.Kerns.length c1374].toArray), (2, 57, tuple [slice A1569 y1568.length c1570, int .i64 y1575].toArray), (3, 54, tuple [slice A1569 y1568.length c1570, int .i64 y1575].toArray), (4, 58, slice A1569 y1568.length c1570), (5, 59, int .i64 y1575), (6, 14, slice A1569 y1568.length c1570), (7, 15, int .i64 y1575)] D r ∧ Hp G' (tk (slice A1569 y1568.length c1570) 4 31 :: bx g1289 [int .i64 y1092.From, int .i64 y1092.Until, int .i64 y1092.Width, bool y1092.Hyphen] 31 :: tk (slice A671 y670.length c672) 4 31 :: tk (slice (some ⟨g659, 0, none⟩) ([40] : List Int).length 1) 1 3 :: tk (slice A241 y240.length c242) 4 31 :: tk (slice (some ⟨g229, 0, none⟩) ([50] : List Int).length 1) 1 3 :: bx g6 [int .i64 2, int .i64 2, slice none 0 0] 28 :: L) w)) mixo rfl rfl ?_ ?_ ?_
 exact (.inl ⟨rfl, _, Gh.le_refl _, Regs.start ⟨rfl, rfl, rfl, rfl, rfl, rfl, rfl, rfl, rfl, rfl, rfl, rfl, trivial⟩ trivial, hI1343.drew⟩)
 refine ⟨?_, ?_, ?_, ?_, ?_, ?_, ?_, ?_, trivial⟩
 rintro D r wd1768 (⟨hd2, G1764, hG1765, hReg1767, hI1766⟩ | ⟨hd1, hd2, A1369, c1370, A1373, c1374, G1764, hG1765, hl1371, hD1372, hl1375, hD1376, hReg1767, hI1766⟩ | ⟨hd1, A1369, c1370, A1373, c1374, A1569, c1570, G1764, hG1765, hl1371, hD1372, hl1375, hD1376, hl1571, hD1572, ho1573, hReg1767, hI1766⟩) hDi hpre hpost
 obtain ⟨r0, rfl⟩ := Has.ex (r := r) cN
 refine q_cv (vs := []) bo23 rfl rfl (formelaw17_plain_spec hI1766 hy1553) ?_
 rintro _ wd1366 ⟨A1369, c1370, A1373, c1374, G1364, hG1365, hI1367, hl1371, hD1372, hl1375, hD1376, rfl⟩
 refine ⟨_, rfl, ?_⟩
 exact nl ⟨rfl, (.inr (.inl ⟨rfl, (hpost 2 rfl), A1369, c1370, A1373, c1374, _, (gT hG1765 hG1365), hl1371, hD1372, hl1375, hD1376, (Regs.step (Regs.more (new := [(0, 55, agg [slice A1369 y1368.Glyphs.length c1370, slice A1373 y1368.Kerns.length c1374].toArray)]) hReg1767 (List.forall_mem_cons.2 ⟨hDi, (fun _ h => nomatch h)⟩)) hDi rfl rfl rfl rfl), hI1367⟩))⟩
 cases hDi.symm.trans hd1
 cases (hpost 2 rfl).symm.trans hd1
 rintro D r wd1768 (⟨hd2, G1764, hG1765, hReg1767, hI1766⟩ | ⟨hd1, hd2, A1369, c1370, A1373, c1374, G1764, hG1765, hl1371, hD1372, hl1375, hD1376, hReg1767, hI1766⟩ | ⟨hd1, A1369, c1370, A1373, c1374, A1569, c1570, G1764, hG1765, hl1371, hD1372, hl1375, hD1376, hl1571, hD1572, ho1573, hReg1767, hI1766⟩) hDi hpre hpost
 obtain ⟨r0, rfl⟩ := Has.ex (cC (hReg1767.ins.get 0 rfl) cN)
 refine q_ldA hI1766 5 (cs := [int .i64 2, int .i64 2, slice none 0 0]) ag28 rfl rfl rfl rfl ?_
 exact nl ⟨rfl, (.inl ⟨hd2, _, hG1765, (Regs.step hReg1767 hDi rfl rfl rfl rfl), hI1766⟩)⟩
 obtain ⟨r0, rfl⟩ := Has.ex (cC (hReg1767.ins.get 0 rfl) cN)
 refine q_ldA hI1766 5 (cs := [int .i64 2, int .i64 2, slice none 0 0]) ag28 rfl rfl rfl rfl ?_
 exact nl ⟨rfl, (.inr (.inl ⟨hd1, hd2, A1369, c1370, A1373, c1374, _, hG1765, hl1371, hD1372, hl1375, hD1376, (Regs.step hReg1767 hDi rfl rfl rfl rfl), hI1766⟩))⟩
 cases (hpost 2 rfl).symm.trans hd1
 rintro D r wd1768 (⟨hd2, G1764, hG1765, hReg1767, hI1766⟩ | ⟨hd1, hd2, A1369, c1370, A1373, c1374, G1764, hG1765, hl1371, hD1372, hl1375, hD1376, hReg1767, hI1766⟩ | ⟨hd1, A1369, c1370, A1373, c1374, A1569, c1570, G1764, hG1765, hl1371, hD1372, hl1375, hD1376, hl1571, hD1572, ho1573, hReg1767, hI1766⟩) hDi hpre hpost
 cases (hpre 0 rfl).symm.trans hd2
 obtain ⟨r0, rfl⟩ := Has.ex (cC (hReg1767.get 1 rfl (hpre 0 rfl)) (cC (hReg1767.get 0 rfl (hpre 1 rfl)) cN))
 refine q_cv (vs := [agg [slice A1369 y1368.Glyphs.length c1370, slice A1373 y1368.Kerns.length c1374].toArray, agg [int .i64 2, int .i64 2, slice none 0 0].toArray, string (⟨#[97, 98]⟩ : ByteArray), int .i64 100, slice none 0 0]) bo13 rfl rfl (inline_Lines_spec (a1 := y1368) (a10 := (⟨2, 2, ([] : List ByteArray)⟩ : api_Breaks)) (a15 := (⟨#[97, 98]⟩ : ByteArray)) (a16 := 100) (a17 := ([] : List Int)) hI1766 hl1371 hD1372 hl1375 hD1376 (show ([] : List ByteArray).length ≤ 0 from Nat.le_refl 0) (Dat.nil _ _ _) (show ([] : List Int).length ≤ 0 from Nat.le_refl 0) (Dat.nil _ _ _) (hgl.mono (gT (gT (gT (gT (gT (gT (gT hG437 hG867) hG1295) hG1303) hG1317) hG1327) hG1341) hG1765)) hy1753) ?_
 rintro _ wd1566 ⟨A1569, c1570, G1564, hG1565, hI1567, hl1571, hD1572, ho1573, rfl⟩
 refine ⟨_, rfl, ?_⟩
 exact nl ⟨rfl, (.inr (.inr ⟨rfl, A1369, c1370, A1373, c1374, A1569, c1570, _, (gT hG1765 hG1565), hl1371, (Dat.mono hG1565 hD1372), hl1375, (Dat.mono hG1565 hD1376), hl1571, hD1572, ho1573, (Regs.step (Regs.more (new := [(2, 57, tuple [slice A1569 y1568.length c1570, int .i64 y1575].toArray), (3, 54, tuple [slice A1569 y1568.length c1570, int .i64 y1575].toArray), (4, 58, slice A1569 y1568.length c1570), (5, 59, int .i64 y1575), (6, 14, slice A1569 y1568.length c1570), (7, 15, int .i64 y1575)]) hReg1767 (List.forall_mem_cons.2 ⟨hDi, (List.forall_mem_cons.2 ⟨hpost 3 rfl, (List.forall_mem_cons.2 ⟨hpost 4 rfl, (List.forall_mem_cons.2 ⟨hpost 5 rfl, (List.forall_mem_cons.2 ⟨hpost 6 rfl, (List.forall_mem_cons.2 ⟨hpost 7 rfl, (fun _ h => nomatch h)⟩)⟩)⟩)⟩)⟩)⟩)) hDi rfl rfl rfl rfl), hI1567⟩))⟩
 cases hDi.symm.trans hd1
 rintro D r wd1768 (⟨hd2, G1764, hG1765, hReg1767, hI1766⟩ | ⟨hd1, hd2, A1369, c1370, A1373, c1374, G1764, hG1765, hl1371, hD1372, hl1375, hD1376, hReg1767, hI1766⟩ | ⟨hd1, A1369, c1370, A1373, c1374, A1569, c1570, G1764, hG1765, hl1371, hD1372, hl1375, hD1376, hl1571, hD1572, ho1573, hReg1767, hI1766⟩) hDi hpre hpost
 cases (hpre 0 rfl).symm.trans hd2
 cases (hpre 2 rfl).symm.trans hd2
 obtain ⟨r0, rfl⟩ := Has.ex (cC (hReg1767.get 2 rfl (hpre 2 rfl)) cN)
 refine q_mv (v := tuple [slice A1569 y1568.length c1570, int .i64 y1575].toArray) rfl ?_
 exact nl ⟨rfl, (.inr (.inr ⟨hd1, A1369, c1370, A1373, c1374, A1569, c1570, _, hG1765, hl1371, hD1372, hl1375, hD1376, hl1571, hD1572, ho1573, (Regs.step hReg1767 hDi rfl rfl rfl rfl), hI1766⟩))⟩
 rintro D r wd1768 (⟨hd2, G1764, hG1765, hReg1767, hI1766⟩ | ⟨hd1, hd2, A1369, c1370, A1373, c1374, G1764, hG1765, hl1371, hD1372, hl1375, hD1376, hReg1767, hI1766⟩ | ⟨hd1, A1369, c1370, A1373, c1374, A1569, c1570, G1764, hG1765, hl1371, hD1372, hl1375, hD1376, hl1571, hD1572, ho1573, hReg1767, hI1766⟩) hDi hpre hpost
 cases (hpre 0 rfl).symm.trans hd2
 cases (hpre 2 rfl).symm.trans hd2
 obtain ⟨r0, rfl⟩ := Has.ex (cC (hReg1767.get 3 rfl (hpre 3 rfl)) cN)
 refine q_ex (v := slice A1569 y1568.length c1570) rfl rfl ?_
 exact nl ⟨rfl, (.inr (.inr ⟨hd1, A1369, c1370, A1373, c1374, A1569, c1570, _, hG1765, hl1371, hD1372, hl1375, hD1376, hl1571, hD1572, ho1573, (Regs.step hReg1767 hDi rfl rfl rfl rfl), hI1766⟩))⟩
 rintro D r wd1768 (⟨hd2, G1764, hG1765, hReg1767, hI1766⟩ | ⟨hd1, hd2, A1369, c1370, A1373, c1374, G1764, hG1765, hl1371, hD1372, hl1375, hD1376, hReg1767, hI1766⟩ | ⟨hd1, A1369, c1370, A1373, c1374, A1569, c1570, G1764, hG1765, hl1371, hD1372, hl1375, hD1376, hl1571, hD1572, ho1573, hReg1767, hI1766⟩) hDi hpre hpost
 cases (hpre 0 rfl).symm.trans hd2
 cases (hpre 2 rfl).symm.trans hd2
 obtain ⟨r0, rfl⟩ := Has.ex (cC (hReg1767.get 3 rfl (hpre 3 rfl)) cN)
 refine q_ex (v := int .i64 y1575) rfl rfl ?_
 exact nl ⟨rfl, (.inr (.inr ⟨hd1, A1369, c1370, A1373, c1374, A1569, c1570, _, hG1765, hl1371, hD1372, hl1375, hD1376, hl1571, hD1572, ho1573, (Regs.step hReg1767 hDi rfl rfl rfl rfl), hI1766⟩))⟩
 rintro D r wd1768 (⟨hd2, G1764, hG1765, hReg1767, hI1766⟩ | ⟨hd1, hd2, A1369, c1370, A1373, c1374, G1764, hG1765, hl1371, hD1372, hl1375, hD1376, hReg1767, hI1766⟩ | ⟨hd1, A1369, c1370, A1373, c1374, A1569, c1570, G1764, hG1765, hl1371, hD1372, hl1375, hD1376, hl1571, hD1572, ho1573, hReg1767, hI1766⟩) hDi hpre hpost
 cases (hpre 0 rfl).symm.trans hd2
 cases (hpre 2 rfl).symm.trans hd2
 obtain ⟨r0, rfl⟩ := Has.ex (cC (hReg1767.get 4 rfl (hpre 4 rfl)) cN)
 refine q_as (v := slice A1569 y1568.length c1570) rfl ?_
 exact nl ⟨rfl, (.inr (.inr ⟨hd1, A1369, c1370, A1373, c1374, A1569, c1570, _, hG1765, hl1371, hD1372, hl1375, hD1376, hl1571, hD1572, ho1573, (Regs.step hReg1767 hDi rfl rfl rfl rfl), hI1766⟩))⟩
 rintro D r wd1768 (⟨hd2, G1764, hG1765, hReg1767, hI1766⟩ | ⟨hd1, hd2, A1369, c1370, A1373, c1374, G1764, hG1765, hl1371, hD1372, hl1375, hD1376, hReg1767, hI1766⟩ | ⟨hd1, A1369, c1370, A1373, c1374, A1569, c1570, G1764, hG1765, hl1371, hD1372, hl1375, hD1376, hl1571, hD1572, ho1573, hReg1767, hI1766⟩) hDi hpre hpost
 cases (hpre 0 rfl).symm.trans hd2
 cases (hpre 2 rfl).symm.trans hd2
 obtain ⟨r0, rfl⟩ := Has.ex (cC (hReg1767.get 5 rfl (hpre 5 rfl)) cN)
 refine q_as (v := int .i64 y1575) rfl ?_
 exact nl ⟨rfl, (.inr (.inr ⟨hd1, A1369, c1370, A1373, c1374, A1569, c1570, _, hG1765, hl1371, hD1372, hl1375, hD1376, hl1571, hD1572, ho1573, (Regs.step hReg1767 hDi rfl rfl rfl rfl), hI1766⟩))⟩
 intro D r wd1768 hall hR
 rcases hR with ⟨hd2, G1764, hG1765, hReg1767, hI1766⟩ | ⟨hd1, hd2, A1369, c1370, A1373, c1374, G1764, hG1765, hl1371, hD1372, hl1375, hD1376, hReg1767, hI1766⟩ | ⟨hd1, A1369, c1370, A1373, c1374, A1569, c1570, G1764, hG1765, hl1371, hD1372, hl1375, hD1376, hl1571, hD1572, ho1573, hReg1767, hI1766⟩
 cases (hall 0 (Nat.le_of_ble_eq_true rfl)).symm.trans hd2
 cases (hall 2 (Nat.le_of_ble_eq_true rfl)).symm.trans hd2
 obtain ⟨r0, rfl⟩ := Has.ex (cC (hReg1767.ins.get 0 rfl) (cC (hReg1767.ins.get 1 rfl) (cC (hReg1767.ins.get 2 rfl) (cC (hReg1767.ins.get 3 rfl) (cC (hReg1767.ins.get 4 rfl) (cC (hReg1767.ins.get 5 rfl) (cC (hReg1767.ins.get 6 rfl) (cC (hReg1767.ins.get 7 rfl) (cC (hReg1767.ins.get 8 rfl) (cC (hReg1767.ins.get 9 rfl) (cC (hReg1767.ins.get 10 rfl) (cC (hReg1767.ins.get 11 rfl) (cC (hReg1767.get 7 rfl (hall 7 (Nat.le_of_ble_eq_true rfl))) cN)))))))))))))
 refine hK1348 _ _ _ ?_
 refine sr fun K1769 hK1770 => ?_
 refine q_build (vs := []) (cs := [slice none 0 0, slice none 0 0]) ze25 pl25 rfl rfl ?_
 refine q_ldA hI1766 6 (cs := [int .i64 2, int .i64 2, slice none 0 0]) ag28 rfl rfl rfl rfl ?_
 obtain ⟨⟨y1776, y1777⟩, hy1771, H⟩ := bS H
 refine q_cv (vs := [agg [slice none 0 0, slice none 0 0].toArray, agg [int .i64 2, int .i64 2, slice none 0 0].toArray, string (⟨#[97, 98]⟩ : ByteArray), int .i64 0, int .i64 100, int .i64 30]) bo11 rfl rfl (inline_Next_spec (a1 := (⟨([] : List api_Glyph), ([] : List api_Kern)⟩ : api_Font)) (a10 := (⟨2, 2, ([] : List ByteArray)⟩ : api_Breaks)) (a15 := (⟨#[97, 98]⟩ : ByteArray)) (a16 := 0) (a17 := 100) (a18 := 30) hI1766 (show ([] : List api_Glyph).length ≤ 0 from Nat.le_refl 0) (Dat.nil _ _ _) (show ([] : List api_Kern).length ≤ 0 from Nat.le_refl 0) (Dat.nil _ _ _) (show ([] : List ByteArray).length ≤ 0 from Nat.le_refl 0) (Dat.nil _ _ _) (hgl.mono (gT (gT (gT (gT (gT (gT (gT hG437 hG867) hG1295) hG1303) hG1317) hG1327) hG1341) hG1765)) hy1771) ?_
 rintro _ wd1774 ⟨G1772, hG1773, hI1775, rfl⟩
 refine ⟨_, rfl, ?_⟩
 refine q_mv (v := tuple [agg [int .i64 y1776.From, int .i64 y1776.Until, int .i64 y1776.Width, bool y1776.Hyphen].toArray, int .i64 y1777].toArray) rfl ?_
 refine q_ex (v := agg [int .i64 y1776.From, int .i64 y1776.Until, int .i64 y1776.Width, bool y1776.Hyphen].toArray) rfl rfl ?_
 refine q_ex (v := int .i64 y1777) rfl rfl ?_
 refine q_alloc hI1775 ze31 (fun g1779 wd1780 hI1781 => ?_)
 refine q_stA hI1781 0 (v := agg [int .i64 y1776.From, int .i64 y1776.Until, int .i64 y1776.Width, bool y1776.Hyphen].toArray) (cs := [int .i64 y1776.From, int .i64 y1776.Until, int .i64 y1776.Width, bool y1776.Hyphen]) (vs' := [int .i64 y1776.From, int .i64 y1776.Until, int .i64 y1776.Width, bool y1776.Hyphen]) ag31 rfl rfl rfl rfl rfl rfl (Nat.le_of_ble_eq_true rfl) rfl (fun wd1782 hI1783 => ?_)
 refine q_as (v := int .i64 y1777) rfl ?_
 refine nl ?_
 refine hK1770 _ _ _ ?_
 refine sr fun K1784 hK1785 => ?_
 refine q_mv (v := int .i64 y247) rfl ?_
 refine q_eql rfl rfl ?_
 refine q_mv (v := bool (decide (y247 = 0))) rfl ?_
 obtain ⟨v1786, hC, H⟩ := bS H
 refine wpq_split 3 (K := fun e r ds w => e = .normal ∧ ∃ (G1787 : Gh), ds = [] ∧ G1772 ≤ G1787 ∧ Has [(2, slice A241 y240.length c242), (4, slice A671 y670.length c672), (6, pointer (some ⟨g1289, 0, none⟩)), (7, int .i64 y1093), (8, string y1320), (9, int .i64 y1321), (10, int .i64 y1322), (12, int .i64 y1345), (13, int .i64 y1346), (15, int .i64 y1575), (17, int .i64 y1777), (71, bool v1786)] r ∧ Hp G1787 (bx g1779 [int .i64 y1776.From, int .i64 y1776.Until, int .i64 y1776.Width, bool y1776.Hyphen] 31 :: bx g1289 [int .i64 y1092.From, int .i64 y1092.Until, int .i64 y1092.Width, bool y1092.Hyphen] 31 :: bx g6 [int .i64 2, int .i64 2, slice none 0 0] 28 :: tk (slice A1569 y1568.length c1570) 4 31 :: tk (slice A671 y670.length c672) 4 31 :: tk (slice (some ⟨g659, 0, none⟩) ([40] : List Int).length 1) 1 3 :: tk (slice A241 y240.length c242) 4 31 :: tk (slice (some ⟨g229, 0, none⟩) ([50] : List Int).length 1) 1 3 :: L) w ∧ True) ?_ ?_
 replace H := hC
 by_cases h1792 : y247 = 0
 replace H := iY h1792 H
 refine q_mv (v := int .i64 y677) rfl ?_ (hw := gY rfl rfl rfl (bool_yes h1792))
 refine q_eql rfl rfl ?_ (hw := gY rfl rfl rfl (bool_yes h1792))
 refine q_pick true (v := bool (decide (y677 = 0))) (bool_yes h1792) rfl ?_
 refine nl ?_
 have hI1793 := Hp.front hI1783 6 rfl
 have hI1794 := Hp.front hI1793 6 rfl
 have hI1795 := Hp.front hI1794 6 rfl
 have hI1796 := Hp.front hI1795 6 rfl
 have hI1797 := Hp.front hI1796 5 rfl
 have hI1798 := Hp.front hI1797 7 rfl
 have hI1799 := Hp.front hI1798 7 rfl
 have hI1800 := Hp.front hI1799 7 rfl
 cases H
 exact ⟨rfl, _, rfl, gR, ⟨rfl, rfl, rfl, rfl, rfl, rfl, rfl, rfl, rfl, rfl, rfl, rfl, trivial⟩, hI1800, trivial⟩
 replace H := iN h1792 H
 refine wN (gN rfl rfl rfl (bool_no h1792) rfl) ?_
 refine wN (gN rfl rfl rfl (bool_no h1792) rfl) ?_
 refine q_pick false (v := bool false) (bool_no h1792) rfl ?_
 refine nl ?_
 have hI1801 := Hp.front hI1783 6 rfl
 have hI1802 := Hp.front hI1801 6 rfl
 have hI1803 := Hp.front hI1802 6 rfl
 have hI1804 := Hp.front hI1803 6 rfl
 have hI1805 := Hp.front hI1804 5 rfl
 have hI1806 := Hp.front hI1805 7 rfl
 have hI1807 := Hp.front hI1806 7 rfl
 have hI1808 := Hp.front hI1807 7 rfl
 cases H
 exact ⟨rfl, _, rfl, gR, ⟨rfl, rfl, rfl, rfl, rfl, rfl, rfl, rfl, rfl, rfl, rfl, rfl, trivial⟩, hI1808, trivial⟩
 clear hC
 rintro e r ds wd1789 ⟨rfl, G1787, rfl, hG1788, hHas, hI1790, _⟩
 rw [hHas.eq]; clear hHas
 refine q_mv (v := bool v1786) rfl ?_
 obtain ⟨v1809, hC, H⟩ := bS H
 refine wpq_split 3 (K := fun e r ds w => e = .normal ∧ ∃ (G1810 : Gh), ds = [] ∧ G1787 ≤ G1810 ∧ Has [(2, slice A241 y240.length c242), (4, slice A671 y670.length c672), (6, pointer (some ⟨g1289, 0, none⟩)), (8, string y1320), (9, int .i64 y1321), (10, int .i64 y1322), (12, int .i64 y1345), (13, int .i64 y1346), (15, int .i64 y1575), (17, int .i64 y1777), (75, bool v1809)] r ∧ Hp G1810 (bx g1779 [int .i64 y1776.From, int .i64 y1776.Until, int .i64 y1776.Width, bool y1776.Hyphen] 31 :: bx g1289 [int .i64 y1092.From, int .i64 y1092.Until, int .i64 y1092.Width, bool y1092.Hyphen] 31 :: bx g6 [int .i64 2, int .i64 2, slice none 0 0] 28 :: tk (slice A1569 y1568.length c1570) 4 31 :: tk (slice A671 y670.length c672) 4 31 :: tk (slice (some ⟨g659, 0, none⟩) ([40] : List Int).length 1) 1 3 :: tk (slice A241 y240.length c242) 4 31 :: tk (slice (some ⟨g229, 0, none⟩) ([50] : List Int).length 1) 1 3 :: L) w ∧ True) ?_ ?_
 replace H := hC
 by_cases h1815 : v1786 = true
 replace H := iY h1815 H
 refine q_mv (v := int .i64 y1093) rfl ?_ (hw := gY rfl rfl rfl (bval_yes h1815))
 refine q_eql rfl rfl ?_ (hw := gY rfl rfl rfl (bval_yes h1815))
 refine q_pick true (v := bool (decide (y1093 = 0))) (bval_yes h1815) rfl ?_
 refine nl ?_
 cases H
 exact ⟨rfl, _, rfl, gR, ⟨rfl, rfl, rfl, rfl, rfl, rfl, rfl, rfl, rfl, rfl, rfl, trivial⟩, hI1790, trivial⟩
 replace H := iN h1815 H
 refine wN (gN rfl rfl rfl (bval_no h1815) rfl) ?_
 refine wN (gN rfl rfl rfl (bval_no h1815) rfl) ?_
 refine q_pick false (v := bool false) (bval_no h1815) rfl ?_
 refine nl ?_
 cases H
 exact ⟨rfl, _, rfl, gR, ⟨rfl, rfl, rfl, rfl, rfl, rfl, rfl, rfl, rfl, rfl, rfl, trivial⟩, hI1790, trivial⟩
 clear hC
 rintro e r ds wd1812 ⟨rfl, G1810, rfl, hG1811, hHas, hI1813, _⟩
 rw [hHas.eq]; clear hHas
 refine q_mv (v := bool v1809) rfl ?_
 obtain ⟨v1816, hC, H⟩ := bS H
 refine wpq_split 3 (K := fun e r ds w => e = .normal ∧ ∃ (G1817 : Gh), ds = [] ∧ G1810 ≤ G1817 ∧ Has [(2, slice A241 y240.length c242), (4, slice A671 y670.length c672), (6, pointer (some ⟨g1289, 0, none⟩)), (8, string y1320), (9, int .i64 y1321), (12, int .i64 y1345), (13, int .i64 y1346), (15, int .i64 y1575), (17, int .i64 y1777), (79, bool v1816)] r ∧ Hp G1817 (bx g1779 [int .i64 y1776.From, int .i64 y1776.Until, int .i64 y1776.Width, bool y1776.Hyphen] 31 :: bx g1289 [int .i64 y1092.From, int .i64 y1092.Until, int .i64 y1092.Width, bool y1092.Hyphen] 31 :: bx g6 [int .i64 2, int .i64 2, slice none 0 0] 28 :: tk (slice A1569 y1568.length c1570) 4 31 :: tk (slice A671 y670.length c672) 4 31 :: tk (slice (some ⟨g659, 0, none⟩) ([40] : List Int).length 1) 1 3 :: tk (slice A241 y240.length c242) 4 31 :: tk (slice (some ⟨g229, 0, none⟩) ([50] : List Int).length 1) 1 3 :: L) w ∧ True) ?_ ?_
 replace H := hC
 by_cases h1822 : v1809 = true
 replace H := iY h1822 H
 refine q_mv (v := int .i64 y1322) rfl ?_ (hw := gY rfl rfl rfl (bval_yes h1822))
 refine q_eql rfl rfl ?_ (hw := gY rfl rfl rfl (bval_yes h1822))
 refine q_pick true (v := bool (decide (y1322 = 0))) (bval_yes h1822) rfl ?_
 refine nl ?_
 cases H
 exact ⟨rfl, _, rfl, gR, ⟨rfl, rfl, rfl, rfl, rfl, rfl, rfl, rfl, rfl, rfl, trivial⟩, hI1813, trivial⟩
 replace H := iN h1822 H
 refine wN (gN rfl rfl rfl (bval_no h1822) rfl) ?_
 refine wN (gN rfl rfl rfl (bval_no h1822) rfl) ?_
 refine q_pick false (v := bool false) (bval_no h1822) rfl ?_
 refine nl ?_
 cases H
 exact ⟨rfl, _, rfl, gR, ⟨rfl, rfl, rfl, rfl, rfl, rfl, rfl, rfl, rfl, rfl, trivial⟩, hI1813, trivial⟩
 clear hC
 rintro e r ds wd1819 ⟨rfl, G1817, rfl, hG1818, hHas, hI1820, _⟩
 rw [hHas.eq]; clear hHas
 refine q_mv (v := bool v1816) rfl ?_
 obtain ⟨v1823, hC, H⟩ := bS H
 refine wpq_split 3 (K := fun e r ds w => e = .normal ∧ ∃ (G1824 : Gh), ds = [] ∧ G1817 ≤ G1824 ∧ Has [(2, slice A241 y240.length c242), (4, slice A671 y670.length c672), (6, pointer (some ⟨g1289, 0, none⟩)), (8, string y1320), (9, int .i64 y1321), (12, int .i64 y1345), (15, int .i64 y1575), (17, int .i64 y1777), (83, bool v1823)] r ∧ Hp G1824 (bx g1779 [int .i64 y1776.From, int .i64 y1776.Until, int .i64 y1776.Width, bool y1776.Hyphen] 31 :: bx g1289 [int .i64 y1092.From, int .i64 y1092.Until, int .i64 y1092.Width, bool y1092.Hyphen] 31 :: bx g6 [int .i64 2, int .i64 2, slice none 0 0] 28 :: tk (slice A1569 y1568.length c1570) 4 31 :: tk (slice A671 y670.length c672) 4 31 :: tk (slice (some ⟨g659, 0, none⟩) ([40] : List Int).length 1) 1 3 :: tk (slice A241 y240.length c242) 4 31 :: tk (slice (some ⟨g229, 0, none⟩) ([50] : List Int).length 1) 1 3 :: L) w ∧ True) ?_ ?_
 replace H := hC
 by_cases h1829 : v1816 = true
 replace H := iY h1829 H
 refine q_mv (v := int .i64 y1346) rfl ?_ (hw := gY rfl rfl rfl (bval_yes h1829))
 refine q_eql rfl rfl ?_ (hw := gY rfl rfl rfl (bval_yes h1829))
 refine q_pick true (v := bool (decide (y1346 = 0))) (bval_yes h1829) rfl ?_
 refine nl ?_
 cases H
 exact ⟨rfl, _, rfl, gR, ⟨rfl, rfl, rfl, rfl, rfl, rfl, rfl, rfl, rfl, trivial⟩, hI1820, trivial⟩
 replace H := iN h1829 H
 refine wN (gN rfl rfl rfl (bval_no h1829) rfl) ?_
 refine wN (gN rfl rfl rfl (bval_no h1829) rfl) ?_
 refine q_pick false (v := bool false) (bval_no h1829) rfl ?_
 refine nl ?_
 cases H
 exact ⟨rfl, _, rfl, gR, ⟨rfl, rfl, rfl, rfl, rfl, rfl, rfl, rfl, rfl, trivial⟩, hI1820, trivial⟩
 clear hC
 rintro e r ds wd1826 ⟨rfl, G1824, rfl, hG1825, hHas, hI1827, _⟩
 rw [hHas.eq]; clear hHas
 refine q_mv (v := bool v1823) rfl ?_
 obtain ⟨v1830, hC, H⟩ := bS H
 refine wpq_split 3 (K := fun e r ds w => e = .normal ∧ ∃ (G1831 : Gh), ds = [] ∧ G1824 ≤ G1831 ∧ Has [(2, slice A241 y240.length c242), (4, slice A671 y670.length c672), (6, pointer (some ⟨g1289, 0, none⟩)), (8, string y1320), (9, int .i64 y1321), (12, int .i64 y1345), (17, int .i64 y1777), (87, bool v1830)] r ∧ Hp G1831 (bx g1779 [int .i64 y1776.From, int .i64 y1776.Until, int .i64 y1776.Width, bool y1776.Hyphen] 31 :: bx g1289 [int .i64 y1092.From, int .i64 y1092.Until, int .i64 y1092.Width, bool y1092.Hyphen] 31 :: bx g6 [int .i64 2, int .i64 2, slice none 0 0] 28 :: tk (slice A1569 y1568.length c1570) 4 31 :: tk (slice A671 y670.length c672) 4 31 :: tk (slice (some ⟨g659, 0, none⟩) ([40] : List Int).length 1) 1 3 :: tk (slice A241 y240.length c242) 4 31 :: tk (slice (some ⟨g229, 0, none⟩) ([50] : List Int).length 1) 1 3 :: L) w ∧ True) ?_ ?_
 replace H := hC
 by_cases h1836 : v1823 = true
 replace H := iY h1836 H
 refine q_mv (v := int .i64 y1575) rfl ?_ (hw := gY rfl rfl rfl (bval_yes h1836))
 refine q_eql rfl rfl ?_ (hw := gY rfl rfl rfl (bval_yes h1836))
 refine q_pick true (v := bool (decide (y1575 = 1))) (bval_yes h1836) rfl ?_
 refine nl ?_
 cases H
 exact ⟨rfl, _, rfl, gR, ⟨rfl, rfl, rfl, rfl, rfl, rfl, rfl, rfl, trivial⟩, hI1827, trivial⟩
 replace H := iN h1836 H
 refine wN (gN rfl rfl rfl (bval_no h1836) rfl) ?_
 refine wN (gN rfl rfl rfl (bval_no h1836) rfl) ?_
 refine q_pick false (v := bool false) (bval_no h1836) rfl ?_
 refine nl ?_
 cases H
 exact ⟨rfl, _, rfl, gR, ⟨rfl, rfl, rfl, rfl, rfl, rfl, rfl, rfl, trivial⟩, hI1827, trivial⟩
 clear hC
 rintro e r ds wd1833 ⟨rfl, G1831, rfl, hG1832, hHas, hI1834, _⟩
 rw [hHas.eq]; clear hHas
 refine q_mv (v := bool v1830) rfl ?_
 obtain ⟨v1837, hC, H⟩ := bS H
 refine wpq_split 3 (K := fun e r ds w => e = .normal ∧ ∃ (G1838 : Gh), ds = [] ∧ G1831 ≤ G1838 ∧ Has [(2, slice A241 y240.length c242), (4, slice A671 y670.length c672), (6, pointer (some ⟨g1289, 0, none⟩)), (8, string y1320), (9, int .i64 y1321), (12, int .i64 y1345), (91, bool v1837)] r ∧ Hp G1838 (bx g1779 [int .i64 y1776.From, int .i64 y1776.Until, int .i64 y1776.Width, bool y1776.Hyphen] 31 :: bx g1289 [int .i64 y1092.From, int .i64 y1092.Until, int .i64 y1092.Width, bool y1092.Hyphen] 31 :: bx g6 [int .i64 2, int .i64 2, slice none 0 0] 28 :: tk (slice A1569 y1568.length c1570) 4 31 :: tk (slice A671 y670.length c672) 4 31 :: tk (slice (some ⟨g659, 0, none⟩) ([40] : List Int).length 1) 1 3 :: tk (slice A241 y240.length c242) 4 31 :: tk (slice (some ⟨g229, 0, none⟩) ([50] : List Int).length 1) 1 3 :: L) w ∧ True) ?_ ?_
 replace H := hC
 by_cases h1843 : v1830 = true
 replace H := iY h1843 H
 refine q_mv (v := int .i64 y1777) rfl ?_ (hw := gY rfl rfl rfl (bval_yes h1843))
 refine q_eql rfl rfl ?_ (hw := gY rfl rfl rfl (bval_yes h1843))
 refine q_pick true (v := bool (decide (y1777 = 20))) (bval_yes h1843) rfl ?_
 refine nl ?_
 cases H
 exact ⟨rfl, _, rfl, gR, ⟨rfl, rfl, rfl, rfl, rfl, rfl, rfl, trivial⟩, hI1834, trivial⟩
 replace H := iN h1843 H
 refine wN (gN rfl rfl rfl (bval_no h1843) rfl) ?_
 refine wN (gN rfl rfl rfl (bval_no h1843) rfl) ?_
 refine q_pick false (v := bool false) (bval_no h1843) rfl ?_
 refine nl ?_
 cases H
 exact ⟨rfl, _, rfl, gR, ⟨rfl, rfl, rfl, rfl, rfl, rfl, rfl, trivial⟩, hI1834, trivial⟩
 clear hC
 rintro e r ds wd1840 ⟨rfl, G1838, rfl, hG1839, hHas, hI1841, _⟩
 rw [hHas.eq]; clear hHas
 refine q_as (v := bool v1837) rfl ?_
 refine nl ?_
 refine hK1785 _ _ _ ?_
 refine sr fun K1844 hK1845 => ?_
 refine q_mv (v := bool v1837) rfl ?_
 refine q_mv (v := bool v1837) rfl ?_
 obtain ⟨v1846, hC, H⟩ := bS H
 refine wpq_split 6 (K := fun e r ds w => e = .normal ∧ ∃ (G1847 : Gh), ds = [] ∧ G1838 ≤ G1847 ∧ Has [(4, slice A671 y670.length c672), (6, pointer (some ⟨g1289, 0, none⟩)), (8, string y1320), (9, int .i64 y1321), (12, int .i64 y1345), (99, bool v1846)] r ∧ Hp G1847 (bx g1779 [int .i64 y1776.From, int .i64 y1776.Until, int .i64 y1776.Width, bool y1776.Hyphen] 31 :: bx g1289 [int .i64 y1092.From, int .i64 y1092.Until, int .i64 y1092.Width, bool y1092.Hyphen] 31 :: bx g6 [int .i64 2, int .i64 2, slice none 0 0] 28 :: tk (slice A1569 y1568.length c1570) 4 31 :: tk (slice A671 y670.length c672) 4 31 :: tk (slice (some ⟨g659, 0, none⟩) ([40] : List Int).length 1) 1 3 :: tk (slice A241 y240.length c242) 4 31 :: tk (slice (some ⟨g229, 0, none⟩) ([50] : List Int).length 1) 1 3 :: L) w ∧ True) ?_ ?_
 replace H := hC
 by_cases h1852 : v1837 = true
 replace H := iY h1852 H
 refine q_mv (v := slice A241 y240.length c242) rfl ?_ (hw := gY rfl rfl rfl (bval_yes h1852))
 refine q_build (vs := [(0, int .i64 0), (1, int .i64 6), (2, int .i64 50)]) (cs := [int .i64 0, int .i64 6, int .i64 50, bool false]) ze31 pl31 rfl rfl ?_ (hw := gY rfl rfl rfl (bval_yes h1852))
 refine q_build (vs := [(0, int .i64 6), (1, int .i64 8), (2, int .i64 20)]) (cs := [int .i64 6, int .i64 8, int .i64 20, bool false]) ze31 pl31 rfl rfl ?_ (hw := gY rfl rfl rfl (bval_yes h1852))
 refine q_bs hI1841 (vs := [(0, agg [int .i64 0, int .i64 6, int .i64 50, bool false].toArray), (1, agg [int .i64 6, int .i64 8, int .i64 20, bool false].toArray)]) (cs := [int .i64 0, int .i64 6, int .i64 50, bool false, int .i64 6, int .i64 8, int .i64 20, bool false]) el37 ze31 rfl (by decide) rfl rfl (fun g1854 wd1855 hI1856 => ?_) (hw := gY rfl rfl rfl (bval_yes h1852))
 obtain ⟨G1857, hG1858, hI1860, hD1859⟩ := Hp.publish (xs := ([(⟨0, 6, 50, false⟩ : api_Line), (⟨6, 8, 20, false⟩ : api_Line)] : List api_Line)) (n := 2) k_api_Line hI1856 ⟨[int .i64 0, int .i64 6, int .i64 50, bool false], _, rfl, (mk_api_Line (x := (⟨0, 6, 50, false⟩ : api_Line))), ⟨[int .i64 6, int .i64 8, int .i64 20, bool false], _, rfl, (mk_api_Line (x := (⟨6, 8, 20, false⟩ : api_Line))), rfl⟩⟩ rfl
 obtain ⟨y1866, hy1861, H⟩ := bS H
 refine q_cv (vs := [slice A241 y240.length c242, slice (some ⟨g1854, 0, none⟩) ([(⟨0, 6, 50, false⟩ : api_Line), (⟨6, 8, 20, false⟩ : api_Line)] : List api_Line).length 2]) bo15 rfl rfl (formeref17_Same_spec (a1 := y240) (a6 := ([(⟨0, 6, 50, false⟩ : api_Line), (⟨6, 8, 20, false⟩ : api_Line)] : List api_Line)) hI1860 hl243 (Dat.mono (gT (gT (gT (gT (gT (gT (gT (gT (gT (gT (gT (gT (gT (gT hG867 hG1295) hG1303) hG1317) hG1327) hG1341) hG1765) hG1773) hG1788) hG1811) hG1818) hG1825) hG1832) hG1839) hG1858) hD244) (show ([(⟨0, 6, 50, false⟩ : api_Line), (⟨6, 8, 20, false⟩ : api_Line)] : List api_Line).length ≤ 2 from Nat.le_of_ble_eq_true rfl) hD1859 hy1861) ?_ (hw := gY rfl rfl rfl (bval_yes h1852))
 rintro _ wd1864 ⟨G1862, hG1863, hI1865, rfl⟩
 refine ⟨_, rfl, ?_⟩
 refine q_pick true (v := bool y1866) (bval_yes h1852) rfl ?_
 refine nl ?_
 have hI1867 := Hp.front hI1865 8 rfl
 have hI1868 := Hp.front hI1867 8 rfl
 have hI1869 := Hp.front hI1868 8 rfl
 have hI1870 := Hp.front hI1869 8 rfl
 have hI1871 := Hp.front hI1870 8 rfl
 have hI1872 := Hp.front hI1871 8 rfl
 have hI1873 := Hp.front hI1872 8 rfl
 have hI1874 := Hp.front hI1873 8 rfl
 have hI1875 := Hp.sub hI1874 (sk (sk (sk (sk (sk (sk (sk (sk (sd se)))))))))
 cases H
 exact ⟨rfl, _, rfl, (gT hG1858 hG1863), ⟨rfl, rfl, rfl, rfl, rfl, rfl, trivial⟩, hI1875, trivial⟩
 replace H := iN h1852 H
 refine wN (gN rfl rfl rfl (bval_no h1852) rfl) ?_
 refine wN (gN rfl rfl rfl (bval_no h1852) rfl) ?_
 refine wN (gN rfl rfl rfl (bval_no h1852) rfl) ?_
 refine wN (gN rfl rfl rfl (bval_no h1852) rfl) ?_
 refine wN (gN rfl rfl rfl (bval_no h1852) rfl) ?_
 refine q_pick false (v := bool false) (bval_no h1852) rfl ?_
 refine nl ?_
 cases H
 exact ⟨rfl, _, rfl, gR, ⟨rfl, rfl, rfl, rfl, rfl, rfl, trivial⟩, hI1841, trivial⟩
 clear hC
 rintro e r ds wd1849 ⟨rfl, G1847, rfl, hG1848, hHas, hI1850, _⟩
 rw [hHas.eq]; clear hHas
 refine q_mv (v := bool v1846) rfl ?_
 obtain ⟨v1876, hC, H⟩ := bS H
 refine wpq_split 4 (K := fun e r ds w => e = .normal ∧ ∃ (G1877 : Gh), ds = [] ∧ G1847 ≤ G1877 ∧ Has [(6, pointer (some ⟨g1289, 0, none⟩)), (8, string y1320), (9, int .i64 y1321), (12, int .i64 y1345), (104, bool v1876)] r ∧ Hp G1877 (bx g1779 [int .i64 y1776.From, int .i64 y1776.Until, int .i64 y1776.Width, bool y1776.Hyphen] 31 :: bx g1289 [int .i64 y1092.From, int .i64 y1092.Until, int .i64 y1092.Width, bool y1092.Hyphen] 31 :: bx g6 [int .i64 2, int .i64 2, slice none 0 0] 28 :: tk (slice A1569 y1568.length c1570) 4 31 :: tk (slice A671 y670.length c672) 4 31 :: tk (slice (some ⟨g659, 0, none⟩) ([40] : List Int).length 1) 1 3 :: tk (slice A241 y240.length c242) 4 31 :: tk (slice (some ⟨g229, 0, none⟩) ([50] : List Int).length 1) 1 3 :: L) w ∧ True) ?_ ?_
 replace H := hC
 by_cases h1882 : v1846 = true
 replace H := iY h1882 H
 refine q_mv (v := slice A671 y670.length c672) rfl ?_ (hw := gY rfl rfl rfl (bval_yes h1882))
 refine q_len so37 rfl ?_ (hw := gY rfl rfl rfl (bval_yes h1882))
 refine q_eql rfl rfl ?_ (hw := gY rfl rfl rfl (bval_yes h1882))
 refine q_pick true (v := bool (decide ((y670.length : Int) = 3))) (bval_yes h1882) rfl ?_
 refine nl ?_
 cases H
 exact ⟨rfl, _, rfl, gR, ⟨rfl, rfl, rfl, rfl, rfl, trivial⟩, hI1850, trivial⟩
 replace H := iN h1882 H
 refine wN (gN rfl rfl rfl (bval_no h1882) rfl) ?_
 refine wN (gN rfl rfl rfl (bval_no h1882) rfl) ?_
 refine wN (gN rfl rfl rfl (bval_no h1882) rfl) ?_
 refine q_pick false (v := bool false) (bval_no h1882) rfl ?_
 refine nl ?_
 cases H
 exact ⟨rfl, _, rfl, gR, ⟨rfl, rfl, rfl, rfl, rfl, trivial⟩, hI1850, trivial⟩
 clear hC
 rintro e r ds wd1879 ⟨rfl, G1877, rfl, hG1878, hHas, hI1880, _⟩
 rw [hHas.eq]; clear hHas
 refine q_as (v := bool v1876) rfl ?_
 refine nl ?_
 refine hK1845 _ _ _ ?_
 refine sr fun K1883 hK1884 => ?_
 refine q_mv (v := bool v1876) rfl ?_
 refine q_mv (v := bool v1876) rfl ?_
 obtain ⟨v1885, hC, H⟩ := bS H
 refine wpq_split 4 (K := fun e r ds w => e = .normal ∧ ∃ (G1886 : Gh), ds = [] ∧ G1877 ≤ G1886 ∧ Has [(8, string y1320), (9, int .i64 y1321), (12, int .i64 y1345), (110, bool v1885)] r ∧ Hp G1886 (bx g1779 [int .i64 y1776.From, int .i64 y1776.Until, int .i64 y1776.Width, bool y1776.Hyphen] 31 :: bx g1289 [int .i64 y1092.From, int .i64 y1092.Until, int .i64 y1092.Width, bool y1092.Hyphen] 31 :: bx g6 [int .i64 2, int .i64 2, slice none 0 0] 28 :: tk (slice A1569 y1568.length c1570) 4 31 :: tk (slice A671 y670.length c672) 4 31 :: tk (slice (some ⟨g659, 0, none⟩) ([40] : List Int).length 1) 1 3 :: tk (slice A241 y240.length c242) 4 31 :: tk (slice (some ⟨g229, 0, none⟩) ([50] : List Int).length 1) 1 3 :: L) w ∧ True) ?_ ?_
 replace H := hC
 by_cases h1891 : v1876 = true
 replace H := iY h1891 H
 refine q_ldA hI1880 1 (cs := [int .i64 y1092.From, int .i64 y1092.Until, int .i64 y1092.Width, bool y1092.Hyphen]) ag31 rfl rfl rfl rfl ?_ (hw := gY rfl rfl rfl (bval_yes h1891))
 refine q_build (vs := [(0, int .i64 0), (1, int .i64 3), (2, int .i64 30), (3, bool true)]) (cs := [int .i64 0, int .i64 3, int .i64 30, bool true]) ze31 pl31 rfl rfl ?_ (hw := gY rfl rfl rfl (bval_yes h1891))
 refine q_st_eql (q := y1092 = (⟨0, 3, 30, true⟩ : api_Line)) rfl rfl eqg_api_Line (eqs_api_Line y1092 (⟨0, 3, 30, true⟩ : api_Line)) (eqd_api_Line _ _) ?_ (hw := gY rfl rfl rfl (bval_yes h1891))
 refine q_pick true (v := bool (decide (y1092 = (⟨0, 3, 30, true⟩ : api_Line)))) (bval_yes h1891) rfl ?_
 refine nl ?_
 cases H
 exact ⟨rfl, _, rfl, gR, ⟨rfl, rfl, rfl, rfl, trivial⟩, hI1880, trivial⟩
 replace H := iN h1891 H
 refine wN (gN rfl rfl rfl (bval_no h1891) rfl) ?_
 refine wN (gN rfl rfl rfl (bval_no h1891) rfl) ?_
 refine wN (gN rfl rfl rfl (bval_no h1891) rfl) ?_
 refine q_pick false (v := bool false) (bval_no h1891) rfl ?_
 refine nl ?_
 cases H
 exact ⟨rfl, _, rfl, gR, ⟨rfl, rfl, rfl, rfl, trivial⟩, hI1880, trivial⟩
 clear hC
 rintro e r ds wd1888 ⟨rfl, G1886, rfl, hG1887, hHas, hI1889, _⟩
 rw [hHas.eq]; clear hHas
 refine q_mv (v := bool v1885) rfl ?_
 obtain ⟨v1892, hC, H⟩ := bS H
 refine wpq_split 3 (K := fun e r ds w => e = .normal ∧ ∃ (G1893 : Gh), ds = [] ∧ G1886 ≤ G1893 ∧ Has [(9, int .i64 y1321), (12, int .i64 y1345), (114, bool v1892)] r ∧ Hp G1893 (bx g1779 [int .i64 y1776.From, int .i64 y1776.Until, int .i64 y1776.Width, bool y1776.Hyphen] 31 :: bx g1289 [int .i64 y1092.From, int .i64 y1092.Until, int .i64 y1092.Width, bool y1092.Hyphen] 31 :: bx g6 [int .i64 2, int .i64 2, slice none 0 0] 28 :: tk (slice A1569 y1568.length c1570) 4 31 :: tk (slice A671 y670.length c672) 4 31 :: tk (slice (some ⟨g659, 0, none⟩) ([40] : List Int).length 1) 1 3 :: tk (slice A241 y240.length c242) 4 31 :: tk (slice (some ⟨g229, 0, none⟩) ([50] : List Int).length 1) 1 3 :: L) w ∧ True) ?_ ?_
 replace H := hC
 by_cases h1898 : v1885 = true
 replace H := iY h1898 H
 refine q_mv (v := string y1320) rfl ?_ (hw := gY rfl rfl rfl (bval_yes h1898))
 refine q_str_eql rfl rfl ?_ (hw := gY rfl rfl rfl (bval_yes h1898))
 refine q_pick true (v := bool (decide (y1320 = (⟨#[99, 100]⟩ : ByteArray)))) (bval_yes h1898) rfl ?_
 refine nl ?_
 cases H
 exact ⟨rfl, _, rfl, gR, ⟨rfl, rfl, rfl, trivial⟩, hI1889, trivial⟩
 replace H := iN h1898 H
 refine wN (gN rfl rfl rfl (bval_no h1898) rfl) ?_
 refine wN (gN rfl rfl rfl (bval_no h1898) rfl) ?_
 refine q_pick false (v := bool false) (bval_no h1898) rfl ?_
 refine nl ?_
 cases H
 exact ⟨rfl, _, rfl, gR, ⟨rfl, rfl, rfl, trivial⟩, hI1889, trivial⟩
 clear hC
 rintro e r ds wd1895 ⟨rfl, G1893, rfl, hG1894, hHas, hI1896, _⟩
 rw [hHas.eq]; clear hHas
 refine q_mv (v := bool v1892) rfl ?_
 obtain ⟨v1899, hC, H⟩ := bS H
 refine wpq_split 3 (K := fun e r ds w => e = .normal ∧ ∃ (G1900 : Gh), ds = [] ∧ G1893 ≤ G1900 ∧ Has [(12, int .i64 y1345), (118, bool v1899)] r ∧ Hp G1900 (bx g1779 [int .i64 y1776.From, int .i64 y1776.Until, int .i64 y1776.Width, bool y1776.Hyphen] 31 :: bx g1289 [int .i64 y1092.From, int .i64 y1092.Until, int .i64 y1092.Width, bool y1092.Hyphen] 31 :: bx g6 [int .i64 2, int .i64 2, slice none 0 0] 28 :: tk (slice A1569 y1568.length c1570) 4 31 :: tk (slice A671 y670.length c672) 4 31 :: tk (slice (some ⟨g659, 0, none⟩) ([40] : List Int).length 1) 1 3 :: tk (slice A241 y240.length c242) 4 31 :: tk (slice (some ⟨g229, 0, none⟩) ([50] : List Int).length 1) 1 3 :: L) w ∧ True) ?_ ?_
 replace H := hC
 by_cases h1905 : v1892 = true
 replace H := iY h1905 H
 refine q_mv (v := int .i64 y1321) rfl ?_ (hw := gY rfl rfl rfl (bval_yes h1905))
 refine q_eql rfl rfl ?_ (hw := gY rfl rfl rfl (bval_yes h1905))
 refine q_pick true (v := bool (decide (y1321 = 15))) (bval_yes h1905) rfl ?_
 refine nl ?_
 cases H
 exact ⟨rfl, _, rfl, gR, ⟨rfl, rfl, trivial⟩, hI1896, trivial⟩
 replace H := iN h1905 H
 refine wN (gN rfl rfl rfl (bval_no h1905) rfl) ?_
 refine wN (gN rfl rfl rfl (bval_no h1905) rfl) ?_
 refine q_pick false (v := bool false) (bval_no h1905) rfl ?_
 refine nl ?_
 cases H
 exact ⟨rfl, _, rfl, gR, ⟨rfl, rfl, trivial⟩, hI1896, trivial⟩
 clear hC
 rintro e r ds wd1902 ⟨rfl, G1900, rfl, hG1901, hHas, hI1903, _⟩
 rw [hHas.eq]; clear hHas
 refine q_mv (v := bool v1899) rfl ?_
 obtain ⟨v1906, hC, H⟩ := bS H
 refine wpq_split 3 (K := fun e r ds w => e = .normal ∧ ∃ (G1907 : Gh), ds = [] ∧ G1900 ≤ G1907 ∧ Has [(122, bool v1906)] r ∧ Hp G1907 (bx g1779 [int .i64 y1776.From, int .i64 y1776.Until, int .i64 y1776.Width, bool y1776.Hyphen] 31 :: bx g1289 [int .i64 y1092.From, int .i64 y1092.Until, int .i64 y1092.Width, bool y1092.Hyphen] 31 :: bx g6 [int .i64 2, int .i64 2, slice none 0 0] 28 :: tk (slice A1569 y1568.length c1570) 4 31 :: tk (slice A671 y670.length c672) 4 31 :: tk (slice (some ⟨g659, 0, none⟩) ([40] : List Int).length 1) 1 3 :: tk (slice A241 y240.length c242) 4 31 :: tk (slice (some ⟨g229, 0, none⟩) ([50] : List Int).length 1) 1 3 :: L) w ∧ True) ?_ ?_
 replace H := hC
 by_cases h1912 : v1899 = true
 replace H := iY h1912 H
 refine q_mv (v := int .i64 y1345) rfl ?_ (hw := gY rfl rfl rfl (bval_yes h1912))
 refine q_eql rfl rfl ?_ (hw := gY rfl rfl rfl (bval_yes h1912))
 refine q_pick true (v := bool (decide (y1345 = 30))) (bval_yes h1912) rfl ?_
 refine nl ?_
 cases H
 exact ⟨rfl, _, rfl, gR, ⟨rfl, trivial⟩, hI1903, trivial⟩
 replace H := iN h1912 H
 refine wN (gN rfl rfl rfl (bval_no h1912) rfl) ?_
 refine wN (gN rfl rfl rfl (bval_no h1912) rfl) ?_
 refine q_pick false (v := bool false) (bval_no h1912) rfl ?_
 refine nl ?_
 cases H
 exact ⟨rfl, _, rfl, gR, ⟨rfl, trivial⟩, hI1903, trivial⟩
 clear hC
 rintro e r ds wd1909 ⟨rfl, G1907, rfl, hG1908, hHas, hI1910, _⟩
 rw [hHas.eq]; clear hHas
 refine q_as (v := bool v1906) rfl ?_
 refine nl ?_
 refine hK1884 _ _ _ ?_
 refine wpc_ret ?_
 have hI1913 := Hp.sub hI1910 (sd (sd (sd (sd (sd (sd (sd (sd se))))))))
 cases H
 exact ⟨.inr rfl, rfl, _, ⟨_, _, rfl, rfl, rfl⟩, _, (gT (gT (gT (gT (gT (gT (gT (gT (gT (gT (gT (gT (gT (gT (gT (gT (gT (gT (gT (gT hG437 hG867) hG1295) hG1303) hG1317) hG1327) hG1341) hG1765) hG1773) hG1788) hG1811) hG1818) hG1825) hG1832) hG1839) hG1848) hG1878) hG1887) hG1894) hG1901) hG1908), hI1913, rfl⟩
set_option maxHeartbeats 1000000 in
theorem formeref07_Few_spec {a1 : api_Font} {A2 : Option Addr} {c3 : Nat} {A6 : Option Addr} {c7 : Nat} {r1026 : Bool} {G : Gh} {L : List Itm} {w : World} (hI : Hp G (L) w) (hl4 : a1.Glyphs.length ≤ c3) (hD5 : Dat k_api_Glyph G A2 a1.Glyphs) (hl8 : a1.Kerns.length ≤ c7) (hD9 : Dat k_api_Kern G A6 a1.Kerns) (H : formeref07_Few a1 = some r1026) :
    Calls Tryz.prog 24 [agg [slice A2 a1.Glyphs.length c3, slice A6 a1.Kerns.length c7].toArray].toArray w fun e w' => ∃ (G' : Gh), G ≤ G' ∧ Hp G' (L) w' ∧ e = .returned (bool r1026) := by
 refine calls_intro (N := 13) Tryz.func24 rfl rfl (Nat.le_of_ble_eq_true rfl) ?_
 unfold formeref07_Few at H
 refine sr fun K10 hK11 => ?_
 refine q_box hI (v := agg [slice A2 a1.Glyphs.length c3, slice A6 a1.Kerns.length c7].toArray) (vs := [slice A2 a1.Glyphs.length c3, slice A6 a1.Kerns.length c7]) rfl rfl (fun g13 wd14 hI15 => ?_)
 refine q_as (v := bool false) rfl ?_
 refine nl ?_
 refine hK11 _ _ _ ?_
 refine sr fun K16 hK17 => ?_
 refine q_fa (a' := ⟨g13, 0, none⟩) fl25_0 rfl (add_plain _ _ _) ?_
 refine q_ld hI15 0 (v := slice A2 a1.Glyphs.length c3) ag22 rfl rfl rfl ?_
 refine q_len so22 rfl ?_
 refine q_leq rfl rfl ?_
 refine q_mv (v := bool (decide ((a1.Glyphs.length : Int) ≤ 100))) rfl ?_
 obtain ⟨v18, hC, H⟩ := bS H
 refine wpq_split 5 (K := fun e r ds w => e = .normal ∧ ∃ (G19 : Gh), ds = [] ∧ G ≤ G19 ∧ Has [(12, bool v18)] r ∧ Hp G19 (bx g13 [slice A2 a1.Glyphs.length c3, slice A6 a1.Kerns.length c7] 25 :: L) w ∧ True) ?_ ?_
 replace H := hC
 by_cases h24 : (a1.Glyphs.length : Int) ≤ 100
 replace H := iY h24 H
 refine q_fa (a' := ⟨g13, 1, none⟩) fl25_1 rfl (add_plain _ _ _) ?_ (hw := gY rfl rfl rfl (bool_yes h24))
 refine q_ld hI15 0 (v := slice A6 a1.Kerns.length c7) ag23 rfl rfl rfl ?_ (hw := gY rfl rfl rfl (bool_yes h24))
 refine q_len so23 rfl ?_ (hw := gY rfl rfl rfl (bool_yes h24))
 refine q_leq rfl rfl ?_ (hw := gY rfl rfl rfl (bool_yes h24))
 refine q_pick true (v := bool (decide ((a1.Kerns.length : Int) ≤ 210))) (bool_yes h24) rfl ?_
 refine nl ?_
 cases H
 exact ⟨rfl, _, rfl, gR, ⟨rfl, trivial⟩, hI15, trivial⟩
 replace H := iN h24 H
 refine wN (gN rfl rfl rfl (bool_no h24) rfl) ?_
 refine wN (gN rfl rfl rfl (bool_no h24) rfl) ?_
 refine wN (gN rfl rfl rfl (bool_no h24) rfl) ?_
 refine wN (gN rfl rfl rfl (bool_no h24) rfl) ?_
 refine q_pick false (v := bool false) (bool_no h24) rfl ?_
 refine nl ?_
 cases H
 exact ⟨rfl, _, rfl, gR, ⟨rfl, trivial⟩, hI15, trivial⟩
 clear hC
 rintro e r ds wd21 ⟨rfl, G19, rfl, hG20, hHas, hI22, _⟩
 rw [hHas.eq]; clear hHas
 refine q_as (v := bool v18) rfl ?_
 refine nl ?_
 refine hK17 _ _ _ ?_
 refine wpc_ret ?_
 have hI25 := Hp.sub hI22 (sd se)
 cases H
 exact ⟨.inr rfl, rfl, _, ⟨_, _, rfl, rfl, rfl⟩, _, hG20, hI25, rfl⟩
set_option maxHeartbeats 1000000 in
theorem formelaw17_few_spec {a1 : api_Font} {a10 : api_Breaks} {a15 : ByteArray} {A2 : Option Addr} {c3 : Nat} {A6 : Option Addr} {c7 : Nat} {A11 : Option Addr} {c12 : Nat} {r1063 : Bool} {G : Gh} {L : List Itm} {w : World} (hI : Hp G (L) w) (hl4 : a1.Glyphs.length ≤ c3) (hD5 : Dat k_api_Glyph G A2 a1.Glyphs) (hl8 : a1.Kerns.length ≤ c7) (hD9 : Dat k_api_Kern G A6 a1.Kerns) (hl13 : a10.Keep.length ≤ c12) (hD14 : Dat Kd.str G A11 a10.Keep) (H : formelaw17_few a1 a10 a15 = some r1063) :
    Calls Tryz.prog 10 [agg [slice A2 a1.Glyphs.length c3, slice A6 a1.Kerns.length c7].toArray, agg [int .i64 a10.Before, int .i64 a10.Behind, slice A11 a10.Keep.length c12].toArray, string a15].toArray w fun e w' => ∃ (G' : Gh), G ≤ G' ∧ Hp G' (L) w' ∧ e = .returned (bool r1063) := by
 refine calls_intro (N := 30) Tryz.func10 rfl rfl (Nat.le_of_ble_eq_true rfl) ?_
 unfold formelaw17_few at H
 refine sr fun K16 hK17 => ?_
 refine q_box hI (v := agg [slice A2 a1.Glyphs.length c3, slice A6 a1.Kerns.length c7].toArray) (vs := [slice A2 a1.Glyphs.length c3, slice A6 a1.Kerns.length c7]) rfl rfl (fun g19 wd20 hI21 => ?_)
 refine q_box hI21 (v := agg [int .i64 a10.Before, int .i64 a10.Behind, slice A11 a10.Keep.length c12].toArray) (vs := [int .i64 a10.Before, int .i64 a10.Behind, slice A11 a10.Keep.length c12]) rfl rfl (fun g23 wd24 hI25 => ?_)
 refine q_as (v := bool false) rfl ?_
 refine nl ?_
 refine hK17 _ _ _ ?_
 refine sr fun K26 hK27 => ?_
 refine q_ldA hI25 1 (cs := [slice A2 a1.Glyphs.length c3, slice A6 a1.Kerns.length c7]) ag25 rfl rfl rfl rfl ?_
 obtain ⟨y33, hy28, H⟩ := bS H
 refine q_cv (vs := [agg [slice A2 a1.Glyphs.length c3, slice A6 a1.Kerns.length c7].toArray]) bo24 rfl rfl (formeref07_Few_spec (a1 := a1) hI25 hl4 hD5 hl8 hD9 hy28) ?_
 rintro _ wd31 ⟨G29, hG30, hI32, rfl⟩
 refine ⟨_, rfl, ?_⟩
 refine q_mv (v := bool y33) rfl ?_
 obtain ⟨v34, hC, H⟩ := bS H
 refine wpq_split 5 (K := fun e r ds w => e = .normal ∧ ∃ (G35 : Gh), ds = [] ∧ G29 ≤ G35 ∧ Has [(2, string a15), (14, bool v34)] r ∧ Hp G35 (bx g23 [int .i64 a10.Before, int .i64 a10.Behind, slice A11 a10.Keep.length c12] 28 :: bx g19 [slice A2 a1.Glyphs.length c3, slice A6 a1.Kerns.length c7] 25 :: L) w ∧ True) ?_ ?_
 replace H := hC
 by_cases h40 : y33 = true
 replace H := iY h40 H
 refine q_fa (a' := ⟨g23, 2, none⟩) fl28_2 rfl (add_plain _ _ _) ?_ (hw := gY rfl rfl rfl (bval_yes h40))
 refine q_ld hI32 0 (v := slice A11 a10.Keep.length c12) ag26 rfl rfl rfl ?_ (hw := gY rfl rfl rfl (bval_yes h40))
 refine q_len so26 rfl ?_ (hw := gY rfl rfl rfl (bval_yes h40))
 refine q_leq rfl rfl ?_ (hw := gY rfl rfl rfl (bval_yes h40))
 refine q_pick true (v := bool (decide ((a10.Keep.length : Int) ≤ 30))) (bval_yes h40) rfl ?_
 refine nl ?_
 cases H
 exact ⟨rfl, _, rfl, gR, ⟨rfl, rfl, trivial⟩, hI32, trivial⟩
 replace H := iN h40 H
 refine wN (gN rfl rfl rfl (bval_no h40) rfl) ?_
 refine wN (gN rfl rfl rfl (bval_no h40) rfl) ?_
 refine wN (gN rfl rfl rfl (bval_no h40) rfl) ?_
 refine wN (gN rfl rfl rfl (bval_no h40) rfl) ?_
 refine q_pick false (v := bool false) (bval_no h40) rfl ?_
 refine nl ?_
 cases H
 exact ⟨rfl, _, rfl, gR, ⟨rfl, rfl, trivial⟩, hI32, trivial⟩
 clear hC
 rintro e r ds wd37 ⟨rfl, G35, rfl, hG36, hHas, hI38, _⟩
 rw [hHas.eq]; clear hHas
 refine q_mv (v := bool v34) rfl ?_
 obtain ⟨v41, hC, H⟩ := bS H
 refine wpq_split 14 (K := fun e r ds w => e = .normal ∧ ∃ (G42 : Gh), ds = [] ∧ G35 ≤ G42 ∧ Has [(29, bool v41)] r ∧ Hp G42 (bx g23 [int .i64 a10.Before, int .i64 a10.Behind, slice A11 a10.Keep.length c12] 28 :: bx g19 [slice A2 a1.Glyphs.length c3, slice A6 a1.Kerns.length c7] 25 :: L) w ∧ True) ?_ ?_
 replace H := hC
 by_cases h47 : v34 = true
 replace H := iY h47 H
 refine q_mv (v := string a15) rfl ?_ (hw := gY rfl rfl rfl (bval_yes h47))
 refine q_lens so9 rfl ?_ (hw := gY rfl rfl rfl (bval_yes h47))
 refine q_leq rfl rfl ?_ (hw := gY rfl rfl rfl (bval_yes h47))
 refine q_mv (v := bool (decide ((a15.size : Int) ≤ 60))) rfl ?_ (hw := gY rfl rfl rfl (bval_yes h47))
 obtain ⟨v48, hC, H⟩ := bS H
 refine wpq_split 9 (K := fun e r ds w => e = .normal ∧ ∃ (G49 : Gh), ds = [] ∧ G35 ≤ G49 ∧ Has [(15, bool v34), (28, bool v48)] r ∧ Hp G49 (bx g23 [int .i64 a10.Before, int .i64 a10.Behind, slice A11 a10.Keep.length c12] 28 :: bx g19 [slice A2 a1.Glyphs.length c3, slice A6 a1.Kerns.length c7] 25 :: L) w ∧ True) ?_ ?_
 replace H := hC
 by_cases h54 : (a15.size : Int) ≤ 60
 replace H := iY h54 H
 refine wN (gN rfl rfl rfl (bool_yes h54) rfl) ?_
 refine wN (gN rfl rfl rfl (bool_yes h54) rfl) ?_
 refine wN (gN rfl rfl rfl (bool_yes h54) rfl) ?_
 refine wN (gN rfl rfl rfl (bool_yes h54) rfl) ?_
 refine wN (gN rfl rfl rfl rfl rfl) ?_
 refine wN (gN rfl rfl rfl rfl rfl) ?_
 refine wN (gN rfl rfl rfl rfl rfl) ?_
 refine wN (gN rfl rfl rfl (bool_yes h54) rfl) ?_
 refine q_pick true (v := bool true) (bool_yes h54) rfl ?_ (hw := gY rfl rfl rfl (bval_yes h47))
 refine nl ?_
 cases H
 exact ⟨rfl, _, rfl, gR, ⟨rfl, rfl, trivial⟩, hI38, trivial⟩
 replace H := iN h54 H
 refine q_mv (v := string a15) rfl ?_ (hw := gY rfl rfl rfl (bool_no h54))
 refine q_lens so9 rfl ?_ (hw := gY rfl rfl rfl (bool_no h54))
 refine q_gtr rfl rfl ?_ (hw := gY rfl rfl rfl (bool_no h54))
 refine q_mv (v := bool (decide (2000 < (a15.size : Int)))) rfl ?_ (hw := gY rfl rfl rfl (bool_no h54))
 obtain ⟨v55, hC, H⟩ := bS H
 refine wpq_split 4 (K := fun e r ds w => e = .normal ∧ ∃ (G56 : Gh), ds = [] ∧ G35 ≤ G56 ∧ Has [(15, bool v34), (19, bool (decide ((a15.size : Int) ≤ 60))), (27, bool v55)] r ∧ Hp G56 (bx g23 [int .i64 a10.Before, int .i64 a10.Behind, slice A11 a10.Keep.length c12] 28 :: bx g19 [slice A2 a1.Glyphs.length c3, slice A6 a1.Kerns.length c7] 25 :: L) w ∧ True) ?_ ?_
 replace H := hC
 by_cases h61 : 2000 < (a15.size : Int)
 replace H := iY h61 H
 refine q_mv (v := string a15) rfl ?_ (hw := gY rfl rfl rfl (bool_yes h61))
 refine q_lens so9 rfl ?_ (hw := gY rfl rfl rfl (bool_yes h61))
 refine q_lss rfl rfl ?_ (hw := gY rfl rfl rfl (bool_yes h61))
 refine q_pick true (v := bool (decide ((a15.size : Int) < 3000))) (bool_yes h61) rfl ?_ (hw := gY rfl rfl rfl (bool_no h54))
 refine nl ?_
 cases H
 exact ⟨rfl, _, rfl, gR, ⟨rfl, rfl, rfl, trivial⟩, hI38, trivial⟩
 replace H := iN h61 H
 refine wN (gN rfl rfl rfl (bool_no h61) rfl) ?_
 refine wN (gN rfl rfl rfl (bool_no h61) rfl) ?_
 refine wN (gN rfl rfl rfl (bool_no h61) rfl) ?_
 refine q_pick false (v := bool false) (bool_no h61) rfl ?_ (hw := gY rfl rfl rfl (bool_no h54))
 refine nl ?_
 cases H
 exact ⟨rfl, _, rfl, gR, ⟨rfl, rfl, rfl, trivial⟩, hI38, trivial⟩
 clear hC
 rintro e r ds wd58 ⟨rfl, G56, rfl, hG57, hHas, hI59, _⟩
 rw [hHas.eq]; clear hHas
 refine q_pick false (v := bool v55) (bool_no h54) rfl ?_ (hw := gY rfl rfl rfl (bval_yes h47))
 refine nl ?_
 cases H
 exact ⟨rfl, _, rfl, hG57, ⟨rfl, rfl, trivial⟩, hI59, trivial⟩
 clear hC
 rintro e r ds wd51 ⟨rfl, G49, rfl, hG50, hHas, hI52, _⟩
 rw [hHas.eq]; clear hHas
 refine q_pick true (v := bool v48) (bval_yes h47) rfl ?_
 refine nl ?_
 cases H
 exact ⟨rfl, _, rfl, hG50, ⟨rfl, trivial⟩, hI52, trivial⟩
 replace H := iN h47 H
 refine wN (gN rfl rfl rfl (bval_no h47) rfl) ?_
 refine wN (gN rfl rfl rfl (bval_no h47) rfl) ?_
 refine wN (gN rfl rfl rfl (bval_no h47) rfl) ?_
 refine wN (gN rfl rfl rfl (bval_no h47) rfl) ?_
 refine wN (gN rfl rfl rfl rfl rfl) ?_
 refine wN (gN rfl rfl rfl rfl rfl) ?_
 refine wN (gN rfl rfl rfl rfl rfl) ?_
 refine wN (gN rfl rfl rfl rfl rfl) ?_
 refine wN (gN rfl rfl rfl rfl rfl) ?_
 refine wN (gN rfl rfl rfl rfl rfl) ?_
 refine wN (gN rfl rfl rfl rfl rfl) ?_
 refine wN (gN rfl rfl rfl rfl rfl) ?_
 refine wN (gN rfl rfl rfl (bval_no h47) rfl) ?_
 refine q_pick false (v := bool false) (bval_no h47) rfl ?_
 refine nl ?_
 cases H
 exact ⟨rfl, _, rfl, gR, ⟨rfl, trivial⟩, hI38, trivial⟩
 clear hC
 rintro e r ds wd44 ⟨rfl, G42, rfl, hG43, hHas, hI45, _⟩
 rw [hHas.eq]; clear hHas
 refine q_as (v := bool v41) rfl ?_
 refine nl ?_
 refine hK27 _ _ _ ?_
 refine wpc_ret ?_
 have hI62 := Hp.sub hI45 (sd (sd se))
 cases H
 exact ⟨.inr rfl, rfl, _, ⟨_, _, rfl, rfl, rfl⟩, _, (gT (gT hG30 hG36) hG43), hI62, rfl⟩
set_option maxHeartbeats 1000000 in
theorem formeref07_Glyph_spec {a1 : api_Font} {a10 : Int} {A2 : Option Addr} {c3 : Nat} {A6 : Option Addr} {c7 : Nat} {r1069 : Int} {G : Gh} {L : List Itm} {w : World} (hI : Hp G (L) w) (hl4 : a1.Glyphs.length ≤ c3) (hD5 : Dat k_api_Glyph G A2 a1.Glyphs) (hl8 : a1.Kerns.length ≤ c7) (hD9 : Dat k_api_Kern G A6 a1.Kerns) (H : formeref07_Glyph a1 a10 = some r1069) :
    Calls Tryz.prog 74 [agg [slice A2 a1.Glyphs.length c3, slice A6 a1.Kerns.length c7].toArray, int .u8 a10].toArray w fun e w' => ∃ (G' : Gh), G ≤ G' ∧ Hp G' (L) w' ∧ e = .returned (int .i64 r1069) := by
 refine calls_intro (N := 22) Tryz.func74 rfl rfl (Nat.le_of_ble_eq_true rfl) ?_
 unfold formeref07_Glyph at H
 refine sr fun K11 hK12 => ?_
 refine q_box hI (v := agg [slice A2 a1.Glyphs.length c3, slice A6 a1.Kerns.length c7].toArray) (vs := [slice A2 a1.Glyphs.length c3, slice A6 a1.Kerns.length c7]) rfl rfl (fun g14 wd15 hI16 => ?_)
 refine q_as (v := int .i64 0) rfl ?_
 refine nl ?_
 refine hK12 _ _ _ ?_
 refine sQ fun K17 hK18 => ?_
 refine sr fun K19 hK20 => ?_
 refine q_as (v := int .i64 0) rfl ?_
 refine nl ?_
 refine hK20 _ _ _ ?_
 refine wpc_block ?_
 obtain ⟨o41, hC, H⟩ := bS H
 refine wpc_mono (Q := fun e r ds w => match (generalizing := false) o41 with | (Sum.inl v32) => e = .ret ∧ ∃ (G33 : Gh), ds = [] ∧ G ≤ G33 ∧ Has [(4, int .i64 v32)] r ∧ Hp G33 (bx g14 [slice A2 a1.Glyphs.length c3, slice A6 a1.Kerns.length c7] 25 :: L) w ∧ True | (Sum.inr _) => e = .exit 0 ∧ ∃ (G37 : Gh), ds = [] ∧ G ≤ G37 ∧ Has [] r ∧ Hp G37 (bx g14 [slice A2 a1.Glyphs.length c3, slice A6 a1.Kerns.length c7] 25 :: L) w ∧ True) ?_ ?_
 clear H
 refine wpc_loop fun I hLp => ?_
 refine formeref07_Glyph_l31.partial_correctness a1 a10 (fun v25 o => ∀ (G42 : Gh) (r : Rg) (w : World), G ≤ G42 → Has [(1, int .u8 a10), (2, pointer (some ⟨g14, 0, none⟩)), (5, int .i64 v25)] r → Hp G42 (bx g14 [slice A2 a1.Glyphs.length c3, slice A6 a1.Kerns.length c7] 25 :: L) w → o = o41 → I r [] w) ?_ 0 _ hC _ _ _ gR ⟨rfl, rfl, rfl, trivial⟩ hI16 rfl
 intro _ ih v25 o H G42 r wd44 hG43 hHas hI45 ho
 rw [ho] at H; clear ho
 rw [hHas.eq]; clear hHas
 refine hLp _ _ _ ?_
 refine sQ fun K46 hK47 => ?_
 refine sr fun K48 hK49 => ?_
 refine q_mv (v := int .i64 v25) rfl ?_
 refine q_fa (a' := ⟨g14, 0, none⟩) fl25_0 rfl (add_plain _ _ _) ?_
 refine q_ld hI45 0 (v := slice A2 a1.Glyphs.length c3) ag22 rfl rfl rfl ?_
 refine q_len so22 rfl ?_
 refine q_lss rfl rfl ?_
 refine nl ?_
 refine hK49 _ _ _ ?_
 by_cases h50 : v25 < (a1.Glyphs.length : Int)
 replace H := iY h50 H
 refine wpc_true (bool_yes h50) ?_
 refine wpc_skip ?_
 refine hK47 _ _ _ ?_
 refine sQ fun K51 hK52 => ?_
 refine wpc_block ?_
 refine sr fun K53 hK54 => ?_
 refine q_fa (a' := ⟨g14, 0, none⟩) fl25_0 rfl (add_plain _ _ _) ?_
 refine q_ld hI45 0 (v := slice A2 a1.Glyphs.length c3) ag22 rfl rfl rfl ?_
 refine q_mv (v := int .i64 v25) rfl ?_
 obtain ⟨⟨h55, h55'⟩, H⟩ := iS H
 obtain ⟨ad56, cs57, hA58, hK59, hn60, hc61⟩ := Dat.get (Dat.mono hG43 hD5) z_api_Glyph (v25) h55 h55'
 obtain ⟨rfl⟩ := open_api_Glyph hK59
 refine q_ia el22 rfl hA58 rfl h55 h55' ?_
 refine q_fa (a' := (ad56.add (Int.toNat v25 * 2)).add 0) fl98_0 rfl rfl ?_
 refine q_lf hI45 (v := int .u8 ((a1.Glyphs.getD (Int.toNat v25) z_api_Glyph).Byte)) ag5 rfl (gR.cel _ _ (hc61 0 _ rfl)) ?_
 refine q_mv (v := int .u8 a10) rfl ?_
 refine q_eql rfl rfl ?_
 refine nl ?_
 refine hK54 _ _ _ ?_
 by_cases h62 : ((a1.Glyphs.getD (Int.toNat v25) z_api_Glyph).Byte) = a10
 replace H := iY h62 H
 refine wpc_true (bool_yes h62) ?_
 refine sr fun K63 hK64 => ?_
 refine q_mv (v := int .i64 v25) rfl ?_
 refine q_as (v := int .i64 v25) rfl ?_
 refine nl ?_
 refine hK64 _ _ _ ?_
 refine wpc_ret ?_
 cases H
 exact ⟨rfl, _, rfl, hG43, ⟨rfl, trivial⟩, hI45, trivial⟩
 replace H := iN h62 H
 refine wpc_false (bool_no h62) ?_
 refine wpc_skip ?_
 refine hK52 _ _ _ ?_
 refine wpc_region ?_
 refine q_mv (v := int .i64 v25) rfl ?_
 refine q_add rfl rfl ?_
 refine q_as (v := int .i64 (w64 (v25 + 1))) rfl ?_
 refine nl ?_
 exact ih _ _ H _ _ _ hG43 ⟨rfl, rfl, rfl, trivial⟩ hI45 rfl
 replace H := iN h50 H
 refine wpc_false (bool_no h50) ?_
 refine wpc_exit ?_
 cases H
 exact ⟨rfl, _, rfl, hG43, trivial, hI45, trivial⟩
 clear hC
 rcases o41 with v32 | _
 rintro e r ds wd35 ⟨rfl, G33, rfl, hG34, hHas, hI36, _⟩
 rw [hHas.eq]; clear hHas
 have hI65 := Hp.sub hI36 (sd se)
 cases H
 exact ⟨.inr rfl, rfl, _, ⟨_, _, rfl, rfl, rfl⟩, _, hG34, hI65, rfl⟩
 rintro e r ds wd39 ⟨rfl, G37, rfl, hG38, hHas, hI40, _⟩
 rw [hHas.eq]; clear hHas
 refine hK18 _ _ _ ?_
 refine sr fun K66 hK67 => ?_
 refine q_as (v := int .i64 (-1)) rfl ?_
 refine nl ?_
 refine hK67 _ _ _ ?_
 refine wpc_ret ?_
 have hI68 := Hp.sub hI40 (sd se)
 cases H
 exact ⟨.inr rfl, rfl, _, ⟨_, _, rfl, rfl, rfl⟩, _, hG38, hI68, rfl⟩
set_option maxHeartbeats 1000000 in
theorem formeref07_Valid_spec {a1 : api_Font} {A2 : Option Addr} {c3 : Nat} {A6 : Option Addr} {c7 : Nat} {r1247 : Bool} {G : Gh} {L : List Itm} {w : World} (hI : Hp G (L) w) (hl4 : a1.Glyphs.length ≤ c3) (hD5 : Dat k_api_Glyph G A2 a1.Glyphs) (hl8 : a1.Kerns.length ≤ c7) (hD9 : Dat k_api_Kern G A6 a1.Kerns) (H : formeref07_Valid a1 = some r1247) :
    Calls Tryz.prog 40 [agg [slice A2 a1.Glyphs.length c3, slice A6 a1.Kerns.length c7].toArray].toArray w fun e w' => ∃ (G' : Gh), G ≤ G' ∧ Hp G' (L) w' ∧ e = .returned (bool r1247) := by
 refine calls_intro (N := 151) Tryz.func40 rfl rfl (Nat.le_of_ble_eq_true rfl) ?_
 unfold formeref07_Valid at H
 refine sr fun K10 hK11 => ?_
 refine q_box hI (v := agg [slice A2 a1.Glyphs.length c3, slice A6 a1.Kerns.length c7].toArray) (vs := [slice A2 a1.Glyphs.length c3, slice A6 a1.Kerns.length c7]) rfl rfl (fun g13 wd14 hI15 => ?_)
 refine q_as (v := bool false) rfl ?_
 refine nl ?_
 refine hK11 _ _ _ ?_
 refine sQ fun K16 hK17 => ?_
 refine sr fun K18 hK19 => ?_
 refine q_fa (a' := ⟨g13, 0, none⟩) fl25_0 rfl (add_plain _ _ _) ?_
 refine q_ld hI15 0 (v := slice A2 a1.Glyphs.length c3) ag22 rfl rfl rfl ?_
 refine q_len so22 rfl ?_
 refine q_gtr rfl rfl ?_
 refine q_mv (v := bool (decide (94 < (a1.Glyphs.length : Int)))) rfl ?_
 obtain ⟨v20, hC, H⟩ := bS H
 refine wpq_split 5 (K := fun e r ds w => e = .normal ∧ ∃ (G21 : Gh), ds = [] ∧ G ≤ G21 ∧ Has [(1, pointer (some ⟨g13, 0, none⟩)), (18, bool v20)] r ∧ Hp G21 (bx g13 [slice A2 a1.Glyphs.length c3, slice A6 a1.Kerns.length c7] 25 :: L) w ∧ True) ?_ ?_
 replace H := hC
 by_cases h26 : 94 < (a1.Glyphs.length : Int)
 replace H := iY h26 H
 refine wN (gN rfl rfl rfl (bool_yes h26) rfl) ?_
 refine wN (gN rfl rfl rfl (bool_yes h26) rfl) ?_
 refine wN (gN rfl rfl rfl (bool_yes h26) rfl) ?_
 refine wN (gN rfl rfl rfl (bool_yes h26) rfl) ?_
 refine q_pick true (v := bool true) (bool_yes h26) rfl ?_
 refine nl ?_
 cases H
 exact ⟨rfl, _, rfl, gR, ⟨rfl, rfl, trivial⟩, hI15, trivial⟩
 replace H := iN h26 H
 refine q_fa (a' := ⟨g13, 1, none⟩) fl25_1 rfl (add_plain _ _ _) ?_ (hw := gY rfl rfl rfl (bool_no h26))
 refine q_ld hI15 0 (v := slice A6 a1.Kerns.length c7) ag23 rfl rfl rfl ?_ (hw := gY rfl rfl rfl (bool_no h26))
 refine q_len so23 rfl ?_ (hw := gY rfl rfl rfl (bool_no h26))
 refine q_gtr rfl rfl ?_ (hw := gY rfl rfl rfl (bool_no h26))
 refine q_pick false (v := bool (decide (200 < (a1.Kerns.length : Int)))) (bool_no h26) rfl ?_
 refine nl ?_
 cases H
 exact ⟨rfl, _, rfl, gR, ⟨rfl, rfl, trivial⟩, hI15, trivial⟩
 clear hC
 rintro e r ds wd23 ⟨rfl, G21, rfl, hG22, hHas, hI24, _⟩
 rw [hHas.eq]; clear hHas
 refine nl ?_
 refine hK19 _ _ _ ?_
 by_cases h27 : v20 = true
 replace H := iY h27 H
 refine wpc_true (bval_yes h27) ?_
 refine sr fun K28 hK29 => ?_
 refine q_as (v := bool false) rfl ?_
 refine nl ?_
 refine hK29 _ _ _ ?_
 refine wpc_ret ?_
 have hI30 := Hp.sub hI24 (sd se)
 cases H
 exact ⟨.inr rfl, rfl, _, ⟨_, _, rfl, rfl, rfl⟩, _, hG22, hI30, rfl⟩
 replace H := iN h27 H
 refine wpc_false (bval_no h27) ?_
 refine wpc_skip ?_
 refine hK17 _ _ _ ?_
 refine sQ fun K31 hK32 => ?_
 refine sr fun K33 hK34 => ?_
 refine q_as (v := int .i64 0) rfl ?_
 refine nl ?_
 refine hK34 _ _ _ ?_
 refine wpc_block ?_
 obtain ⟨o54, hC, H⟩ := bS H
 refine wpc_mono (Q := fun e r ds w => match (generalizing := false) o54 with | (Sum.inl _) => e = .ret ∧ ∃ (G46 : Gh), ds = [] ∧ G21 ≤ G46 ∧ Has [(2, bool false)] r ∧ Hp G46 (bx g13 [slice A2 a1.Glyphs.length c3, slice A6 a1.Kerns.length c7] 25 :: L) w ∧ True | (Sum.inr _) => e = .exit 0 ∧ ∃ (G50 : Gh), ds = [] ∧ G21 ≤ G50 ∧ Has [(1, pointer (some ⟨g13, 0, none⟩))] r ∧ Hp G50 (bx g13 [slice A2 a1.Glyphs.length c3, slice A6 a1.Kerns.length c7] 25 :: L) w ∧ True) ?_ ?_
 clear H
 refine wpc_loop fun I hLp => ?_
 refine formeref07_Valid_l45.partial_correctness a1 (fun v39 o => ∀ (G55 : Gh) (r : Rg) (w : World), G21 ≤ G55 → Has [(1, pointer (some ⟨g13, 0, none⟩)), (3, int .i64 v39)] r → Hp G55 (bx g13 [slice A2 a1.Glyphs.length c3, slice A6 a1.Kerns.length c7] 25 :: L) w → o = o54 → I r [] w) ?_ 0 _ hC _ _ _ gR ⟨rfl, rfl, trivial⟩ hI24 rfl
 intro _ ih v39 o H G55 r wd57 hG56 hHas hI58 ho
 rw [ho] at H; clear ho
 rw [hHas.eq]; clear hHas
 refine hLp _ _ _ ?_
 refine sQ fun K59 hK60 => ?_
 refine sr fun K61 hK62 => ?_
 refine q_mv (v := int .i64 v39) rfl ?_
 refine q_fa (a' := ⟨g13, 0, none⟩) fl25_0 rfl (add_plain _ _ _) ?_
 refine q_ld hI58 0 (v := slice A2 a1.Glyphs.length c3) ag22 rfl rfl rfl ?_
 refine q_len so22 rfl ?_
 refine q_lss rfl rfl ?_
 refine nl ?_
 refine hK62 _ _ _ ?_
 by_cases h63 : v39 < (a1.Glyphs.length : Int)
 replace H := iY h63 H
 refine wpc_true (bool_yes h63) ?_
 refine wpc_skip ?_
 refine hK60 _ _ _ ?_
 refine sQ fun K64 hK65 => ?_
 refine wpc_block ?_
 refine sr fun K66 hK67 => ?_
 refine q_fa (a' := ⟨g13, 0, none⟩) fl25_0 rfl (add_plain _ _ _) ?_
 refine q_ld hI58 0 (v := slice A2 a1.Glyphs.length c3) ag22 rfl rfl rfl ?_
 refine q_mv (v := int .i64 v39) rfl ?_
 obtain ⟨⟨h68, h68'⟩, H⟩ := iS H
 obtain ⟨ad69, cs70, hA71, hK72, hn73, hc74⟩ := Dat.get (Dat.mono (gT hG22 hG56) hD5) z_api_Glyph (v39) h68 h68'
 obtain ⟨rfl⟩ := open_api_Glyph hK72
 refine q_ia el22 rfl hA71 rfl h68 h68' ?_
 refine q_lfA hI58 ag98 rfl (cs := [int .u8 ((a1.Glyphs.getD (Int.toNat v39) z_api_Glyph).Byte), int .i64 ((a1.Glyphs.getD (Int.toNat v39) z_api_Glyph).Advance)]) rfl (fun j v hv => gR.cel _ _ (hc74 j v hv)) ?_
 refine q_alloc hI58 ze98 (fun g76 wd77 hI78 => ?_)
 refine q_stA hI78 0 (v := agg [int .u8 ((a1.Glyphs.getD (Int.toNat v39) z_api_Glyph).Byte), int .i64 ((a1.Glyphs.getD (Int.toNat v39) z_api_Glyph).Advance)].toArray) (cs := [int .u8 ((a1.Glyphs.getD (Int.toNat v39) z_api_Glyph).Byte), int .i64 ((a1.Glyphs.getD (Int.toNat v39) z_api_Glyph).Advance)]) (vs' := [int .u8 ((a1.Glyphs.getD (Int.toNat v39) z_api_Glyph).Byte), int .i64 ((a1.Glyphs.getD (Int.toNat v39) z_api_Glyph).Advance)]) ag98 rfl rfl rfl rfl rfl rfl (Nat.le_of_ble_eq_true rfl) rfl (fun wd79 hI80 => ?_)
 refine nl ?_
 refine hK67 _ _ _ ?_
 refine sQ fun K81 hK82 => ?_
 obtain ⟨v83, hC, H⟩ := bS H
 refine wpc_mono (Q := fun e r ds w => e = .normal ∧ ∃ (G84 : Gh), ds = [] ∧ G55 ≤ G84 ∧ Has [(1, pointer (some ⟨g13, 0, none⟩)), (3, int .i64 v39), (64, bool v83)] r ∧ Hp G84 (bx g76 [int .u8 ((a1.Glyphs.getD (Int.toNat v39) z_api_Glyph).Byte), int .i64 ((a1.Glyphs.getD (Int.toNat v39) z_api_Glyph).Advance)] 98 :: bx g13 [slice A2 a1.Glyphs.length c3, slice A6 a1.Kerns.length c7] 25 :: L) w ∧ True) ?_ ?_
 replace H := hC
 refine wpc_quiet mixo (by kernel_rfl) ?_
 have hI89 := hI80.drew
 refine wq (q_fa (a' := ⟨g76, 0, none⟩) fl98_0 rfl (add_plain _ _ _) wqd) rfl ?_
 refine wq (q_ld hI89 0 (v := int .u8 ((a1.Glyphs.getD (Int.toNat v39) z_api_Glyph).Byte)) ag5 rfl rfl rfl wqd) rfl ?_
 refine wq (q_lss rfl rfl wqd) rfl ?_
 refine wq (q_mv (v := bool (decide (((a1.Glyphs.getD (Int.toNat v39) z_api_Glyph).Byte) < 32))) rfl wqd) rfl ?_
 by_cases h90 : ((a1.Glyphs.getD (Int.toNat v39) z_api_Glyph).Byte) < 32
 replace H := iY h90 H
 refine wq (wN (gN rfl rfl rfl (bool_yes h90) rfl) wqd) rfl ?_
 refine wq (wN (gN rfl rfl rfl (bool_yes h90) rfl) wqd) rfl ?_
 refine wq (wN (gN rfl rfl rfl (bool_yes h90) rfl) wqd) rfl ?_
 refine wq (q_pick true (v := bool true) (bool_yes h90) rfl wqd) rfl ?_
 refine wq (q_mv (v := bool true) rfl wqd) rfl ?_
 refine wq (wN (gN rfl rfl rfl rfl rfl) wqd) rfl ?_
 refine wq (wN (gN rfl rfl rfl rfl rfl) wqd) rfl ?_
 refine wq (wN (gN rfl rfl rfl rfl rfl) wqd) rfl ?_
 refine wq (q_pick true (v := bool true) rfl rfl wqd) rfl ?_
 refine wq (q_mv (v := bool true) rfl wqd) rfl ?_
 refine wq (wN (gN rfl rfl rfl rfl rfl) wqd) rfl ?_
 refine wq (wN (gN rfl rfl rfl rfl rfl) wqd) rfl ?_
 refine wq (wN (gN rfl rfl rfl rfl rfl) wqd) rfl ?_
 refine wq (q_pick true (v := bool true) rfl rfl wqd) rfl ?_
 refine wq (q_mv (v := bool true) rfl wqd) rfl ?_
 refine wq (wN (gN rfl rfl rfl rfl rfl) wqd) rfl ?_
 refine wq (wN (gN rfl rfl rfl rfl rfl) wqd) rfl ?_
 refine wq (wN (gN rfl rfl rfl rfl rfl) wqd) rfl ?_
 refine wq (wN (gN rfl rfl rfl rfl rfl) wqd) rfl ?_
 refine wq (wN (gN rfl rfl rfl rfl rfl) wqd) rfl ?_
 refine wq (wN (gN rfl rfl rfl rfl rfl) wqd) rfl ?_
 refine wq (wN (gN rfl rfl rfl rfl rfl) wqd) rfl ?_
 refine wq (wN (gN rfl rfl rfl rfl rfl) wqd) rfl ?_
 refine wq (wN (gN rfl rfl rfl rfl rfl) wqd) rfl ?_
 refine wq (wN (gN rfl rfl rfl rfl rfl) wqd) rfl ?_
 refine wq (wN (gN rfl rfl rfl rfl rfl) wqd) rfl ?_
 refine wq (wN (gN rfl rfl rfl rfl rfl) wqd) rfl ?_
 refine wq (wN (gN rfl rfl rfl rfl rfl) wqd) rfl ?_
 refine wq (wN (gN rfl rfl rfl rfl rfl) wqd) rfl ?_
 refine wq (q_pick true (v := bool true) rfl rfl wqd) rfl ?_
 refine wqq_nil ?_
 cases H
 exact ⟨rfl, _, rfl, gR, ⟨rfl, rfl, rfl, trivial⟩, hI89, trivial⟩
 replace H := iN h90 H
 refine wq (q_fa (a' := ⟨g76, 0, none⟩) fl98_0 rfl (add_plain _ _ _) wqd (hw := gY rfl rfl rfl (bool_no h90))) rfl ?_
 refine wq (q_ld hI89 0 (v := int .u8 ((a1.Glyphs.getD (Int.toNat v39) z_api_Glyph).Byte)) ag5 rfl rfl rfl wqd (hw := gY rfl rfl rfl (bool_no h90))) rfl ?_
 refine wq (q_gtr rfl rfl wqd (hw := gY rfl rfl rfl (bool_no h90))) rfl ?_
 refine wq (q_pick false (v := bool (decide (125 < ((a1.Glyphs.getD (Int.toNat v39) z_api_Glyph).Byte)))) (bool_no h90) rfl wqd) rfl ?_
 refine wq (q_mv (v := bool (decide (125 < ((a1.Glyphs.getD (Int.toNat v39) z_api_Glyph).Byte)))) rfl wqd) rfl ?_
 by_cases h91 : 125 < ((a1.Glyphs.getD (Int.toNat v39) z_api_Glyph).Byte)
 replace H := iY h91 H
 refine wq (wN (gN rfl rfl rfl (bool_yes h91) rfl) wqd) rfl ?_
 refine wq (wN (gN rfl rfl rfl (bool_yes h91) rfl) wqd) rfl ?_
 refine wq (wN (gN rfl rfl rfl (bool_yes h91) rfl) wqd) rfl ?_
 refine wq (q_pick true (v := bool true) (bool_yes h91) rfl wqd) rfl ?_
 refine wq (q_mv (v := bool true) rfl wqd) rfl ?_
 refine wq (wN (gN rfl rfl rfl rfl rfl) wqd) rfl ?_
 refine wq (wN (gN rfl rfl rfl rfl rfl) wqd) rfl ?_
 refine wq (wN (gN rfl rfl rfl rfl rfl) wqd) rfl ?_
 refine wq (q_pick true (v := bool true) rfl rfl wqd) rfl ?_
 refine wq (q_mv (v := bool true) rfl wqd) rfl ?_
 refine wq (wN (gN rfl rfl rfl rfl rfl) wqd) rfl ?_
 refine wq (wN (gN rfl rfl rfl rfl rfl) wqd) rfl ?_
 refine wq (wN (gN rfl rfl rfl rfl rfl) wqd) rfl ?_
 refine wq (wN (gN rfl rfl rfl rfl rfl) wqd) rfl ?_
 refine wq (wN (gN rfl rfl rfl rfl rfl) wqd) rfl ?_
 refine wq (wN (gN rfl rfl rfl rfl rfl) wqd) rfl ?_
 refine wq (wN (gN rfl rfl rfl rfl rfl) wqd) rfl ?_
 refine wq (wN (gN rfl rfl rfl rfl rfl) wqd) rfl ?_
 refine wq (wN (gN rfl rfl rfl rfl rfl) wqd) rfl ?_
 refine wq (wN (gN rfl rfl rfl rfl rfl) wqd) rfl ?_
 refine wq (wN (gN rfl rfl rfl rfl rfl) wqd) rfl ?_
 refine wq (wN (gN rfl rfl rfl rfl rfl) wqd) rfl ?_
 refine wq (wN (gN rfl rfl rfl rfl rfl) wqd) rfl ?_
 refine wq (wN (gN rfl rfl rfl rfl rfl) wqd) rfl ?_
 refine wq (q_pick true (v := bool true) rfl rfl wqd) rfl ?_
 refine wqq_nil ?_
 cases H
 exact ⟨rfl, _, rfl, gR, ⟨rfl, rfl, rfl, trivial⟩, hI89, trivial⟩
 replace H := iN h91 H
 refine wq (q_fa (a' := ⟨g76, 1, none⟩) fl98_1 rfl (add_plain _ _ _) wqd (hw := gY rfl rfl rfl (bool_no h91))) rfl ?_
 refine wq (q_ld hI89 0 (v := int .i64 ((a1.Glyphs.getD (Int.toNat v39) z_api_Glyph).Advance)) ag3 rfl rfl rfl wqd (hw := gY rfl rfl rfl (bool_no h91))) rfl ?_
 refine wq (q_lss rfl rfl wqd (hw := gY rfl rfl rfl (bool_no h91))) rfl ?_
 refine wq (q_pick false (v := bool (decide (((a1.Glyphs.getD (Int.toNat v39) z_api_Glyph).Advance) < 0))) (bool_no h91) rfl wqd) rfl ?_
 refine wq (q_mv (v := bool (decide (((a1.Glyphs.getD (Int.toNat v39) z_api_Glyph).Advance) < 0))) rfl wqd) rfl ?_
 by_cases h92 : ((a1.Glyphs.getD (Int.toNat v39) z_api_Glyph).Advance) < 0
 replace H := iY h92 H
 refine wq (wN (gN rfl rfl rfl (bool_yes h92) rfl) wqd) rfl ?_
 refine wq (wN (gN rfl rfl rfl (bool_yes h92) rfl) wqd) rfl ?_
 refine wq (wN (gN rfl rfl rfl (bool_yes h92) rfl) wqd) rfl ?_
 refine wq (q_pick true (v := bool true) (bool_yes h92) rfl wqd) rfl ?_
 refine wq (q_mv (v := bool true) rfl wqd) rfl ?_
 refine wq (wN (gN rfl rfl rfl rfl rfl) wqd) rfl ?_
 refine wq (wN (gN rfl rfl rfl rfl rfl) wqd) rfl ?_
 refine wq (wN (gN rfl rfl rfl rfl rfl) wqd) rfl ?_
 refine wq (wN (gN rfl rfl rfl rfl rfl) wqd) rfl ?_
 refine wq (wN (gN rfl rfl rfl rfl rfl) wqd) rfl ?_
 refine wq (wN (gN rfl rfl rfl rfl rfl) wqd) rfl ?_
 refine wq (wN (gN rfl rfl rfl rfl rfl) wqd) rfl ?_
 refine wq (wN (gN rfl rfl rfl rfl rfl) wqd) rfl ?_
 refine wq (wN (gN rfl rfl rfl rfl rfl) wqd) rfl ?_
 refine wq (wN (gN rfl rfl rfl rfl rfl) wqd) rfl ?_
 refine wq (wN (gN rfl rfl rfl rfl rfl) wqd) rfl ?_
 refine wq (wN (gN rfl rfl rfl rfl rfl) wqd) rfl ?_
 refine wq (wN (gN rfl rfl rfl rfl rfl) wqd) rfl ?_
 refine wq (wN (gN rfl rfl rfl rfl rfl) wqd) rfl ?_
 refine wq (q_pick true (v := bool true) rfl rfl wqd) rfl ?_
 refine wqq_nil ?_
 cases H
 exact ⟨rfl, _, rfl, gR, ⟨rfl, rfl, rfl, trivial⟩, hI89, trivial⟩
 replace H := iN h92 H
 refine wq (q_fa (a' := ⟨g76, 1, none⟩) fl98_1 rfl (add_plain _ _ _) wqd (hw := gY rfl rfl rfl (bool_no h92))) rfl ?_
 refine wq (q_ld hI89 0 (v := int .i64 ((a1.Glyphs.getD (Int.toNat v39) z_api_Glyph).Advance)) ag3 rfl rfl rfl wqd (hw := gY rfl rfl rfl (bool_no h92))) rfl ?_
 refine wq (q_gtr rfl rfl wqd (hw := gY rfl rfl rfl (bool_no h92))) rfl ?_
 refine wq (q_pick false (v := bool (decide (1000 < ((a1.Glyphs.getD (Int.toNat v39) z_api_Glyph).Advance)))) (bool_no h92) rfl wqd) rfl ?_
 refine wq (q_mv (v := bool (decide (1000 < ((a1.Glyphs.getD (Int.toNat v39) z_api_Glyph).Advance)))) rfl wqd) rfl ?_
 by_cases h93 : 1000 < ((a1.Glyphs.getD (Int.toNat v39) z_api_Glyph).Advance)
 replace H := iY h93 H
 refine wq (wN (gN rfl rfl rfl (bool_yes h93) rfl) wqd) rfl ?_
 refine wq (wN (gN rfl rfl rfl (bool_yes h93) rfl) wqd) rfl ?_
 refine wq (wN (gN rfl rfl rfl (bool_yes h93) rfl) wqd) rfl ?_
 refine wq (wN (gN rfl rfl rfl rfl rfl) wqd) rfl ?_
 refine wq (wN (gN rfl rfl rfl rfl rfl) wqd) rfl ?_
 refine wq (wN (gN rfl rfl rfl rfl rfl) wqd) rfl ?_
 refine wq (wN (gN rfl rfl rfl rfl rfl) wqd) rfl ?_
 refine wq (wN (gN rfl rfl rfl rfl rfl) wqd) rfl ?_
 refine wq (wN (gN rfl rfl rfl rfl rfl) wqd) rfl ?_
 refine wq (wN (gN rfl rfl rfl rfl rfl) wqd) rfl ?_
 refine wq (wN (gN rfl rfl rfl rfl rfl) wqd) rfl ?_
 refine wq (wN (gN rfl rfl rfl rfl rfl) wqd) rfl ?_
 refine wq (wN (gN rfl rfl rfl rfl rfl) wqd) rfl ?_
 refine wq (wN (gN rfl rfl rfl (bool_yes h93) rfl) wqd) rfl ?_
 refine wq (q_pick true (v := bool true) (bool_yes h93) rfl wqd) rfl ?_
 refine wqq_nil ?_
 cases H
 exact ⟨rfl, _, rfl, gR, ⟨rfl, rfl, rfl, trivial⟩, hI89, trivial⟩
 replace H := iN h93 H
 refine wq (q_mv (v := int .i64 v39) rfl wqd (hw := gY rfl rfl rfl (bool_no h93))) rfl ?_
 refine wq (q_gtr rfl rfl wqd (hw := gY rfl rfl rfl (bool_no h93))) rfl ?_
 refine wq (q_mv (v := bool (decide (0 < v39))) rfl wqd (hw := gY rfl rfl rfl (bool_no h93))) rfl ?_
 by_cases h94 : 0 < v39
 replace H := iY h94 H
 refine wq (q_fa (a' := ⟨g76, 0, none⟩) fl98_0 rfl (add_plain _ _ _) wqd (hw := gY rfl rfl rfl (bool_yes h94))) rfl ?_
 refine wq (q_ld hI89 0 (v := int .u8 ((a1.Glyphs.getD (Int.toNat v39) z_api_Glyph).Byte)) ag5 rfl rfl rfl wqd (hw := gY rfl rfl rfl (bool_yes h94))) rfl ?_
 refine wq (q_fa (a' := ⟨g13, 0, none⟩) fl25_0 rfl (add_plain _ _ _) wqd (hw := gY rfl rfl rfl (bool_yes h94))) rfl ?_
 refine wq (q_ld hI89 1 (v := slice A2 a1.Glyphs.length c3) ag22 rfl rfl rfl wqd (hw := gY rfl rfl rfl (bool_yes h94))) rfl ?_
 refine wq (q_mv (v := int .i64 v39) rfl wqd (hw := gY rfl rfl rfl (bool_yes h94))) rfl ?_
 refine wq (q_sub rfl rfl wqd (hw := gY rfl rfl rfl (bool_yes h94))) rfl ?_
 obtain ⟨⟨h95, h95'⟩, H⟩ := iS H
 obtain ⟨ad96, cs97, hA98, hK99, hn100, hc101⟩ := Dat.get (Dat.mono (gT hG22 hG56) hD5) z_api_Glyph (w64 (v39 - 1)) h95 h95'
 obtain ⟨rfl⟩ := open_api_Glyph hK99
 refine wq (q_ia el22 rfl hA98 rfl h95 h95' wqd (hw := gY rfl rfl rfl (bool_yes h94))) rfl ?_
 refine wq (q_fa (a' := (ad96.add (Int.toNat (w64 (v39 - 1)) * 2)).add 0) fl98_0 rfl rfl wqd (hw := gY rfl rfl rfl (bool_yes h94))) rfl ?_
 refine wq (q_lf hI89 (v := int .u8 ((a1.Glyphs.getD (Int.toNat (w64 (v39 - 1))) z_api_Glyph).Byte)) ag5 rfl (gR.cel _ _ (hc101 0 _ rfl)) wqd (hw := gY rfl rfl rfl (bool_yes h94))) rfl ?_
 refine wq (q_leq rfl rfl wqd (hw := gY rfl rfl rfl (bool_yes h94))) rfl ?_
 refine wq (q_pick true (v := bool (decide (((a1.Glyphs.getD (Int.toNat v39) z_api_Glyph).Byte) ≤ ((a1.Glyphs.getD (Int.toNat (w64 (v39 - 1))) z_api_Glyph).Byte)))) (bool_yes h94) rfl wqd (hw := gY rfl rfl rfl (bool_no h93))) rfl ?_
 refine wq (q_pick false (v := bool (decide (((a1.Glyphs.getD (Int.toNat v39) z_api_Glyph).Byte) ≤ ((a1.Glyphs.getD (Int.toNat (w64 (v39 - 1))) z_api_Glyph).Byte)))) (bool_no h93) rfl wqd) rfl ?_
 refine wqq_nil ?_
 cases H
 exact ⟨rfl, _, rfl, gR, ⟨rfl, rfl, rfl, trivial⟩, hI89, trivial⟩
 replace H := iN h94 H
 refine wq (wN (gN rfl rfl rfl (bool_no h94) rfl) wqd) rfl ?_
 refine wq (wN (gN rfl rfl rfl (bool_no h94) rfl) wqd) rfl ?_
 refine wq (wN (gN rfl rfl rfl (bool_no h94) rfl) wqd) rfl ?_
 refine wq (wN (gN rfl rfl rfl (bool_no h94) rfl) wqd) rfl ?_
 refine wq (wN (gN rfl rfl rfl (bool_no h94) rfl) wqd) rfl ?_
 refine wq (wN (gN rfl rfl rfl (bool_no h94) rfl) wqd) rfl ?_
 refine wq (wN (gN rfl rfl rfl (bool_no h94) rfl) wqd) rfl ?_
 refine wq (wN (gN rfl rfl rfl (bool_no h94) rfl) wqd) rfl ?_
 refine wq (wN (gN rfl rfl rfl (bool_no h94) rfl) wqd) rfl ?_
 refine wq (wN (gN rfl rfl rfl (bool_no h94) rfl) wqd) rfl ?_
 refine wq (q_pick false (v := bool false) (bool_no h94) rfl wqd (hw := gY rfl rfl rfl (bool_no h93))) rfl ?_
 refine wq (q_pick false (v := bool false) (bool_no h93) rfl wqd) rfl ?_
 refine wqq_nil ?_
 cases H
 exact ⟨rfl, _, rfl, gR, ⟨rfl, rfl, rfl, trivial⟩, hI89, trivial⟩
 clear hC
 rintro e r ds wd86 ⟨rfl, G84, rfl, hG85, hHas, hI87, _⟩
 rw [hHas.eq]; clear hHas
 refine hK82 _ _ _ ?_
 by_cases h102 : v83 = true
 replace H := iY h102 H
 refine wpc_true (bval_yes h102) ?_
 refine sr fun K103 hK104 => ?_
 refine q_as (v := bool false) rfl ?_
 refine nl ?_
 refine hK104 _ _ _ ?_
 refine wpc_ret ?_
 have hI105 := Hp.front hI87 1 rfl
 have hI106 := Hp.sub hI105 (sk (sd se))
 cases H
 exact ⟨rfl, _, rfl, (gT hG56 hG85), ⟨rfl, trivial⟩, hI106, trivial⟩
 replace H := iN h102 H
 refine wpc_false (bval_no h102) ?_
 refine wpc_skip ?_
 refine hK65 _ _ _ ?_
 refine wpc_region ?_
 refine q_mv (v := int .i64 v39) rfl ?_
 refine q_add rfl rfl ?_
 refine q_as (v := int .i64 (w64 (v39 + 1))) rfl ?_
 refine nl ?_
 have hI107 := Hp.front hI87 1 rfl
 have hI108 := Hp.sub hI107 (sk (sd se))
 exact ih _ _ H _ _ _ (gT hG56 hG85) ⟨rfl, rfl, trivial⟩ hI108 rfl
 replace H := iN h63 H
 refine wpc_false (bool_no h63) ?_
 refine wpc_exit ?_
 cases H
 exact ⟨rfl, _, rfl, hG56, ⟨rfl, trivial⟩, hI58, trivial⟩
 clear hC
 rcases o54 with _ | _
 rintro e r ds wd48 ⟨rfl, G46, rfl, hG47, hHas, hI49, _⟩
 rw [hHas.eq]; clear hHas
 have hI109 := Hp.sub hI49 (sd se)
 cases H
 exact ⟨.inr rfl, rfl, _, ⟨_, _, rfl, rfl, rfl⟩, _, (gT hG22 hG47), hI109, rfl⟩
 rintro e r ds wd52 ⟨rfl, G50, rfl, hG51, hHas, hI53, _⟩
 rw [hHas.eq]; clear hHas
 refine hK32 _ _ _ ?_
 refine sQ fun K110 hK111 => ?_
 refine sr fun K112 hK113 => ?_
 refine q_as (v := int .i64 0) rfl ?_
 refine nl ?_
 refine hK113 _ _ _ ?_
 refine wpc_block ?_
 obtain ⟨o133, hC, H⟩ := bS H
 refine wpc_mono (Q := fun e r ds w => match (generalizing := false) o133 with | (Sum.inl _) => e = .ret ∧ ∃ (G125 : Gh), ds = [] ∧ G50 ≤ G125 ∧ Has [(2, bool false)] r ∧ Hp G125 (bx g13 [slice A2 a1.Glyphs.length c3, slice A6 a1.Kerns.length c7] 25 :: L) w ∧ True | (Sum.inr _) => e = .exit 2 ∧ ∃ (G129 : Gh), ds = [] ∧ G50 ≤ G129 ∧ Has [] r ∧ Hp G129 (bx g13 [slice A2 a1.Glyphs.length c3, slice A6 a1.Kerns.length c7] 25 :: L) w ∧ True) ?_ ?_
 clear H
 refine wpc_loop fun I hLp => ?_
 refine formeref07_Valid_l124.partial_correctness a1 (fun v118 o => ∀ (G134 : Gh) (r : Rg) (w : World), G50 ≤ G134 → Has [(1, pointer (some ⟨g13, 0, none⟩)), (5, int .i64 v118)] r → Hp G134 (bx g13 [slice A2 a1.Glyphs.length c3, slice A6 a1.Kerns.length c7] 25 :: L) w → o = o133 → I r [] w) ?_ 0 _ hC _ _ _ gR ⟨rfl, rfl, trivial⟩ hI53 rfl
 intro _ ih v118 o H G134 r wd136 hG135 hHas hI137 ho
 rw [ho] at H; clear ho
 rw [hHas.eq]; clear hHas
 refine hLp _ _ _ ?_
 refine sQ fun K138 hK139 => ?_
 refine sr fun K140 hK141 => ?_
 refine q_mv (v := int .i64 v118) rfl ?_
 refine q_fa (a' := ⟨g13, 1, none⟩) fl25_1 rfl (add_plain _ _ _) ?_
 refine q_ld hI137 0 (v := slice A6 a1.Kerns.length c7) ag23 rfl rfl rfl ?_
 refine q_len so23 rfl ?_
 refine q_lss rfl rfl ?_
 refine nl ?_
 refine hK141 _ _ _ ?_
 by_cases h142 : v118 < (a1.Kerns.length : Int)
 replace H := iY h142 H
 refine wpc_true (bool_yes h142) ?_
 refine wpc_skip ?_
 refine hK139 _ _ _ ?_
 refine sQ fun K143 hK144 => ?_
 refine wpc_block ?_
 refine sr fun K145 hK146 => ?_
 refine q_fa (a' := ⟨g13, 1, none⟩) fl25_1 rfl (add_plain _ _ _) ?_
 refine q_ld hI137 0 (v := slice A6 a1.Kerns.length c7) ag23 rfl rfl rfl ?_
 refine q_mv (v := int .i64 v118) rfl ?_
 obtain ⟨⟨h147, h147'⟩, H⟩ := iS H
 obtain ⟨ad148, cs149, hA150, hK151, hn152, hc153⟩ := Dat.get (Dat.mono (gT (gT hG22 hG51) hG135) hD9) z_api_Kern (v118) h147 h147'
 obtain ⟨rfl⟩ := open_api_Kern hK151
 refine q_ia el23 rfl hA150 rfl h147 h147' ?_
 refine q_lfA hI137 ag114 rfl (cs := [int .u8 ((a1.Kerns.getD (Int.toNat v118) z_api_Kern).Left), int .u8 ((a1.Kerns.getD (Int.toNat v118) z_api_Kern).Right), int .i64 ((a1.Kerns.getD (Int.toNat v118) z_api_Kern).By)]) rfl (fun j v hv => gR.cel _ _ (hc153 j v hv)) ?_
 refine q_alloc hI137 ze114 (fun g155 wd156 hI157 => ?_)
 refine q_stA hI157 0 (v := agg [int .u8 ((a1.Kerns.getD (Int.toNat v118) z_api_Kern).Left), int .u8 ((a1.Kerns.getD (Int.toNat v118) z_api_Kern).Right), int .i64 ((a1.Kerns.getD (Int.toNat v118) z_api_Kern).By)].toArray) (cs := [int .u8 ((a1.Kerns.getD (Int.toNat v118) z_api_Kern).Left), int .u8 ((a1.Kerns.getD (Int.toNat v118) z_api_Kern).Right), int .i64 ((a1.Kerns.getD (Int.toNat v118) z_api_Kern).By)]) (vs' := [int .u8 ((a1.Kerns.getD (Int.toNat v118) z_api_Kern).Left), int .u8 ((a1.Kerns.getD (Int.toNat v118) z_api_Kern).Right), int .i64 ((a1.Kerns.getD (Int.toNat v118) z_api_Kern).By)]) ag114 rfl rfl rfl rfl rfl rfl (Nat.le_of_ble_eq_true rfl) rfl (fun wd158 hI159 => ?_)
 refine nl ?_
 refine hK146 _ _ _ ?_
 refine sr fun K160 hK161 => ?_
 refine q_ldA hI159 1 (cs := [slice A2 a1.Glyphs.length c3, slice A6 a1.Kerns.length c7]) ag25 rfl rfl rfl rfl ?_
 refine q_fa (a' := ⟨g155, 0, none⟩) fl114_0 rfl (add_plain _ _ _) ?_
 refine q_ld hI159 0 (v := int .u8 ((a1.Kerns.getD (Int.toNat v118) z_api_Kern).Left)) ag5 rfl rfl rfl ?_
 obtain ⟨y167, hy162, H⟩ := bS H
 refine q_cv (vs := [agg [slice A2 a1.Glyphs.length c3, slice A6 a1.Kerns.length c7].toArray, int .u8 ((a1.Kerns.getD (Int.toNat v118) z_api_Kern).Left)]) bo74 rfl rfl (formeref07_Glyph_spec (a1 := a1) (a10 := (a1.Kerns.getD (Int.toNat v118) z_api_Kern).Left) hI159 hl4 (Dat.mono (gT (gT hG22 hG51) hG135) hD5) hl8 (Dat.mono (gT (gT hG22 hG51) hG135) hD9) hy162) ?_
 rintro _ wd165 ⟨G163, hG164, hI166, rfl⟩
 refine ⟨_, rfl, ?_⟩
 refine q_as (v := int .i64 y167) rfl ?_
 refine nl ?_
 refine hK161 _ _ _ ?_
 refine sr fun K168 hK169 => ?_
 refine q_ldA hI166 1 (cs := [slice A2 a1.Glyphs.length c3, slice A6 a1.Kerns.length c7]) ag25 rfl rfl rfl rfl ?_
 refine q_fa (a' := ⟨g155, 1, none⟩) fl114_1 rfl (add_plain _ _ _) ?_
 refine q_ld hI166 0 (v := int .u8 ((a1.Kerns.getD (Int.toNat v118) z_api_Kern).Right)) ag5 rfl rfl rfl ?_
 obtain ⟨y175, hy170, H⟩ := bS H
 refine q_cv (vs := [agg [slice A2 a1.Glyphs.length c3, slice A6 a1.Kerns.length c7].toArray, int .u8 ((a1.Kerns.getD (Int.toNat v118) z_api_Kern).Right)]) bo74 rfl rfl (formeref07_Glyph_spec (a1 := a1) (a10 := (a1.Kerns.getD (Int.toNat v118) z_api_Kern).Right) hI166 hl4 (Dat.mono (gT (gT (gT hG22 hG51) hG135) hG164) hD5) hl8 (Dat.mono (gT (gT (gT hG22 hG51) hG135) hG164) hD9) hy170) ?_
 rintro _ wd173 ⟨G171, hG172, hI174, rfl⟩
 refine ⟨_, rfl, ?_⟩
 refine q_as (v := int .i64 y175) rfl ?_
 refine nl ?_
 refine hK169 _ _ _ ?_
 refine sQ fun K176 hK177 => ?_
 refine sQ fun K178 hK179 => ?_
 obtain ⟨v180, hC, H⟩ := bS H
 refine wpc_mono (Q := fun e r ds w => e = .normal ∧ ∃ (G181 : Gh), ds = [] ∧ G171 ≤ G181 ∧ Has [(1, pointer (some ⟨g13, 0, none⟩)), (5, int .i64 v118), (6, pointer (some ⟨g155, 0, none⟩)), (112, bool v180)] r ∧ Hp G181 (bx g155 [int .u8 ((a1.Kerns.getD (Int.toNat v118) z_api_Kern).Left), int .u8 ((a1.Kerns.getD (Int.toNat v118) z_api_Kern).Right), int .i64 ((a1.Kerns.getD (Int.toNat v118) z_api_Kern).By)] 114 :: bx g13 [slice A2 a1.Glyphs.length c3, slice A6 a1.Kerns.length c7] 25 :: L) w ∧ True) ?_ ?_
 replace H := hC
 refine wpc_quiet mixo (by kernel_rfl) ?_
 have hI186 := hI174.drew
 refine wq (q_mv (v := int .i64 y167) rfl wqd) rfl ?_
 refine wq (q_lss rfl rfl wqd) rfl ?_
 refine wq (q_mv (v := bool (decide (y167 < 0))) rfl wqd) rfl ?_
 by_cases h187 : y167 < 0
 replace H := iY h187 H
 refine wq (wN (gN rfl rfl rfl (bool_yes h187) rfl) wqd) rfl ?_
 refine wq (wN (gN rfl rfl rfl (bool_yes h187) rfl) wqd) rfl ?_
 refine wq (q_pick true (v := bool true) (bool_yes h187) rfl wqd) rfl ?_
 refine wq (q_mv (v := bool true) rfl wqd) rfl ?_
 refine wq (wN (gN rfl rfl rfl rfl rfl) wqd) rfl ?_
 refine wq (wN (gN rfl rfl rfl rfl rfl) wqd) rfl ?_
 refine wq (wN (gN rfl rfl rfl rfl rfl) wqd) rfl ?_
 refine wq (q_pick true (v := bool true) rfl rfl wqd) rfl ?_
 refine wq (q_mv (v := bool true) rfl wqd) rfl ?_
 refine wq (wN (gN rfl rfl rfl rfl rfl) wqd) rfl ?_
 refine wq (wN (gN rfl rfl rfl rfl rfl) wqd) rfl ?_
 refine wq (wN (gN rfl rfl rfl rfl rfl) wqd) rfl ?_
 refine wq (q_pick true (v := bool true) rfl rfl wqd) rfl ?_
 refine wq (q_mv (v := bool true) rfl wqd) rfl ?_
 refine wq (wN (gN rfl rfl rfl rfl rfl) wqd) rfl ?_
 refine wq (wN (gN rfl rfl rfl rfl rfl) wqd) rfl ?_
 refine wq (wN (gN rfl rfl rfl rfl rfl) wqd) rfl ?_
 refine wq (wN (gN rfl rfl rfl rfl rfl) wqd) rfl ?_
 refine wq (wN (gN rfl rfl rfl rfl rfl) wqd) rfl ?_
 refine wq (wN (gN rfl rfl rfl rfl rfl) wqd) rfl ?_
 refine wq (wN (gN rfl rfl rfl rfl rfl) wqd) rfl ?_
 refine wq (wN (gN rfl rfl rfl rfl rfl) wqd) rfl ?_
 refine wq (wN (gN rfl rfl rfl rfl rfl) wqd) rfl ?_
 refine wq (wN (gN rfl rfl rfl rfl rfl) wqd) rfl ?_
 refine wq (q_pick true (v := bool true) rfl rfl wqd) rfl ?_
 refine wqq_nil ?_
 cases H
 exact ⟨rfl, _, rfl, gR, ⟨rfl, rfl, rfl, rfl, trivial⟩, hI186, trivial⟩
 replace H := iN h187 H
 refine wq (q_mv (v := int .i64 y175) rfl wqd (hw := gY rfl rfl rfl (bool_no h187))) rfl ?_
 refine wq (q_lss rfl rfl wqd (hw := gY rfl rfl rfl (bool_no h187))) rfl ?_
 refine wq (q_pick false (v := bool (decide (y175 < 0))) (bool_no h187) rfl wqd) rfl ?_
 refine wq (q_mv (v := bool (decide (y175 < 0))) rfl wqd) rfl ?_
 by_cases h188 : y175 < 0
 replace H := iY h188 H
 refine wq (wN (gN rfl rfl rfl (bool_yes h188) rfl) wqd) rfl ?_
 refine wq (wN (gN rfl rfl rfl (bool_yes h188) rfl) wqd) rfl ?_
 refine wq (wN (gN rfl rfl rfl (bool_yes h188) rfl) wqd) rfl ?_
 refine wq (q_pick true (v := bool true) (bool_yes h188) rfl wqd) rfl ?_
 refine wq (q_mv (v := bool true) rfl wqd) rfl ?_
 refine wq (wN (gN rfl rfl rfl rfl rfl) wqd) rfl ?_
 refine wq (wN (gN rfl rfl rfl rfl rfl) wqd) rfl ?_
 refine wq (wN (gN rfl rfl rfl rfl rfl) wqd) rfl ?_
 refine wq (q_pick true (v := bool true) rfl rfl wqd) rfl ?_
 refine wq (q_mv (v := bool true) rfl wqd) rfl ?_
 refine wq (wN (gN rfl rfl rfl rfl rfl) wqd) rfl ?_
 refine wq (wN (gN rfl rfl rfl rfl rfl) wqd) rfl ?_
 refine wq (wN (gN rfl rfl rfl rfl rfl) wqd) rfl ?_
 refine wq (wN (gN rfl rfl rfl rfl rfl) wqd) rfl ?_
 refine wq (wN (gN rfl rfl rfl rfl rfl) wqd) rfl ?_
 refine wq (wN (gN rfl rfl rfl rfl rfl) wqd) rfl ?_
 refine wq (wN (gN rfl rfl rfl rfl rfl) wqd) rfl ?_
 refine wq (wN (gN rfl rfl rfl rfl rfl) wqd) rfl ?_
 refine wq (wN (gN rfl rfl rfl rfl rfl) wqd) rfl ?_
 refine wq (wN (gN rfl rfl rfl rfl rfl) wqd) rfl ?_
 refine wq (q_pick true (v := bool true) rfl rfl wqd) rfl ?_
 refine wqq_nil ?_
 cases H
 exact ⟨rfl, _, rfl, gR, ⟨rfl, rfl, rfl, rfl, trivial⟩, hI186, trivial⟩
 replace H := iN h188 H
 refine wq (q_fa (a' := ⟨g155, 2, none⟩) fl114_2 rfl (add_plain _ _ _) wqd (hw := gY rfl rfl rfl (bool_no h188))) rfl ?_
 refine wq (q_ld hI186 0 (v := int .i64 ((a1.Kerns.getD (Int.toNat v118) z_api_Kern).By)) ag3 rfl rfl rfl wqd (hw := gY rfl rfl rfl (bool_no h188))) rfl ?_
 refine wq (q_lss rfl rfl wqd (hw := gY rfl rfl rfl (bool_no h188))) rfl ?_
 refine wq (q_pick false (v := bool (decide (((a1.Kerns.getD (Int.toNat v118) z_api_Kern).By) < (-1000)))) (bool_no h188) rfl wqd) rfl ?_
 refine wq (q_mv (v := bool (decide (((a1.Kerns.getD (Int.toNat v118) z_api_Kern).By) < (-1000)))) rfl wqd) rfl ?_
 by_cases h189 : ((a1.Kerns.getD (Int.toNat v118) z_api_Kern).By) < (-1000)
 replace H := iY h189 H
 refine wq (wN (gN rfl rfl rfl (bool_yes h189) rfl) wqd) rfl ?_
 refine wq (wN (gN rfl rfl rfl (bool_yes h189) rfl) wqd) rfl ?_
 refine wq (wN (gN rfl rfl rfl (bool_yes h189) rfl) wqd) rfl ?_
 refine wq (q_pick true (v := bool true) (bool_yes h189) rfl wqd) rfl ?_
 refine wq (q_mv (v := bool true) rfl wqd) rfl ?_
 refine wq (wN (gN rfl rfl rfl rfl rfl) wqd) rfl ?_
 refine wq (wN (gN rfl rfl rfl rfl rfl) wqd) rfl ?_
 refine wq (wN (gN rfl rfl rfl rfl rfl) wqd) rfl ?_
 refine wq (wN (gN rfl rfl rfl rfl rfl) wqd) rfl ?_
 refine wq (wN (gN rfl rfl rfl rfl rfl) wqd) rfl ?_
 refine wq (wN (gN rfl rfl rfl rfl rfl) wqd) rfl ?_
 refine wq (wN (gN rfl rfl rfl rfl rfl) wqd) rfl ?_
 refine wq (wN (gN rfl rfl rfl rfl rfl) wqd) rfl ?_
 refine wq (wN (gN rfl rfl rfl rfl rfl) wqd) rfl ?_
 refine wq (wN (gN rfl rfl rfl rfl rfl) wqd) rfl ?_
 refine wq (q_pick true (v := bool true) rfl rfl wqd) rfl ?_
 refine wqq_nil ?_
 cases H
 exact ⟨rfl, _, rfl, gR, ⟨rfl, rfl, rfl, rfl, trivial⟩, hI186, trivial⟩
 replace H := iN h189 H
 refine wq (q_fa (a' := ⟨g155, 2, none⟩) fl114_2 rfl (add_plain _ _ _) wqd (hw := gY rfl rfl rfl (bool_no h189))) rfl ?_
 refine wq (q_ld hI186 0 (v := int .i64 ((a1.Kerns.getD (Int.toNat v118) z_api_Kern).By)) ag3 rfl rfl rfl wqd (hw := gY rfl rfl rfl (bool_no h189))) rfl ?_
 refine wq (q_gtr rfl rfl wqd (hw := gY rfl rfl rfl (bool_no h189))) rfl ?_
 refine wq (q_pick false (v := bool (decide (1000 < ((a1.Kerns.getD (Int.toNat v118) z_api_Kern).By)))) (bool_no h189) rfl wqd) rfl ?_
 refine wq (q_mv (v := bool (decide (1000 < ((a1.Kerns.getD (Int.toNat v118) z_api_Kern).By)))) rfl wqd) rfl ?_
 by_cases h190 : 1000 < ((a1.Kerns.getD (Int.toNat v118) z_api_Kern).By)
 replace H := iY h190 H
 refine wq (wN (gN rfl rfl rfl (bool_yes h190) rfl) wqd) rfl ?_
 refine wq (wN (gN rfl rfl rfl (bool_yes h190) rfl) wqd) rfl ?_
 refine wq (wN (gN rfl rfl rfl (bool_yes h190) rfl) wqd) rfl ?_
 refine wq (wN (gN rfl rfl rfl (bool_yes h190) rfl) wqd) rfl ?_
 refine wq (wN (gN rfl rfl rfl (bool_yes h190) rfl) wqd) rfl ?_
 refine wq (wN (gN rfl rfl rfl (bool_yes h190) rfl) wqd) rfl ?_
 refine wq (wN (gN rfl rfl rfl (bool_yes h190) rfl) wqd) rfl ?_
 refine wq (wN (gN rfl rfl rfl (bool_yes h190) rfl) wqd) rfl ?_
 refine wq (wN (gN rfl rfl rfl (bool_yes h190) rfl) wqd) rfl ?_
 refine wq (wN (gN rfl rfl rfl (bool_yes h190) rfl) wqd) rfl ?_
 refine wq (q_pick true (v := bool true) (bool_yes h190) rfl wqd) rfl ?_
 refine wqq_nil ?_
 cases H
 exact ⟨rfl, _, rfl, gR, ⟨rfl, rfl, rfl, rfl, trivial⟩, hI186, trivial⟩
 replace H := iN h190 H
 refine wq (q_fa (a' := ⟨g13, 0, none⟩) fl25_0 rfl (add_plain _ _ _) wqd (hw := gY rfl rfl rfl (bool_no h190))) rfl ?_
 refine wq (q_ld hI186 1 (v := slice A2 a1.Glyphs.length c3) ag22 rfl rfl rfl wqd (hw := gY rfl rfl rfl (bool_no h190))) rfl ?_
 refine wq (q_mv (v := int .i64 y167) rfl wqd (hw := gY rfl rfl rfl (bool_no h190))) rfl ?_
 obtain ⟨⟨h191, h191'⟩, H⟩ := iS H
 obtain ⟨ad192, cs193, hA194, hK195, hn196, hc197⟩ := Dat.get (Dat.mono (gT (gT (gT (gT hG22 hG51) hG135) hG164) hG172) hD5) z_api_Glyph (y167) h191 h191'
 obtain ⟨rfl⟩ := open_api_Glyph hK195
 refine wq (q_ia el22 rfl hA194 rfl h191 h191' wqd (hw := gY rfl rfl rfl (bool_no h190))) rfl ?_
 refine wq (q_fa (a' := (ad192.add (Int.toNat y167 * 2)).add 1) fl98_1 rfl rfl wqd (hw := gY rfl rfl rfl (bool_no h190))) rfl ?_
 refine wq (q_lf hI186 (v := int .i64 ((a1.Glyphs.getD (Int.toNat y167) z_api_Glyph).Advance)) ag3 rfl (gR.cel _ _ (hc197 1 _ rfl)) wqd (hw := gY rfl rfl rfl (bool_no h190))) rfl ?_
 refine wq (q_fa (a' := ⟨g155, 2, none⟩) fl114_2 rfl (add_plain _ _ _) wqd (hw := gY rfl rfl rfl (bool_no h190))) rfl ?_
 refine wq (q_ld hI186 0 (v := int .i64 ((a1.Kerns.getD (Int.toNat v118) z_api_Kern).By)) ag3 rfl rfl rfl wqd (hw := gY rfl rfl rfl (bool_no h190))) rfl ?_
 refine wq (q_add rfl rfl wqd (hw := gY rfl rfl rfl (bool_no h190))) rfl ?_
 refine wq (q_lss rfl rfl wqd (hw := gY rfl rfl rfl (bool_no h190))) rfl ?_
 refine wq (q_pick false (v := bool (decide ((w64 (((a1.Glyphs.getD (Int.toNat y167) z_api_Glyph).Advance) + ((a1.Kerns.getD (Int.toNat v118) z_api_Kern).By))) < 0))) (bool_no h190) rfl wqd) rfl ?_
 refine wqq_nil ?_
 cases H
 exact ⟨rfl, _, rfl, gR, ⟨rfl, rfl, rfl, rfl, trivial⟩, hI186, trivial⟩
 clear hC
 rintro e r ds wd183 ⟨rfl, G181, rfl, hG182, hHas, hI184, _⟩
 rw [hHas.eq]; clear hHas
 refine hK179 _ _ _ ?_
 by_cases h198 : v180 = true
 replace H := iY h198 H
 refine wpc_true (bval_yes h198) ?_
 refine sr fun K199 hK200 => ?_
 refine q_as (v := bool false) rfl ?_
 refine nl ?_
 refine hK200 _ _ _ ?_
 refine wpc_ret ?_
 have hI201 := Hp.front hI184 1 rfl
 have hI202 := Hp.sub hI201 (sk (sd se))
 cases H
 exact ⟨rfl, _, rfl, (gT (gT (gT hG135 hG164) hG172) hG182), ⟨rfl, trivial⟩, hI202, trivial⟩
 replace H := iN h198 H
 refine wpc_false (bval_no h198) ?_
 refine wpc_skip ?_
 refine hK177 _ _ _ ?_
 refine sQ fun K203 hK204 => ?_
 obtain ⟨v205, hC, H⟩ := bS H
 refine wpc_mono (Q := fun e r ds w => e = .normal ∧ ∃ (G206 : Gh), ds = [] ∧ G181 ≤ G206 ∧ Has [(1, pointer (some ⟨g13, 0, none⟩)), (5, int .i64 v118), (150, bool v205)] r ∧ Hp G206 (bx g155 [int .u8 ((a1.Kerns.getD (Int.toNat v118) z_api_Kern).Left), int .u8 ((a1.Kerns.getD (Int.toNat v118) z_api_Kern).Right), int .i64 ((a1.Kerns.getD (Int.toNat v118) z_api_Kern).By)] 114 :: bx g13 [slice A2 a1.Glyphs.length c3, slice A6 a1.Kerns.length c7] 25 :: L) w ∧ True) ?_ ?_
 replace H := hC
 refine wpc_quiet mixo (by kernel_rfl) ?_
 have hI211 := hI184.drew
 refine wq (q_mv (v := int .i64 v118) rfl wqd) rfl ?_
 refine wq (q_gtr rfl rfl wqd) rfl ?_
 refine wq (q_mv (v := bool (decide (0 < v118))) rfl wqd) rfl ?_
 by_cases h212 : 0 < v118
 replace H := iY h212 H
 refine wq (q_fa (a' := ⟨g155, 0, none⟩) fl114_0 rfl (add_plain _ _ _) wqd (hw := gY rfl rfl rfl (bool_yes h212))) rfl ?_
 refine wq (q_ld hI211 0 (v := int .u8 ((a1.Kerns.getD (Int.toNat v118) z_api_Kern).Left)) ag5 rfl rfl rfl wqd (hw := gY rfl rfl rfl (bool_yes h212))) rfl ?_
 refine wq (q_fa (a' := ⟨g13, 1, none⟩) fl25_1 rfl (add_plain _ _ _) wqd (hw := gY rfl rfl rfl (bool_yes h212))) rfl ?_
 refine wq (q_ld hI211 1 (v := slice A6 a1.Kerns.length c7) ag23 rfl rfl rfl wqd (hw := gY rfl rfl rfl (bool_yes h212))) rfl ?_
 refine wq (q_mv (v := int .i64 v118) rfl wqd (hw := gY rfl rfl rfl (bool_yes h212))) rfl ?_
 refine wq (q_sub rfl rfl wqd (hw := gY rfl rfl rfl (bool_yes h212))) rfl ?_
 obtain ⟨⟨h213, h213'⟩, H⟩ := iS H
 obtain ⟨ad214, cs215, hA216, hK217, hn218, hc219⟩ := Dat.get (Dat.mono (gT (gT (gT (gT (gT hG22 hG51) hG135) hG164) hG172) hG182) hD9) z_api_Kern (w64 (v118 - 1)) h213 h213'
 obtain ⟨rfl⟩ := open_api_Kern hK217
 refine wq (q_ia el23 rfl hA216 rfl h213 h213' wqd (hw := gY rfl rfl rfl (bool_yes h212))) rfl ?_
 refine wq (q_fa (a' := (ad214.add (Int.toNat (w64 (v118 - 1)) * 3)).add 0) fl114_0 rfl rfl wqd (hw := gY rfl rfl rfl (bool_yes h212))) rfl ?_
 refine wq (q_lf hI211 (v := int .u8 ((a1.Kerns.getD (Int.toNat (w64 (v118 - 1))) z_api_Kern).Left)) ag5 rfl (gR.cel _ _ (hc219 0 _ rfl)) wqd (hw := gY rfl rfl rfl (bool_yes h212))) rfl ?_
 refine wq (q_lss rfl rfl wqd (hw := gY rfl rfl rfl (bool_yes h212))) rfl ?_
 refine wq (q_mv (v := bool (decide (((a1.Kerns.getD (Int.toNat v118) z_api_Kern).Left) < ((a1.Kerns.getD (Int.toNat (w64 (v118 - 1))) z_api_Kern).Left)))) rfl wqd (hw := gY rfl rfl rfl (bool_yes h212))) rfl ?_
 by_cases h220 : ((a1.Kerns.getD (Int.toNat v118) z_api_Kern).Left) < ((a1.Kerns.getD (Int.toNat (w64 (v118 - 1))) z_api_Kern).Left)
 replace H := iY h220 H
 refine wq (wN (gN rfl rfl rfl (bool_yes h220) rfl) wqd) rfl ?_
 refine wq (wN (gN rfl rfl rfl (bool_yes h220) rfl) wqd) rfl ?_
 refine wq (wN (gN rfl rfl rfl (bool_yes h220) rfl) wqd) rfl ?_
 refine wq (wN (gN rfl rfl rfl (bool_yes h220) rfl) wqd) rfl ?_
 refine wq (wN (gN rfl rfl rfl (bool_yes h220) rfl) wqd) rfl ?_
 refine wq (wN (gN rfl rfl rfl (bool_yes h220) rfl) wqd) rfl ?_
 refine wq (wN (gN rfl rfl rfl (bool_yes h220) rfl) wqd) rfl ?_
 refine wq (wN (gN rfl rfl rfl (bool_yes h220) rfl) wqd) rfl ?_
 refine wq (wN (gN rfl rfl rfl (bool_yes h220) rfl) wqd) rfl ?_
 refine wq (wN (gN rfl rfl rfl (bool_yes h220) rfl) wqd) rfl ?_
 refine wq (wN (gN rfl rfl rfl (bool_yes h220) rfl) wqd) rfl ?_
 refine wq (wN (gN rfl rfl rfl rfl rfl) wqd) rfl ?_
 refine wq (wN (gN rfl rfl rfl rfl rfl) wqd) rfl ?_
 refine wq (wN (gN rfl rfl rfl rfl rfl) wqd) rfl ?_
 refine wq (wN (gN rfl rfl rfl rfl rfl) wqd) rfl ?_
 refine wq (wN (gN rfl rfl rfl rfl rfl) wqd) rfl ?_
 refine wq (wN (gN rfl rfl rfl rfl rfl) wqd) rfl ?_
 refine wq (wN (gN rfl rfl rfl rfl rfl) wqd) rfl ?_
 refine wq (wN (gN rfl rfl rfl rfl rfl) wqd) rfl ?_
 refine wq (wN (gN rfl rfl rfl rfl rfl) wqd) rfl ?_
 refine wq (wN (gN rfl rfl rfl rfl rfl) wqd) rfl ?_
 refine wq (wN (gN rfl rfl rfl (bool_yes h220) rfl) wqd) rfl ?_
 refine wq (q_pick true (v := bool true) (bool_yes h220) rfl wqd (hw := gY rfl rfl rfl (bool_yes h212))) rfl ?_
 refine wq (q_pick true (v := bool true) (bool_yes h212) rfl wqd) rfl ?_
 refine wqq_nil ?_
 cases H
 exact ⟨rfl, _, rfl, gR, ⟨rfl, rfl, rfl, trivial⟩, hI211, trivial⟩
 replace H := iN h220 H
 refine wq (q_fa (a' := ⟨g155, 0, none⟩) fl114_0 rfl (add_plain _ _ _) wqd (hw := gY rfl rfl rfl (bool_no h220))) rfl ?_
 refine wq (q_ld hI211 0 (v := int .u8 ((a1.Kerns.getD (Int.toNat v118) z_api_Kern).Left)) ag5 rfl rfl rfl wqd (hw := gY rfl rfl rfl (bool_no h220))) rfl ?_
 refine wq (q_fa (a' := ⟨g13, 1, none⟩) fl25_1 rfl (add_plain _ _ _) wqd (hw := gY rfl rfl rfl (bool_no h220))) rfl ?_
 refine wq (q_ld hI211 1 (v := slice A6 a1.Kerns.length c7) ag23 rfl rfl rfl wqd (hw := gY rfl rfl rfl (bool_no h220))) rfl ?_
 refine wq (q_mv (v := int .i64 v118) rfl wqd (hw := gY rfl rfl rfl (bool_no h220))) rfl ?_
 refine wq (q_sub rfl rfl wqd (hw := gY rfl rfl rfl (bool_no h220))) rfl ?_
 obtain ⟨⟨h221, h221'⟩, H⟩ := iS H
 obtain ⟨ad222, cs223, hA224, hK225, hn226, hc227⟩ := Dat.get (Dat.mono (gT (gT (gT (gT (gT hG22 hG51) hG135) hG164) hG172) hG182) hD9) z_api_Kern (w64 (v118 - 1)) h221 h221'
 obtain ⟨rfl⟩ := open_api_Kern hK225
 refine wq (q_ia el23 rfl hA224 rfl h221 h221' wqd (hw := gY rfl rfl rfl (bool_no h220))) rfl ?_
 refine wq (q_fa (a' := (ad222.add (Int.toNat (w64 (v118 - 1)) * 3)).add 0) fl114_0 rfl rfl wqd (hw := gY rfl rfl rfl (bool_no h220))) rfl ?_
 refine wq (q_lf hI211 (v := int .u8 ((a1.Kerns.getD (Int.toNat (w64 (v118 - 1))) z_api_Kern).Left)) ag5 rfl (gR.cel _ _ (hc227 0 _ rfl)) wqd (hw := gY rfl rfl rfl (bool_no h220))) rfl ?_
 refine wq (q_eql rfl rfl wqd (hw := gY rfl rfl rfl (bool_no h220))) rfl ?_
 refine wq (q_mv (v := bool (decide (((a1.Kerns.getD (Int.toNat v118) z_api_Kern).Left) = ((a1.Kerns.getD (Int.toNat (w64 (v118 - 1))) z_api_Kern).Left)))) rfl wqd (hw := gY rfl rfl rfl (bool_no h220))) rfl ?_
 by_cases h228 : ((a1.Kerns.getD (Int.toNat v118) z_api_Kern).Left) = ((a1.Kerns.getD (Int.toNat (w64 (v118 - 1))) z_api_Kern).Left)
 replace H := iY h228 H
 refine wq (q_fa (a' := ⟨g155, 1, none⟩) fl114_1 rfl (add_plain _ _ _) wqd (hw := gY rfl rfl rfl (bool_yes h228))) rfl ?_
 refine wq (q_ld hI211 0 (v := int .u8 ((a1.Kerns.getD (Int.toNat v118) z_api_Kern).Right)) ag5 rfl rfl rfl wqd (hw := gY rfl rfl rfl (bool_yes h228))) rfl ?_
 refine wq (q_fa (a' := ⟨g13, 1, none⟩) fl25_1 rfl (add_plain _ _ _) wqd (hw := gY rfl rfl rfl (bool_yes h228))) rfl ?_
 refine wq (q_ld hI211 1 (v := slice A6 a1.Kerns.length c7) ag23 rfl rfl rfl wqd (hw := gY rfl rfl rfl (bool_yes h228))) rfl ?_
 refine wq (q_mv (v := int .i64 v118) rfl wqd (hw := gY rfl rfl rfl (bool_yes h228))) rfl ?_
 refine wq (q_sub rfl rfl wqd (hw := gY rfl rfl rfl (bool_yes h228))) rfl ?_
 obtain ⟨⟨h229, h229'⟩, H⟩ := iS H
 obtain ⟨ad230, cs231, hA232, hK233, hn234, hc235⟩ := Dat.get (Dat.mono (gT (gT (gT (gT (gT hG22 hG51) hG135) hG164) hG172) hG182) hD9) z_api_Kern (w64 (v118 - 1)) h229 h229'
 obtain ⟨rfl⟩ := open_api_Kern hK233
 refine wq (q_ia el23 rfl hA232 rfl h229 h229' wqd (hw := gY rfl rfl rfl (bool_yes h228))) rfl ?_
 refine wq (q_fa (a' := (ad230.add (Int.toNat (w64 (v118 - 1)) * 3)).add 1) fl114_1 rfl rfl wqd (hw := gY rfl rfl rfl (bool_yes h228))) rfl ?_
 refine wq (q_lf hI211 (v := int .u8 ((a1.Kerns.getD (Int.toNat (w64 (v118 - 1))) z_api_Kern).Right)) ag5 rfl (gR.cel _ _ (hc235 1 _ rfl)) wqd (hw := gY rfl rfl rfl (bool_yes h228))) rfl ?_
 refine wq (q_leq rfl rfl wqd (hw := gY rfl rfl rfl (bool_yes h228))) rfl ?_
 refine wq (q_pick true (v := bool (decide (((a1.Kerns.getD (Int.toNat v118) z_api_Kern).Right) ≤ ((a1.Kerns.getD (Int.toNat (w64 (v118 - 1))) z_api_Kern).Right)))) (bool_yes h228) rfl wqd (hw := gY rfl rfl rfl (bool_no h220))) rfl ?_
 refine wq (q_pick false (v := bool (decide (((a1.Kerns.getD (Int.toNat v118) z_api_Kern).Right) ≤ ((a1.Kerns.getD (Int.toNat (w64 (v118 - 1))) z_api_Kern).Right)))) (bool_no h220) rfl wqd (hw := gY rfl rfl rfl (bool_yes h212))) rfl ?_
 refine wq (q_pick true (v := bool (decide (((a1.Kerns.getD (Int.toNat v118) z_api_Kern).Right) ≤ ((a1.Kerns.getD (Int.toNat (w64 (v118 - 1))) z_api_Kern).Right)))) (bool_yes h212) rfl wqd) rfl ?_
 refine wqq_nil ?_
 cases H
 exact ⟨rfl, _, rfl, gR, ⟨rfl, rfl, rfl, trivial⟩, hI211, trivial⟩
 replace H := iN h228 H
 refine wq (wN (gN rfl rfl rfl (bool_no h228) rfl) wqd) rfl ?_
 refine wq (wN (gN rfl rfl rfl (bool_no h228) rfl) wqd) rfl ?_
 refine wq (wN (gN rfl rfl rfl (bool_no h228) rfl) wqd) rfl ?_
 refine wq (wN (gN rfl rfl rfl (bool_no h228) rfl) wqd) rfl ?_
 refine wq (wN (gN rfl rfl rfl (bool_no h228) rfl) wqd) rfl ?_
 refine wq (wN (gN rfl rfl rfl (bool_no h228) rfl) wqd) rfl ?_
 refine wq (wN (gN rfl rfl rfl (bool_no h228) rfl) wqd) rfl ?_
 refine wq (wN (gN rfl rfl rfl (bool_no h228) rfl) wqd) rfl ?_
 refine wq (wN (gN rfl rfl rfl (bool_no h228) rfl) wqd) rfl ?_
 refine wq (wN (gN rfl rfl rfl (bool_no h228) rfl) wqd) rfl ?_
 refine wq (q_pick false (v := bool false) (bool_no h228) rfl wqd (hw := gY rfl rfl rfl (bool_no h220))) rfl ?_
 refine wq (q_pick false (v := bool false) (bool_no h220) rfl wqd (hw := gY rfl rfl rfl (bool_yes h212))) rfl ?_
 refine wq (q_pick true (v := bool false) (bool_yes h212) rfl wqd) rfl ?_
 refine wqq_nil ?_
 cases H
 exact ⟨rfl, _, rfl, gR, ⟨rfl, rfl, rfl, trivial⟩, hI211, trivial⟩
 replace H := iN h212 H
 refine wq (wN (gN rfl rfl rfl (bool_no h212) rfl) wqd) rfl ?_
 refine wq (wN (gN rfl rfl rfl (bool_no h212) rfl) wqd) rfl ?_
 refine wq (wN (gN rfl rfl rfl (bool_no h212) rfl) wqd) rfl ?_
 refine wq (wN (gN rfl rfl rfl (bool_no h212) rfl) wqd) rfl ?_
 refine wq (wN (gN rfl rfl rfl (bool_no h212) rfl) wqd) rfl ?_
 refine wq (wN (gN rfl rfl rfl (bool_no h212) rfl) wqd) rfl ?_
 refine wq (wN (gN rfl rfl rfl (bool_no h212) rfl) wqd) rfl ?_
 refine wq (wN (gN rfl rfl rfl (bool_no h212) rfl) wqd) rfl ?_
 refine wq (wN (gN rfl rfl rfl (bool_no h212) rfl) wqd) rfl ?_
 refine wq (wN (gN rfl rfl rfl (bool_no h212) rfl) wqd) rfl ?_
 refine wq (wN (gN rfl rfl rfl (bool_no h212) rfl) wqd) rfl ?_
 refine wq (wN (gN rfl rfl rfl rfl rfl) wqd) rfl ?_
 refine wq (wN (gN rfl rfl rfl rfl rfl) wqd) rfl ?_
 refine wq (wN (gN rfl rfl rfl rfl rfl) wqd) rfl ?_
 refine wq (wN (gN rfl rfl rfl rfl rfl) wqd) rfl ?_
 refine wq (wN (gN rfl rfl rfl rfl rfl) wqd) rfl ?_
 refine wq (wN (gN rfl rfl rfl rfl rfl) wqd) rfl ?_
 refine wq (wN (gN rfl rfl rfl rfl rfl) wqd) rfl ?_
 refine wq (wN (gN rfl rfl rfl rfl rfl) wqd) rfl ?_
 refine wq (wN (gN rfl rfl rfl rfl rfl) wqd) rfl ?_
 refine wq (wN (gN rfl rfl rfl rfl rfl) wqd) rfl ?_
 refine wq (wN (gN rfl rfl rfl rfl rfl) wqd) rfl ?_
 refine wq (wN (gN rfl rfl rfl rfl rfl) wqd) rfl ?_
 refine wq (wN (gN rfl rfl rfl rfl rfl) wqd) rfl ?_
 refine wq (wN (gN rfl rfl rfl rfl rfl) wqd) rfl ?_
 refine wq (wN (gN rfl rfl rfl rfl rfl) wqd) rfl ?_
 refine wq (wN (gN rfl rfl rfl rfl rfl) wqd) rfl ?_
 refine wq (wN (gN rfl rfl rfl rfl rfl) wqd) rfl ?_
 refine wq (wN (gN rfl rfl rfl rfl rfl) wqd) rfl ?_
 refine wq (wN (gN rfl rfl rfl rfl rfl) wqd) rfl ?_
 refine wq (wN (gN rfl rfl rfl rfl rfl) wqd) rfl ?_
 refine wq (wN (gN rfl rfl rfl rfl rfl) wqd) rfl ?_
 refine wq (wN (gN rfl rfl rfl rfl rfl) wqd) rfl ?_
 refine wq (wN (gN rfl rfl rfl (bool_no h212) rfl) wqd) rfl ?_
 refine wq (q_pick false (v := bool false) (bool_no h212) rfl wqd) rfl ?_
 refine wqq_nil ?_
 cases H
 exact ⟨rfl, _, rfl, gR, ⟨rfl, rfl, rfl, trivial⟩, hI211, trivial⟩
 clear hC
 rintro e r ds wd208 ⟨rfl, G206, rfl, hG207, hHas, hI209, _⟩
 rw [hHas.eq]; clear hHas
 refine hK204 _ _ _ ?_
 by_cases h236 : v205 = true
 replace H := iY h236 H
 refine wpc_true (bval_yes h236) ?_
 refine sr fun K237 hK238 => ?_
 refine q_as (v := bool false) rfl ?_
 refine nl ?_
 refine hK238 _ _ _ ?_
 refine wpc_ret ?_
 have hI239 := Hp.front hI209 1 rfl
 have hI240 := Hp.sub hI239 (sk (sd se))
 cases H
 exact ⟨rfl, _, rfl, (gT (gT (gT (gT hG135 hG164) hG172) hG182) hG207), ⟨rfl, trivial⟩, hI240, trivial⟩
 replace H := iN h236 H
 refine wpc_false (bval_no h236) ?_
 refine wpc_skip ?_
 refine hK144 _ _ _ ?_
 refine wpc_region ?_
 refine q_mv (v := int .i64 v118) rfl ?_
 refine q_add rfl rfl ?_
 refine q_as (v := int .i64 (w64 (v118 + 1))) rfl ?_
 refine nl ?_
 have hI241 := Hp.front hI209 1 rfl
 have hI242 := Hp.sub hI241 (sk (sd se))
 exact ih _ _ H _ _ _ (gT (gT (gT (gT hG135 hG164) hG172) hG182) hG207) ⟨rfl, rfl, trivial⟩ hI242 rfl
 replace H := iN h142 H
 refine wpc_false (bool_no h142) ?_
 refine wpc_exit ?_
 cases H
 exact ⟨rfl, _, rfl, hG135, trivial, hI137, trivial⟩
 clear hC
 rcases o133 with _ | _
 rintro e r ds wd127 ⟨rfl, G125, rfl, hG126, hHas, hI128, _⟩
 rw [hHas.eq]; clear hHas
 have hI243 := Hp.sub hI128 (sd se)
 cases H
 exact ⟨.inr rfl, rfl, _, ⟨_, _, rfl, rfl, rfl⟩, _, (gT (gT hG22 hG51) hG126), hI243, rfl⟩
 rintro e r ds wd131 ⟨rfl, G129, rfl, hG130, hHas, hI132, _⟩
 rw [hHas.eq]; clear hHas
 refine hK111 _ _ _ ?_
 refine sr fun K244 hK245 => ?_
 refine q_as (v := bool true) rfl ?_
 refine nl ?_
 refine hK245 _ _ _ ?_
 refine wpc_ret ?_
 have hI246 := Hp.sub hI132 (sd se)
 cases H
 exact ⟨.inr rfl, rfl, _, ⟨_, _, rfl, rfl, rfl⟩, _, (gT (gT hG22 hG51) hG130), hI246, rfl⟩
set_option maxHeartbeats 1000000 in
theorem formeref06_Class_spec {a1 : Int} {r1076 : Int} {G : Gh} {L : List Itm} {w : World} (hI : Hp G (L) w) (H : formeref06_Class a1 = some r1076) :
    Calls Tryz.prog 75 [int .u8 a1].toArray w fun e w' => ∃ (G' : Gh), G ≤ G' ∧ Hp G' (L) w' ∧ e = .returned (int .i64 r1076) := by
 refine calls_intro (N := 31) Tryz.func75 rfl rfl (Nat.le_of_ble_eq_true rfl) ?_
 unfold formeref06_Class at H
 refine sr fun K2 hK3 => ?_
 refine q_as (v := int .i64 0) rfl ?_
 refine nl ?_
 refine hK3 _ _ _ ?_
 refine sQ fun K4 hK5 => ?_
 refine sr fun K6 hK7 => ?_
 refine q_mv (v := int .u8 a1) rfl ?_
 refine q_geq rfl rfl ?_
 refine q_mv (v := bool (decide (97 ≤ a1))) rfl ?_
 obtain ⟨v8, hC, H⟩ := bS H
 refine wpq_split 3 (K := fun e r ds w => e = .normal ∧ ∃ (G9 : Gh), ds = [] ∧ G ≤ G9 ∧ Has [(0, int .u8 a1), (8, bool v8)] r ∧ Hp G9 (L) w ∧ True) ?_ ?_
 replace H := hC
 by_cases h14 : 97 ≤ a1
 replace H := iY h14 H
 refine q_mv (v := int .u8 a1) rfl ?_ (hw := gY rfl rfl rfl (bool_yes h14))
 refine q_leq rfl rfl ?_ (hw := gY rfl rfl rfl (bool_yes h14))
 refine q_pick true (v := bool (decide (a1 ≤ 122))) (bool_yes h14) rfl ?_
 refine nl ?_
 cases H
 exact ⟨rfl, _, rfl, gR, ⟨rfl, rfl, trivial⟩, hI, trivial⟩
 replace H := iN h14 H
 refine wN (gN rfl rfl rfl (bool_no h14) rfl) ?_
 refine wN (gN rfl rfl rfl (bool_no h14) rfl) ?_
 refine q_pick false (v := bool false) (bool_no h14) rfl ?_
 refine nl ?_
 cases H
 exact ⟨rfl, _, rfl, gR, ⟨rfl, rfl, trivial⟩, hI, trivial⟩
 clear hC
 rintro e r ds wd11 ⟨rfl, G9, rfl, hG10, hHas, hI12, _⟩
 rw [hHas.eq]; clear hHas
 refine nl ?_
 refine hK7 _ _ _ ?_
 by_cases h15 : v8 = true
 replace H := iY h15 H
 refine wpc_true (bval_yes h15) ?_
 refine sr fun K16 hK17 => ?_
 refine q_as (v := int .i64 1) rfl ?_
 refine nl ?_
 refine hK17 _ _ _ ?_
 refine wpc_ret ?_
 cases H
 exact ⟨.inr rfl, rfl, _, ⟨_, _, rfl, rfl, rfl⟩, _, hG10, hI12, rfl⟩
 replace H := iN h15 H
 refine wpc_false (bval_no h15) ?_
 refine wpc_skip ?_
 refine hK5 _ _ _ ?_
 refine sQ fun K18 hK19 => ?_
 refine sr fun K20 hK21 => ?_
 refine q_mv (v := int .u8 a1) rfl ?_
 refine q_geq rfl rfl ?_
 refine q_mv (v := bool (decide (65 ≤ a1))) rfl ?_
 obtain ⟨v22, hC, H⟩ := bS H
 refine wpq_split 3 (K := fun e r ds w => e = .normal ∧ ∃ (G23 : Gh), ds = [] ∧ G9 ≤ G23 ∧ Has [(0, int .u8 a1), (14, bool v22)] r ∧ Hp G23 (L) w ∧ True) ?_ ?_
 replace H := hC
 by_cases h28 : 65 ≤ a1
 replace H := iY h28 H
 refine q_mv (v := int .u8 a1) rfl ?_ (hw := gY rfl rfl rfl (bool_yes h28))
 refine q_leq rfl rfl ?_ (hw := gY rfl rfl rfl (bool_yes h28))
 refine q_pick true (v := bool (decide (a1 ≤ 90))) (bool_yes h28) rfl ?_
 refine nl ?_
 cases H
 exact ⟨rfl, _, rfl, gR, ⟨rfl, rfl, trivial⟩, hI12, trivial⟩
 replace H := iN h28 H
 refine wN (gN rfl rfl rfl (bool_no h28) rfl) ?_
 refine wN (gN rfl rfl rfl (bool_no h28) rfl) ?_
 refine q_pick false (v := bool false) (bool_no h28) rfl ?_
 refine nl ?_
 cases H
 exact ⟨rfl, _, rfl, gR, ⟨rfl, rfl, trivial⟩, hI12, trivial⟩
 clear hC
 rintro e r ds wd25 ⟨rfl, G23, rfl, hG24, hHas, hI26, _⟩
 rw [hHas.eq]; clear hHas
 refine nl ?_
 refine hK21 _ _ _ ?_
 by_cases h29 : v22 = true
 replace H := iY h29 H
 refine wpc_true (bval_yes h29) ?_
 refine sr fun K30 hK31 => ?_
 refine q_as (v := int .i64 2) rfl ?_
 refine nl ?_
 refine hK31 _ _ _ ?_
 refine wpc_ret ?_
 cases H
 exact ⟨.inr rfl, rfl, _, ⟨_, _, rfl, rfl, rfl⟩, _, (gT hG10 hG24), hI26, rfl⟩
 replace H := iN h29 H
 refine wpc_false (bval_no h29) ?_
 refine wpc_skip ?_
 refine hK19 _ _ _ ?_
 refine sQ fun K32 hK33 => ?_
 refine sr fun K34 hK35 => ?_
 refine q_mv (v := int .u8 a1) rfl ?_
 refine q_geq rfl rfl ?_
 refine q_mv (v := bool (decide (48 ≤ a1))) rfl ?_
 obtain ⟨v36, hC, H⟩ := bS H
 refine wpq_split 3 (K := fun e r ds w => e = .normal ∧ ∃ (G37 : Gh), ds = [] ∧ G23 ≤ G37 ∧ Has [(0, int .u8 a1), (20, bool v36)] r ∧ Hp G37 (L) w ∧ True) ?_ ?_
 replace H := hC
 by_cases h42 : 48 ≤ a1
 replace H := iY h42 H
 refine q_mv (v := int .u8 a1) rfl ?_ (hw := gY rfl rfl rfl (bool_yes h42))
 refine q_leq rfl rfl ?_ (hw := gY rfl rfl rfl (bool_yes h42))
 refine q_pick true (v := bool (decide (a1 ≤ 57))) (bool_yes h42) rfl ?_
 refine nl ?_
 cases H
 exact ⟨rfl, _, rfl, gR, ⟨rfl, rfl, trivial⟩, hI26, trivial⟩
 replace H := iN h42 H
 refine wN (gN rfl rfl rfl (bool_no h42) rfl) ?_
 refine wN (gN rfl rfl rfl (bool_no h42) rfl) ?_
 refine q_pick false (v := bool false) (bool_no h42) rfl ?_
 refine nl ?_
 cases H
 exact ⟨rfl, _, rfl, gR, ⟨rfl, rfl, trivial⟩, hI26, trivial⟩
 clear hC
 rintro e r ds wd39 ⟨rfl, G37, rfl, hG38, hHas, hI40, _⟩
 rw [hHas.eq]; clear hHas
 refine nl ?_
 refine hK35 _ _ _ ?_
 by_cases h43 : v36 = true
 replace H := iY h43 H
 refine wpc_true (bval_yes h43) ?_
 refine sr fun K44 hK45 => ?_
 refine q_as (v := int .i64 3) rfl ?_
 refine nl ?_
 refine hK45 _ _ _ ?_
 refine wpc_ret ?_
 cases H
 exact ⟨.inr rfl, rfl, _, ⟨_, _, rfl, rfl, rfl⟩, _, (gT (gT hG10 hG24) hG38), hI40, rfl⟩
 replace H := iN h43 H
 refine wpc_false (bval_no h43) ?_
 refine wpc_skip ?_
 refine hK33 _ _ _ ?_
 refine sQ fun K46 hK47 => ?_
 refine sr fun K48 hK49 => ?_
 refine q_mv (v := int .u8 a1) rfl ?_
 refine q_eql rfl rfl ?_
 refine nl ?_
 refine hK49 _ _ _ ?_
 by_cases h50 : a1 = 32
 replace H := iY h50 H
 refine wpc_true (bool_yes h50) ?_
 refine sr fun K51 hK52 => ?_
 refine q_as (v := int .i64 4) rfl ?_
 refine nl ?_
 refine hK52 _ _ _ ?_
 refine wpc_ret ?_
 cases H
 exact ⟨.inr rfl, rfl, _, ⟨_, _, rfl, rfl, rfl⟩, _, (gT (gT hG10 hG24) hG38), hI40, rfl⟩
 replace H := iN h50 H
 refine wpc_false (bool_no h50) ?_
 refine wpc_skip ?_
 refine hK47 _ _ _ ?_
 refine sQ fun K53 hK54 => ?_
 refine sr fun K55 hK56 => ?_
 refine q_mv (v := int .u8 a1) rfl ?_
 refine q_eql rfl rfl ?_
 refine nl ?_
 refine hK56 _ _ _ ?_
 by_cases h57 : a1 = 126
 replace H := iY h57 H
 refine wpc_true (bool_yes h57) ?_
 refine sr fun K58 hK59 => ?_
 refine q_as (v := int .i64 6) rfl ?_
 refine nl ?_
 refine hK59 _ _ _ ?_
 refine wpc_ret ?_
 cases H
 exact ⟨.inr rfl, rfl, _, ⟨_, _, rfl, rfl, rfl⟩, _, (gT (gT hG10 hG24) hG38), hI40, rfl⟩
 replace H := iN h57 H
 refine wpc_false (bool_no h57) ?_
 refine wpc_skip ?_
 refine hK54 _ _ _ ?_
 refine sQ fun K60 hK61 => ?_
 refine sr fun K62 hK63 => ?_
 refine q_mv (v := int .u8 a1) rfl ?_
 refine q_gtr rfl rfl ?_
 refine q_mv (v := bool (decide (32 < a1))) rfl ?_
 obtain ⟨v64, hC, H⟩ := bS H
 refine wpq_split 3 (K := fun e r ds w => e = .normal ∧ ∃ (G65 : Gh), ds = [] ∧ G37 ≤ G65 ∧ Has [(30, bool v64)] r ∧ Hp G65 (L) w ∧ True) ?_ ?_
 replace H := hC
 by_cases h70 : 32 < a1
 replace H := iY h70 H
 refine q_mv (v := int .u8 a1) rfl ?_ (hw := gY rfl rfl rfl (bool_yes h70))
 refine q_lss rfl rfl ?_ (hw := gY rfl rfl rfl (bool_yes h70))
 refine q_pick true (v := bool (decide (a1 < 126))) (bool_yes h70) rfl ?_
 refine nl ?_
 cases H
 exact ⟨rfl, _, rfl, gR, ⟨rfl, trivial⟩, hI40, trivial⟩
 replace H := iN h70 H
 refine wN (gN rfl rfl rfl (bool_no h70) rfl) ?_
 refine wN (gN rfl rfl rfl (bool_no h70) rfl) ?_
 refine q_pick false (v := bool false) (bool_no h70) rfl ?_
 refine nl ?_
 cases H
 exact ⟨rfl, _, rfl, gR, ⟨rfl, trivial⟩, hI40, trivial⟩
 clear hC
 rintro e r ds wd67 ⟨rfl, G65, rfl, hG66, hHas, hI68, _⟩
 rw [hHas.eq]; clear hHas
 refine nl ?_
 refine hK63 _ _ _ ?_
 by_cases h71 : v64 = true
 replace H := iY h71 H
 refine wpc_true (bval_yes h71) ?_
 refine sr fun K72 hK73 => ?_
 refine q_as (v := int .i64 5) rfl ?_
 refine nl ?_
 refine hK73 _ _ _ ?_
 refine wpc_ret ?_
 cases H
 exact ⟨.inr rfl, rfl, _, ⟨_, _, rfl, rfl, rfl⟩, _, (gT (gT (gT hG10 hG24) hG38) hG66), hI68, rfl⟩
 replace H := iN h71 H
 refine wpc_false (bval_no h71) ?_
 refine wpc_skip ?_
 refine hK61 _ _ _ ?_
 refine sr fun K74 hK75 => ?_
 refine q_as (v := int .i64 0) rfl ?_
 refine nl ?_
 refine hK75 _ _ _ ?_
 refine wpc_ret ?_
 cases H
 exact ⟨.inr rfl, rfl, _, ⟨_, _, rfl, rfl, rfl⟩, _, (gT (gT (gT hG10 hG24) hG38) hG66), hI68, rfl⟩
set_option maxHeartbeats 1000000 in
theorem formeref06_Valid_spec {a1 : ByteArray} {r1053 : Bool} {G : Gh} {L : List Itm} {w : World} (hI : Hp G (L) w) (H : formeref06_Valid a1 = some r1053) :
    Calls Tryz.prog 41 [string a1].toArray w fun e w' => ∃ (G' : Gh), G ≤ G' ∧ Hp G' (L) w' ∧ e = .returned (bool r1053) := by
 refine calls_intro (N := 18) Tryz.func41 rfl rfl (Nat.le_of_ble_eq_true rfl) ?_
 unfold formeref06_Valid at H
 refine sr fun K2 hK3 => ?_
 refine q_as (v := bool false) rfl ?_
 refine nl ?_
 refine hK3 _ _ _ ?_
 refine sQ fun K4 hK5 => ?_
 refine sr fun K6 hK7 => ?_
 refine q_as (v := int .i64 0) rfl ?_
 refine nl ?_
 refine hK7 _ _ _ ?_
 refine wpc_block ?_
 obtain ⟨o27, hC, H⟩ := bS H
 refine wpc_mono (Q := fun e r ds w => match (generalizing := false) o27 with | (Sum.inl _) => e = .ret ∧ ∃ (G19 : Gh), ds = [] ∧ G ≤ G19 ∧ Has [(2, bool false)] r ∧ Hp G19 (L) w ∧ True | (Sum.inr _) => e = .exit 0 ∧ ∃ (G23 : Gh), ds = [] ∧ G ≤ G23 ∧ Has [(0, string a1)] r ∧ Hp G23 (L) w ∧ True) ?_ ?_
 clear H
 refine wpc_loop fun I hLp => ?_
 refine formeref06_Valid_l18.partial_correctness a1 (fun v12 o => ∀ (G28 : Gh) (r : Rg) (w : World), G ≤ G28 → Has [(0, string a1), (3, int .i64 v12)] r → Hp G28 (L) w → o = o27 → I r [] w) ?_ 0 _ hC _ _ _ gR ⟨rfl, rfl, trivial⟩ hI rfl
 intro _ ih v12 o H G28 r wd30 hG29 hHas hI31 ho
 rw [ho] at H; clear ho
 rw [hHas.eq]; clear hHas
 refine hLp _ _ _ ?_
 refine sQ fun K32 hK33 => ?_
 refine sr fun K34 hK35 => ?_
 refine q_mv (v := int .i64 v12) rfl ?_
 refine q_mv (v := string a1) rfl ?_
 refine q_lens so9 rfl ?_
 refine q_lss rfl rfl ?_
 refine nl ?_
 refine hK35 _ _ _ ?_
 by_cases h36 : v12 < (a1.size : Int)
 replace H := iY h36 H
 refine wpc_true (bool_yes h36) ?_
 refine wpc_skip ?_
 refine hK33 _ _ _ ?_
 refine sQ fun K37 hK38 => ?_
 refine wpc_block ?_
 refine sr fun K39 hK40 => ?_
 refine q_mv (v := string a1) rfl ?_
 refine q_mv (v := int .i64 v12) rfl ?_
 obtain ⟨⟨h41, h41'⟩, H⟩ := iS H
 refine q_is so9 rfl rfl h41 h41' rfl ?_
 obtain ⟨y47, hy42, H⟩ := bS H
 refine q_cv (vs := [int .u8 (bt a1 v12)]) bo75 rfl rfl (formeref06_Class_spec (a1 := bt a1 v12) hI31 hy42) ?_
 rintro _ wd45 ⟨G43, hG44, hI46, rfl⟩
 refine ⟨_, rfl, ?_⟩
 refine q_eql rfl rfl ?_
 refine nl ?_
 refine hK40 _ _ _ ?_
 by_cases h48 : y47 = 0
 replace H := iY h48 H
 refine wpc_true (bool_yes h48) ?_
 refine sr fun K49 hK50 => ?_
 refine q_as (v := bool false) rfl ?_
 refine nl ?_
 refine hK50 _ _ _ ?_
 refine wpc_ret ?_
 cases H
 exact ⟨rfl, _, rfl, (gT hG29 hG44), ⟨rfl, trivial⟩, hI46, trivial⟩
 replace H := iN h48 H
 refine wpc_false (bool_no h48) ?_
 refine wpc_skip ?_
 refine hK38 _ _ _ ?_
 refine wpc_region ?_
 refine q_mv (v := int .i64 v12) rfl ?_
 refine q_add rfl rfl ?_
 refine q_as (v := int .i64 (w64 (v12 + 1))) rfl ?_
 refine nl ?_
 exact ih _ _ H _ _ _ (gT hG29 hG44) ⟨rfl, rfl, trivial⟩ hI46 rfl
 replace H := iN h36 H
 refine wpc_false (bool_no h36) ?_
 refine wpc_exit ?_
 cases H
 exact ⟨rfl, _, rfl, hG29, ⟨rfl, trivial⟩, hI31, trivial⟩
 clear hC
 rcases o27 with _ | _
 rintro e r ds wd21 ⟨rfl, G19, rfl, hG20, hHas, hI22, _⟩
 rw [hHas.eq]; clear hHas
 cases H
 exact ⟨.inr rfl, rfl, _, ⟨_, _, rfl, rfl, rfl⟩, _, hG20, hI22, rfl⟩
 rintro e r ds wd25 ⟨rfl, G23, rfl, hG24, hHas, hI26, _⟩
 rw [hHas.eq]; clear hHas
 refine hK5 _ _ _ ?_
 refine sr fun K51 hK52 => ?_
 refine q_mv (v := string a1) rfl ?_
 refine q_lens so9 rfl ?_
 refine q_leq rfl rfl ?_
 refine q_as (v := bool (decide ((a1.size : Int) ≤ 2000))) rfl ?_
 refine nl ?_
 refine hK52 _ _ _ ?_
 refine wpc_ret ?_
 cases H
 exact ⟨.inr rfl, rfl, _, ⟨_, _, rfl, rfl, rfl⟩, _, hG24, hI26, rfl⟩
end Go.Proofs.YtokeiiakkfdmgaaGreatDoor.LG
