/-
  The walks: each function computes its plain function: printed by a program out of the translation.
-/
import Derived.Test.YtlcfemplcaejgaaSe
set_option linter.unusedVariables false
set_option linter.unusedSimpArgs false
set_option maxRecDepth 100000
namespace Go.Proofs.Ytlcfemplcaejgaa.LG
open Go Go.LG Go.RowKit Go.Value
set_option maxHeartbeats 20000000
theorem formelaw40_head_spec {r1001 G L w} (H : formelaw40_head = some r1001) (hI : Hp G L w) :
    Calls Try.prog 6 [].toArray w fun e w' => Hp G L w' ∧ e = .returned (bool r1001) := by
 refine calls_intro (N := 118) Try.func6 z z (Nat.le_of_ble_eq_true z)<|?_
 unfold formelaw40_head at H
 refine sr fun K1 hK2=>asn z<|nl<|hK2 _ _ _<|sQ fun K3 hK4=>bK H fun y16 hy201 H=>bK H fun y216 hy401 H=>iK H fun⟨h412, h412', h412''⟩H=>bK2 H fun y427 y434 hy612 H=>?_
 refine wpc_drawL [0, 1, 0, 7, 15, 31, 31, 63, 255] (fun D r w => (D 1 = false ∧ D 2 = false ∧ D 3 = false ∧ ∃ (G' : Gh), G ≤ G' ∧ Regs [] [] [(0, 15, agg [int .i64 y16.Width, int .i64 y16.Height, int .i64 y16.Columns, int .i64 y16.Gap, int .i64 y16.Scale, int .i64 y16.Lang].toArray)] D r ∧ Hp G' (L) w) ∨ (D 1 = true ∧ D 2 = false ∧ D 3 = false ∧ ∃ (A217 : Option Addr) (c218 : Nat) (G' : Gh), G ≤ G' ∧ y216.length ≤ c218 ∧ Dat k_api_Slice G' A217 y216 ∧ Own A217 c218 ∧ Regs [] [] [(0, 15, agg [int .i64 y16.Width, int .i64 y16.Height, int .i64 y16.Columns, int .i64 y16.Gap, int .i64 y16.Scale, int .i64 y16.Lang].toArray), (1, 16, slice A217 y216.length c218)] D r ∧ Hp G' (tk (slice A217 y216.length c218) 8 36 :: L) w) ∨ (D 1 = false ∧ D 2 = true ∧ D 3 = false ∧ ∃ (g414 : Nat) (G' : Gh), G ≤ G' ∧ Dat Kd.bool G' (some ⟨g414, 0, none⟩) (List.replicate (Int.toNat 4) false) ∧ Regs [] [] [(0, 15, agg [int .i64 y16.Width, int .i64 y16.Height, int .i64 y16.Columns, int .i64 y16.Gap, int .i64 y16.Scale, int .i64 y16.Lang].toArray), (2, 17, slice (some ⟨g414, 0, none⟩) (List.replicate (Int.toNat 4) false).length ((List.replicate (Int.toNat 4) false).length))] D r ∧ Hp G' (tk (slice (some ⟨g414, 0, none⟩) (List.replicate (Int.toNat 4) false).length ((List.replicate (Int.toNat 4) false).length)) 1 4 :: L) w) ∨ (D 1 = true ∧ D 2 = true ∧ D 3 = false ∧ ∃ (A217 : Option Addr) (c218 : Nat) (g414 : Nat) (G' : Gh), G ≤ G' ∧ y216.length ≤ c218 ∧ Dat k_api_Slice G' A217 y216 ∧ Own A217 c218 ∧ Dat Kd.bool G' (some ⟨g414, 0, none⟩) (List.replicate (Int.toNat 4) false) ∧ Regs [] [] [(0, 15, agg [int .i64 y16.Width, int .i64 y16.Height, int .i64 y16.Columns, int .i64 y16.Gap, int .i64 y16.Scale, int .i64 y16.Lang].toArray), (1, 16, slice A217 y216.length c218), (2, 17, slice (some ⟨g414, 0, none⟩) (List.replicate (Int.toNat 4) false).length ((List.replicate (Int.toNat 4) false).length))] D r ∧ Hp G' (tk (slice (some ⟨g414, 0, none⟩) (List.replicate (Int.toNat 4) false).length ((List.replicate (Int.toNat 4) false).length)) 1 4 :: tk (slice A217 y216.length c218) 8 36 :: L) w) ∨ (D 1 = true ∧ D 2 = true ∧ D 3 = true ∧ ∃ (A217 : Option Addr) (c218 : Nat) (g414 : Nat) (A428 : Option Addr) (c429 : Nat) (G' : Gh), G ≤ G' ∧ y216.length ≤ c218 ∧ Dat k_api_Slice G' A217 y216 ∧ Own A217 c218 ∧ Dat Kd.bool G' (some ⟨g414, 0, none⟩) (List.replicate (Int.toNat 4) false) ∧ y427.length ≤ c429 ∧ Dat k_api_Page G' A428 y427 ∧ Own A428 c429 ∧ Regs [] [] [(0, 15, agg [int .i64 y16.Width, int .i64 y16.Height, int .i64 y16.Columns, int .i64 y16.Gap, int .i64 y16.Scale, int .i64 y16.Lang].toArray), (1, 16, slice A217 y216.length c218), (2, 17, slice (some ⟨g414, 0, none⟩) (List.replicate (Int.toNat 4) false).length ((List.replicate (Int.toNat 4) false).length)), (3, 18, tuple [slice A428 y427.length c429, int .i64 y434].toArray), (4, 14, tuple [slice A428 y427.length c429, int .i64 y434].toArray), (5, 19, slice A428 y427.length c429), (6, 20, int .i64 y434), (7, 1, slice A428 y427.length c429), (8, 2, int .i64 y434)] D r ∧ Hp G' (tk (slice A428 y427.length c429) 2 34 :: tk (slice (some ⟨g414, 0, none⟩) (List.replicate (Int.toNat 4) false).length ((List.replicate (Int.toNat 4) false).length)) 1 4 :: tk (slice A217 y216.length c218) 8 36 :: L) w)) mixo z z ?_ ?_ ?_
 exact (.inl ⟨z, z, z, _, Gh.le_refl _, Regs.start trivial trivial, hI.drew⟩)
 refine ⟨?_, ?_, ?_, ?_, ?_, ?_, ?_, ?_, ?_, tv⟩
 rintro D r wd627 (⟨hd1, hd2, hd3, G623, hG624, hReg626, hI625⟩ | ⟨hd1, hd2, hd3, A217, c218, G623, hG624, hl219, hD220, ho221, hReg626, hI625⟩ | ⟨hd1, hd2, hd3, g414, G623, hG624, hD422, hReg626, hI625⟩ | ⟨hd1, hd2, hd3, A217, c218, g414, G623, hG624, hl219, hD220, ho221, hD422, hReg626, hI625⟩ | ⟨hd1, hd2, hd3, A217, c218, g414, A428, c429, G623, hG624, hl219, hD220, ho221, hD422, hl430, hD431, ho432, hReg626, hI625⟩) hDi hpre hpost
 obtain ⟨r0, rfl⟩ := Has.ex (r := r) cN
 exact cv bo12 (formelaw40_paper_spec hy201 hI625) z z fun wd14 hI15=>nl ⟨z, (.inl ⟨hd1, hd2, hd3, _, hG624, (Regs.step hReg626 hDi z z z z), hI15⟩)⟩
 cases (hpost 1 rfl).symm.trans hd1
 obtain ⟨r0, rfl⟩ := Has.ex (r := r) cN
 exact cv bo12 (formelaw40_paper_spec hy201 hI625) z z fun wd14 hI15=>nl ⟨z, (.inr (.inr (.inl ⟨hd1, hd2, hd3, g414, _, hG624, hD422, (Regs.step hReg626 hDi z z z z), hI15⟩)))⟩
 cases (hpost 1 rfl).symm.trans hd1
 cases (hpost 1 rfl).symm.trans hd1
 rintro D r wd627 (⟨hd1, hd2, hd3, G623, hG624, hReg626, hI625⟩ | ⟨hd1, hd2, hd3, A217, c218, G623, hG624, hl219, hD220, ho221, hReg626, hI625⟩ | ⟨hd1, hd2, hd3, g414, G623, hG624, hD422, hReg626, hI625⟩ | ⟨hd1, hd2, hd3, A217, c218, g414, G623, hG624, hl219, hD220, ho221, hD422, hReg626, hI625⟩ | ⟨hd1, hd2, hd3, A217, c218, g414, A428, c429, G623, hG624, hl219, hD220, ho221, hD422, hl430, hD431, ho432, hReg626, hI625⟩) hDi hpre hpost
 obtain ⟨r0, rfl⟩ := Has.ex (r := r) cN
 refine q_cv (vs := []) bo13 z z (formelaw40_rows_spec hy401 hI625)<|?_
 rintro _ wd214 ⟨A217, c218, G212, hG213, hI215, hl219, hD220, ho221, rfl⟩
 refine ⟨_, rfl, ?_⟩
 exact nl ⟨z, (.inr (.inl ⟨z, hd2, hd3, A217, c218, _, (gT hG624 hG213), hl219, hD220, ho221, (Regs.step (Regs.re (vals' := [(0, 15, agg [int .i64 y16.Width, int .i64 y16.Height, int .i64 y16.Columns, int .i64 y16.Gap, int .i64 y16.Scale, int .i64 y16.Lang].toArray), (1, 16, slice A217 y216.length c218)]) hReg626 (List.forall_mem_cons.2 ⟨.inl (List.mem_of_getElem? (i := 0) z), (List.forall_mem_cons.2 ⟨.inr hDi, (fun _ h => nomatch h)⟩)⟩)) hDi z z z z), hI215⟩))⟩
 cases hDi.symm.trans hd1
 obtain ⟨r0, rfl⟩ := Has.ex (r := r) cN
 refine q_cv (vs := []) bo13 z z (formelaw40_rows_spec hy401 hI625)<|?_
 rintro _ wd214 ⟨A217, c218, G212, hG213, hI215, hl219, hD220, ho221, rfl⟩
 refine ⟨_, rfl, ?_⟩
 exact have hI628:=Hp.pick 2 [1, 0] hI215 z;nl ⟨z, (.inr (.inr (.inr (.inl ⟨z, hd2, hd3, A217, c218, g414, _, (gT hG624 hG213), hl219, hD220, ho221, (Dat.mono hG213 hD422), (Regs.step (Regs.re (vals' := [(0, 15, agg [int .i64 y16.Width, int .i64 y16.Height, int .i64 y16.Columns, int .i64 y16.Gap, int .i64 y16.Scale, int .i64 y16.Lang].toArray), (1, 16, slice A217 y216.length c218), (2, 17, slice (some ⟨g414, 0, none⟩) (List.replicate (Int.toNat 4) false).length ((List.replicate (Int.toNat 4) false).length))]) hReg626 (List.forall_mem_cons.2 ⟨.inl (List.mem_of_getElem? (i := 0) z), (List.forall_mem_cons.2 ⟨.inr hDi, (List.forall_mem_cons.2 ⟨.inl (List.mem_of_getElem? (i := 1) z), (fun _ h => nomatch h)⟩)⟩)⟩)) hDi z z z z), hI628⟩))))⟩
 cases hDi.symm.trans hd1
 cases hDi.symm.trans hd1
 rintro D r wd627 (⟨hd1, hd2, hd3, G623, hG624, hReg626, hI625⟩ | ⟨hd1, hd2, hd3, A217, c218, G623, hG624, hl219, hD220, ho221, hReg626, hI625⟩ | ⟨hd1, hd2, hd3, g414, G623, hG624, hD422, hReg626, hI625⟩ | ⟨hd1, hd2, hd3, A217, c218, g414, G623, hG624, hl219, hD220, ho221, hD422, hReg626, hI625⟩ | ⟨hd1, hd2, hd3, A217, c218, g414, A428, c429, G623, hG624, hl219, hD220, ho221, hD422, hl430, hD431, ho432, hReg626, hI625⟩) hDi hpre hpost
 obtain ⟨r0, rfl⟩ := Has.ex (r := r) cN
 refine q_mks (kd := Kd.bool) (z := false) hI625 el25 ze4 z z z z h412 h412' h412'' fun g414 n415 wd416 hn418 hI417=>?_
 subst hn418
 obtain ⟨G419, hG420, hI421, hD422, _, _⟩ := Hp.rwFreeze hI417 0 rfl (Mw.new (α := Bool) g414 _ 1) rfl gR
 exact nl ⟨z, (.inr (.inr (.inl ⟨hd1, z, hd3, g414, _, (gT hG624 hG420), hD422, (Regs.step (Regs.re (vals' := [(0, 15, agg [int .i64 y16.Width, int .i64 y16.Height, int .i64 y16.Columns, int .i64 y16.Gap, int .i64 y16.Scale, int .i64 y16.Lang].toArray), (2, 17, slice (some ⟨g414, 0, none⟩) (List.replicate (Int.toNat 4) false).length ((List.replicate (Int.toNat 4) false).length))]) hReg626 (List.forall_mem_cons.2 ⟨.inl (List.mem_of_getElem? (i := 0) z), (List.forall_mem_cons.2 ⟨.inr hDi, (fun _ h => nomatch h)⟩)⟩)) hDi z z z z), hI421⟩)))⟩
 obtain ⟨r0, rfl⟩ := Has.ex (r := r) cN
 refine q_mks (kd := Kd.bool) (z := false) hI625 el25 ze4 z z z z h412 h412' h412'' fun g414 n415 wd416 hn418 hI417=>?_
 subst hn418
 obtain ⟨G419, hG420, hI421, hD422, _, _⟩ := Hp.rwFreeze hI417 0 rfl (Mw.new (α := Bool) g414 _ 1) rfl gR
 exact nl ⟨z, (.inr (.inr (.inr (.inl ⟨hd1, z, hd3, A217, c218, g414, _, (gT hG624 hG420), hl219, (Dat.mono hG420 hD220), ho221, hD422, (Regs.step (Regs.re (vals' := [(0, 15, agg [int .i64 y16.Width, int .i64 y16.Height, int .i64 y16.Columns, int .i64 y16.Gap, int .i64 y16.Scale, int .i64 y16.Lang].toArray), (1, 16, slice A217 y216.length c218), (2, 17, slice (some ⟨g414, 0, none⟩) (List.replicate (Int.toNat 4) false).length ((List.replicate (Int.toNat 4) false).length))]) hReg626 (List.forall_mem_cons.2 ⟨.inl (List.mem_of_getElem? (i := 0) z), (List.forall_mem_cons.2 ⟨.inl (List.mem_of_getElem? (i := 1) z), (List.forall_mem_cons.2 ⟨.inr hDi, (fun _ h => nomatch h)⟩)⟩)⟩)) hDi z z z z), hI421⟩))))⟩
 cases hDi.symm.trans hd2
 cases hDi.symm.trans hd2
 cases hDi.symm.trans hd2
 rintro D r wd627 (⟨hd1, hd2, hd3, G623, hG624, hReg626, hI625⟩ | ⟨hd1, hd2, hd3, A217, c218, G623, hG624, hl219, hD220, ho221, hReg626, hI625⟩ | ⟨hd1, hd2, hd3, g414, G623, hG624, hD422, hReg626, hI625⟩ | ⟨hd1, hd2, hd3, A217, c218, g414, G623, hG624, hl219, hD220, ho221, hD422, hReg626, hI625⟩ | ⟨hd1, hd2, hd3, A217, c218, g414, A428, c429, G623, hG624, hl219, hD220, ho221, hD422, hl430, hD431, ho432, hReg626, hI625⟩) hDi hpre hpost
 cases (hpre 1 rfl).symm.trans hd1
 cases (hpre 2 rfl).symm.trans hd2
 cases (hpre 1 rfl).symm.trans hd1
 obtain ⟨r0, rfl⟩ := Has.ex (cC (hReg626.get 0 rfl (hpre 0 rfl)) (cC (hReg626.get 1 rfl (hpre 1 rfl)) (cC (hReg626.get 2 rfl (hpre 2 rfl)) cN)))
 refine q_cv (vs := [agg [int .i64 y16.Width, int .i64 y16.Height, int .i64 y16.Columns, int .i64 y16.Gap, int .i64 y16.Scale, int .i64 y16.Lang].toArray, slice A217 y216.length c218, slice (some ⟨g414, 0, none⟩) (List.replicate (Int.toNat 4) false).length ((List.replicate (Int.toNat 4) false).length)]) bo8 z z (pages_Break_spec (a7 := List.replicate (Int.toNat 4) false) hy612 hI625 hl219 hD220 (Nat.le_refl _) hD422)<|?_
 rintro _ wd425 ⟨A428, c429, G423, hG424, hI426, hl430, hD431, ho432, rfl⟩
 refine ⟨_, rfl, ?_⟩
 exact nl ⟨z, (.inr (.inr (.inr (.inr ⟨hd1, hd2, z, A217, c218, g414, A428, c429, _, (gT hG624 hG424), hl219, (Dat.mono hG424 hD220), ho221, (Dat.mono hG424 hD422), hl430, hD431, ho432, (Regs.step (Regs.re (vals' := [(0, 15, agg [int .i64 y16.Width, int .i64 y16.Height, int .i64 y16.Columns, int .i64 y16.Gap, int .i64 y16.Scale, int .i64 y16.Lang].toArray), (1, 16, slice A217 y216.length c218), (2, 17, slice (some ⟨g414, 0, none⟩) (List.replicate (Int.toNat 4) false).length ((List.replicate (Int.toNat 4) false).length)), (3, 18, tuple [slice A428 y427.length c429, int .i64 y434].toArray), (4, 14, tuple [slice A428 y427.length c429, int .i64 y434].toArray), (5, 19, slice A428 y427.length c429), (6, 20, int .i64 y434), (7, 1, slice A428 y427.length c429), (8, 2, int .i64 y434)]) hReg626 (List.forall_mem_cons.2 ⟨.inl (List.mem_of_getElem? (i := 0) z), (List.forall_mem_cons.2 ⟨.inl (List.mem_of_getElem? (i := 1) z), (List.forall_mem_cons.2 ⟨.inl (List.mem_of_getElem? (i := 2) z), (List.forall_mem_cons.2 ⟨.inr hDi, (List.forall_mem_cons.2 ⟨.inr (hpost 4 z), (List.forall_mem_cons.2 ⟨.inr (hpost 5 z), (List.forall_mem_cons.2 ⟨.inr (hpost 6 z), (List.forall_mem_cons.2 ⟨.inr (hpost 7 z), (List.forall_mem_cons.2 ⟨.inr (hpost 8 z), (fun _ h => nomatch h)⟩)⟩)⟩)⟩)⟩)⟩)⟩)⟩)⟩)) hDi z z z z), hI426⟩))))⟩
 cases hDi.symm.trans hd3
 rintro D r wd627 (⟨hd1, hd2, hd3, G623, hG624, hReg626, hI625⟩ | ⟨hd1, hd2, hd3, A217, c218, G623, hG624, hl219, hD220, ho221, hReg626, hI625⟩ | ⟨hd1, hd2, hd3, g414, G623, hG624, hD422, hReg626, hI625⟩ | ⟨hd1, hd2, hd3, A217, c218, g414, G623, hG624, hl219, hD220, ho221, hD422, hReg626, hI625⟩ | ⟨hd1, hd2, hd3, A217, c218, g414, A428, c429, G623, hG624, hl219, hD220, ho221, hD422, hl430, hD431, ho432, hReg626, hI625⟩) hDi hpre hpost
 cases (hpre 1 rfl).symm.trans hd1
 cases (hpre 2 rfl).symm.trans hd2
 cases (hpre 1 rfl).symm.trans hd1
 cases (hpre 3 rfl).symm.trans hd3
 obtain ⟨r0, rfl⟩ := Has.ex (cC (hReg626.get 3 rfl (hpre 3 rfl)) cN)
 exact mv z<|nl ⟨z, (.inr (.inr (.inr (.inr ⟨hd1, hd2, hd3, A217, c218, g414, A428, c429, _, hG624, hl219, hD220, ho221, hD422, hl430, hD431, ho432, (Regs.step hReg626 hDi z z z z), hI625⟩))))⟩
 rintro D r wd627 (⟨hd1, hd2, hd3, G623, hG624, hReg626, hI625⟩ | ⟨hd1, hd2, hd3, A217, c218, G623, hG624, hl219, hD220, ho221, hReg626, hI625⟩ | ⟨hd1, hd2, hd3, g414, G623, hG624, hD422, hReg626, hI625⟩ | ⟨hd1, hd2, hd3, A217, c218, g414, G623, hG624, hl219, hD220, ho221, hD422, hReg626, hI625⟩ | ⟨hd1, hd2, hd3, A217, c218, g414, A428, c429, G623, hG624, hl219, hD220, ho221, hD422, hl430, hD431, ho432, hReg626, hI625⟩) hDi hpre hpost
 cases (hpre 1 rfl).symm.trans hd1
 cases (hpre 2 rfl).symm.trans hd2
 cases (hpre 1 rfl).symm.trans hd1
 cases (hpre 3 rfl).symm.trans hd3
 obtain ⟨r0, rfl⟩ := Has.ex (cC (hReg626.get 4 rfl (hpre 4 rfl)) cN)
 exact exk z z<|nl ⟨z, (.inr (.inr (.inr (.inr ⟨hd1, hd2, hd3, A217, c218, g414, A428, c429, _, hG624, hl219, hD220, ho221, hD422, hl430, hD431, ho432, (Regs.step hReg626 hDi z z z z), hI625⟩))))⟩
 rintro D r wd627 (⟨hd1, hd2, hd3, G623, hG624, hReg626, hI625⟩ | ⟨hd1, hd2, hd3, A217, c218, G623, hG624, hl219, hD220, ho221, hReg626, hI625⟩ | ⟨hd1, hd2, hd3, g414, G623, hG624, hD422, hReg626, hI625⟩ | ⟨hd1, hd2, hd3, A217, c218, g414, G623, hG624, hl219, hD220, ho221, hD422, hReg626, hI625⟩ | ⟨hd1, hd2, hd3, A217, c218, g414, A428, c429, G623, hG624, hl219, hD220, ho221, hD422, hl430, hD431, ho432, hReg626, hI625⟩) hDi hpre hpost
 cases (hpre 1 rfl).symm.trans hd1
 cases (hpre 2 rfl).symm.trans hd2
 cases (hpre 1 rfl).symm.trans hd1
 cases (hpre 3 rfl).symm.trans hd3
 obtain ⟨r0, rfl⟩ := Has.ex (cC (hReg626.get 4 rfl (hpre 4 rfl)) cN)
 exact exk z z<|nl ⟨z, (.inr (.inr (.inr (.inr ⟨hd1, hd2, hd3, A217, c218, g414, A428, c429, _, hG624, hl219, hD220, ho221, hD422, hl430, hD431, ho432, (Regs.step hReg626 hDi z z z z), hI625⟩))))⟩
 rintro D r wd627 (⟨hd1, hd2, hd3, G623, hG624, hReg626, hI625⟩ | ⟨hd1, hd2, hd3, A217, c218, G623, hG624, hl219, hD220, ho221, hReg626, hI625⟩ | ⟨hd1, hd2, hd3, g414, G623, hG624, hD422, hReg626, hI625⟩ | ⟨hd1, hd2, hd3, A217, c218, g414, G623, hG624, hl219, hD220, ho221, hD422, hReg626, hI625⟩ | ⟨hd1, hd2, hd3, A217, c218, g414, A428, c429, G623, hG624, hl219, hD220, ho221, hD422, hl430, hD431, ho432, hReg626, hI625⟩) hDi hpre hpost
 cases (hpre 1 rfl).symm.trans hd1
 cases (hpre 2 rfl).symm.trans hd2
 cases (hpre 1 rfl).symm.trans hd1
 cases (hpre 3 rfl).symm.trans hd3
 obtain ⟨r0, rfl⟩ := Has.ex (cC (hReg626.get 5 rfl (hpre 5 rfl)) cN)
 exact asn z<|nl ⟨z, (.inr (.inr (.inr (.inr ⟨hd1, hd2, hd3, A217, c218, g414, A428, c429, _, hG624, hl219, hD220, ho221, hD422, hl430, hD431, ho432, (Regs.step hReg626 hDi z z z z), hI625⟩))))⟩
 rintro D r wd627 (⟨hd1, hd2, hd3, G623, hG624, hReg626, hI625⟩ | ⟨hd1, hd2, hd3, A217, c218, G623, hG624, hl219, hD220, ho221, hReg626, hI625⟩ | ⟨hd1, hd2, hd3, g414, G623, hG624, hD422, hReg626, hI625⟩ | ⟨hd1, hd2, hd3, A217, c218, g414, G623, hG624, hl219, hD220, ho221, hD422, hReg626, hI625⟩ | ⟨hd1, hd2, hd3, A217, c218, g414, A428, c429, G623, hG624, hl219, hD220, ho221, hD422, hl430, hD431, ho432, hReg626, hI625⟩) hDi hpre hpost
 cases (hpre 1 rfl).symm.trans hd1
 cases (hpre 2 rfl).symm.trans hd2
 cases (hpre 1 rfl).symm.trans hd1
 cases (hpre 3 rfl).symm.trans hd3
 obtain ⟨r0, rfl⟩ := Has.ex (cC (hReg626.get 6 rfl (hpre 6 rfl)) cN)
 exact asn z<|nl ⟨z, (.inr (.inr (.inr (.inr ⟨hd1, hd2, hd3, A217, c218, g414, A428, c429, _, hG624, hl219, hD220, ho221, hD422, hl430, hD431, ho432, (Regs.step hReg626 hDi z z z z), hI625⟩))))⟩
 intro D r wd627 hall hR
 rcases hR with ⟨hd1, hd2, hd3, G623, hG624, hReg626, hI625⟩ | ⟨hd1, hd2, hd3, A217, c218, G623, hG624, hl219, hD220, ho221, hReg626, hI625⟩ | ⟨hd1, hd2, hd3, g414, G623, hG624, hD422, hReg626, hI625⟩ | ⟨hd1, hd2, hd3, A217, c218, g414, G623, hG624, hl219, hD220, ho221, hD422, hReg626, hI625⟩ | ⟨hd1, hd2, hd3, A217, c218, g414, A428, c429, G623, hG624, hl219, hD220, ho221, hD422, hl430, hD431, ho432, hReg626, hI625⟩
 cases (hall 1 (Nat.le_of_ble_eq_true rfl)).symm.trans hd1
 cases (hall 2 (Nat.le_of_ble_eq_true rfl)).symm.trans hd2
 cases (hall 1 (Nat.le_of_ble_eq_true rfl)).symm.trans hd1
 cases (hall 3 (Nat.le_of_ble_eq_true rfl)).symm.trans hd3
 obtain ⟨r0, rfl⟩ := Has.ex (cC (hReg626.get 7 rfl (hall 7 (Nat.le_of_ble_eq_true rfl))) (cC (hReg626.get 8 rfl (hall 8 (Nat.le_of_ble_eq_true rfl))) cN))
 refine hK4 _ _ _<|sr fun K629 hK630=>bK H fun y636 hy631 H=>cv bo12 (formelaw40_paper_spec hy631 hI625) z z fun wd634 hI635=>bK H fun y642 hy637 H=>q_cv (vs := []) bo13 z z (formelaw40_rows_spec hy637 hI635)<|?_
 rintro _ wd640 ⟨A643, c644, G638, hG639, hI641, hl645, hD646, ho647, rfl⟩
 refine ⟨_, rfl, ?_⟩
 refine q_bs hI641 (vs := [(0, bool false), (1, bool true), (2, bool false), (3, bool false)]) (cs := [bool false, bool true, bool false, bool false]) el25 ze4 rfl (by decide) rfl (by kernel_rfl) (fun g650 wd651 hI652 => ?_)
 obtain ⟨G653, hG654, hI656, hD655⟩ := Hp.publish (xs := ([false, true, false, false] : List Bool)) (n := 4) Kd.bool hI652 ⟨[bool false], _, rfl, rfl, ⟨[bool true], _, rfl, rfl, ⟨[bool false], _, rfl, rfl, ⟨[bool false], _, rfl, rfl, rfl⟩⟩⟩⟩ rfl
 refine bK2 H fun y662 y669 hy657 H=>q_cv (vs := [agg [int .i64 y636.Width, int .i64 y636.Height, int .i64 y636.Columns, int .i64 y636.Gap, int .i64 y636.Scale, int .i64 y636.Lang].toArray, slice A643 y642.length c644, slice (some ⟨g650, 0, none⟩) ([false, true, false, false] : List Bool).length 4]) bo8 z z (pages_Break_spec (a7 := ([false, true, false, false] : List Bool)) hy657 hI656 hl645 (Dat.mono hG654 hD646) (show ([false, true, false, false] : List Bool).length ≤ 4 from Nat.le_of_ble_eq_true z) hD655)<|?_
 rintro _ wd660 ⟨A663, c664, G658, hG659, hI661, hl665, hD666, ho667, rfl⟩
 refine ⟨_, rfl, ?_⟩
 refine mv z<|exk z z<|exk z z<|asn z<|asn z<|nl<|hK630 _ _ _<|sQ fun K670 hK671=>bK H fun y683 hy868 H=>bK H fun y883 hy1068 H=>iK H fun⟨h1079, h1079', h1079''⟩H=>bK2 H fun y1094 y1101 hy1279 H=>?_
 refine wpc_drawL [0, 1, 0, 7, 15, 31, 31, 63, 255] (fun D r w => (D 1 = false ∧ D 2 = false ∧ D 3 = false ∧ ∃ (G' : Gh), G658 ≤ G' ∧ Regs [(1, slice A428 y427.length c429), (2, int .i64 y434), (3, slice A663 y662.length c664), (4, int .i64 y669)] [] [(0, 29, agg [int .i64 y683.Width, int .i64 y683.Height, int .i64 y683.Columns, int .i64 y683.Gap, int .i64 y683.Scale, int .i64 y683.Lang].toArray)] D r ∧ Hp G' (tk (slice A663 y662.length c664) 2 34 :: tk (slice (some ⟨g650, 0, none⟩) ([false, true, false, false] : List Bool).length 4) 1 4 :: tk (slice A643 y642.length c644) 8 36 :: tk (slice A428 y427.length c429) 2 34 :: tk (slice (some ⟨g414, 0, none⟩) (List.replicate (Int.toNat 4) false).length ((List.replicate (Int.toNat 4) false).length)) 1 4 :: tk (slice A217 y216.length c218) 8 36 :: L) w) ∨ (D 1 = true ∧ D 2 = false ∧ D 3 = false ∧ ∃ (A884 : Option Addr) (c885 : Nat) (G' : Gh), G658 ≤ G' ∧ y883.length ≤ c885 ∧ Dat k_api_Slice G' A884 y883 ∧ Own A884 c885 ∧ Regs [(1, slice A428 y427.length c429), (2, int .i64 y434), (3, slice A663 y662.length c664), (4, int .i64 y669)] [] [(0, 29, agg [int .i64 y683.Width, int .i64 y683.Height, int .i64 y683.Columns, int .i64 y683.Gap, int .i64 y683.Scale, int .i64 y683.Lang].toArray), (1, 30, slice A884 y883.length c885)] D r ∧ Hp G' (tk (slice A884 y883.length c885) 8 36 :: tk (slice A663 y662.length c664) 2 34 :: tk (slice (some ⟨g650, 0, none⟩) ([false, true, false, false] : List Bool).length 4) 1 4 :: tk (slice A643 y642.length c644) 8 36 :: tk (slice A428 y427.length c429) 2 34 :: tk (slice (some ⟨g414, 0, none⟩) (List.replicate (Int.toNat 4) false).length ((List.replicate (Int.toNat 4) false).length)) 1 4 :: tk (slice A217 y216.length c218) 8 36 :: L) w) ∨ (D 1 = false ∧ D 2 = true ∧ D 3 = false ∧ ∃ (g1081 : Nat) (G' : Gh), G658 ≤ G' ∧ Dat Kd.bool G' (some ⟨g1081, 0, none⟩) (List.replicate (Int.toNat 4) false) ∧ Regs [(1, slice A428 y427.length c429), (2, int .i64 y434), (3, slice A663 y662.length c664), (4, int .i64 y669)] [] [(0, 29, agg [int .i64 y683.Width, int .i64 y683.Height, int .i64 y683.Columns, int .i64 y683.Gap, int .i64 y683.Scale, int .i64 y683.Lang].toArray), (2, 31, slice (some ⟨g1081, 0, none⟩) (List.replicate (Int.toNat 4) false).length ((List.replicate (Int.toNat 4) false).length))] D r ∧ Hp G' (tk (slice (some ⟨g1081, 0, none⟩) (List.replicate (Int.toNat 4) false).length ((List.replicate (Int.toNat 4) false).length)) 1 4 :: tk (slice A663 y662.length c664) 2 34 :: tk (slice (some ⟨g650, 0, none⟩) ([false, true, false, false] : List Bool).length 4) 1 4 :: tk (slice A643 y642.length c644) 8 36 :: tk (slice A428 y427.length c429) 2 34 :: tk (slice (some ⟨g414, 0, none⟩) (List.replicate (Int.toNat 4) false).length ((List.replicate (Int.toNat 4) false).length)) 1 4 :: tk (slice A217 y216.length c218) 8 36 :: L) w) ∨ (D 1 = true ∧ D 2 = true ∧ D 3 = false ∧ ∃ (A884 : Option Addr) (c885 : Nat) (g1081 : Nat) (G' : Gh), G658 ≤ G' ∧ y883.length ≤ c885 ∧ Dat k_api_Slice G' A884 y883 ∧ Own A884 c885 ∧ Dat Kd.bool G' (some ⟨g1081, 0, none⟩) (List.replicate (Int.toNat 4) false) ∧ Regs [(1, slice A428 y427.length c429), (2, int .i64 y434), (3, slice A663 y662.length c664), (4, int .i64 y669)] [] [(0, 29, agg [int .i64 y683.Width, int .i64 y683.Height, int .i64 y683.Columns, int .i64 y683.Gap, int .i64 y683.Scale, int .i64 y683.Lang].toArray), (1, 30, slice A884 y883.length c885), (2, 31, slice (some ⟨g1081, 0, none⟩) (List.replicate (Int.toNat 4) false).length ((List.replicate (Int.toNat 4) false).length))] D r ∧ Hp G' (tk (slice (some ⟨g1081, 0, none⟩) (List.replicate (Int.toNat 4) false).length ((List.replicate (Int.toNat 4) false).length)) 1 4 :: tk (slice A884 y883.length c885) 8 36 :: tk (slice A663 y662.length c664) 2 34 :: tk (slice (some ⟨g650, 0, none⟩) ([false, true, false, false] : List Bool).length 4) 1 4 :: tk (slice A643 y642.length c644) 8 36 :: tk (slice A428 y427.length c429) 2 34 :: tk (slice (some ⟨g414, 0, none⟩) (List.replicate (Int.toNat 4) false).length ((List.replicate (Int.toNat 4) false).length)) 1 4 :: tk (slice A217 y216.length c218) 8 36 :: L) w) ∨ (D 1 = true ∧ D 2 = true ∧ D 3 = true ∧ ∃ (A884 : Option Addr) (c885 : Nat) (g1081 : Nat) (A1095 : Option Addr) (c1096 : Nat) (G' : Gh), G658 ≤ G' ∧ y883.length ≤ c885 ∧ Dat k_api_Slice G' A884 y883 ∧ Own A884 c885 ∧ Dat Kd.bool G' (some ⟨g1081, 0, none⟩) (List.replicate (Int.toNat 4) false) ∧ y1094.length ≤ c1096 ∧ Dat k_api_Page G' A1095 y1094 ∧ Own A1095 c1096 ∧ Regs [(1, slice A428 y427.length c429), (2, int .i64 y434), (3, slice A663 y662.length c664), (4, int .i64 y669)] [] [(0, 29, agg [int .i64 y683.Width, int .i64 y683.Height, int .i64 y683.Columns, int .i64 y683.Gap, int .i64 y683.Scale, int .i64 y683.Lang].toArray), (1, 30, slice A884 y883.length c885), (2, 31, slice (some ⟨g1081, 0, none⟩) (List.replicate (Int.toNat 4) false).length ((List.replicate (Int.toNat 4) false).length)), (3, 32, tuple [slice A1095 y1094.length c1096, int .i64 y1101].toArray), (4, 28, tuple [slice A1095 y1094.length c1096, int .i64 y1101].toArray), (5, 33, slice A1095 y1094.length c1096), (6, 34, int .i64 y1101), (7, 5, slice A1095 y1094.length c1096), (8, 6, int .i64 y1101)] D r ∧ Hp G' (tk (slice A1095 y1094.length c1096) 2 34 :: tk (slice (some ⟨g1081, 0, none⟩) (List.replicate (Int.toNat 4) false).length ((List.replicate (Int.toNat 4) false).length)) 1 4 :: tk (slice A884 y883.length c885) 8 36 :: tk (slice A663 y662.length c664) 2 34 :: tk (slice (some ⟨g650, 0, none⟩) ([false, true, false, false] : List Bool).length 4) 1 4 :: tk (slice A643 y642.length c644) 8 36 :: tk (slice A428 y427.length c429) 2 34 :: tk (slice (some ⟨g414, 0, none⟩) (List.replicate (Int.toNat 4) false).length ((List.replicate (Int.toNat 4) false).length)) 1 4 :: tk (slice A217 y216.length c218) 8 36 :: L) w)) mixo z z ?_ ?_ ?_
 exact (.inl ⟨z, z, z, _, Gh.le_refl _, Regs.start ⟨z, z, z, z, tv⟩ trivial, hI661.drew⟩)
 refine ⟨?_, ?_, ?_, ?_, ?_, ?_, ?_, ?_, ?_, tv⟩
 rintro D r wd1294 (⟨hd1, hd2, hd3, G1290, hG1291, hReg1293, hI1292⟩ | ⟨hd1, hd2, hd3, A884, c885, G1290, hG1291, hl886, hD887, ho888, hReg1293, hI1292⟩ | ⟨hd1, hd2, hd3, g1081, G1290, hG1291, hD1089, hReg1293, hI1292⟩ | ⟨hd1, hd2, hd3, A884, c885, g1081, G1290, hG1291, hl886, hD887, ho888, hD1089, hReg1293, hI1292⟩ | ⟨hd1, hd2, hd3, A884, c885, g1081, A1095, c1096, G1290, hG1291, hl886, hD887, ho888, hD1089, hl1097, hD1098, ho1099, hReg1293, hI1292⟩) hDi hpre hpost
 obtain ⟨r0, rfl⟩ := Has.ex (r := r) cN
 exact cv bo12 (formelaw40_paper_spec hy868 hI1292) z z fun wd681 hI682=>nl ⟨z, (.inl ⟨hd1, hd2, hd3, _, hG1291, (Regs.step hReg1293 hDi z z z z), hI682⟩)⟩
 cases (hpost 1 rfl).symm.trans hd1
 obtain ⟨r0, rfl⟩ := Has.ex (r := r) cN
 exact cv bo12 (formelaw40_paper_spec hy868 hI1292) z z fun wd681 hI682=>nl ⟨z, (.inr (.inr (.inl ⟨hd1, hd2, hd3, g1081, _, hG1291, hD1089, (Regs.step hReg1293 hDi z z z z), hI682⟩)))⟩
 cases (hpost 1 rfl).symm.trans hd1
 cases (hpost 1 rfl).symm.trans hd1
 rintro D r wd1294 (⟨hd1, hd2, hd3, G1290, hG1291, hReg1293, hI1292⟩ | ⟨hd1, hd2, hd3, A884, c885, G1290, hG1291, hl886, hD887, ho888, hReg1293, hI1292⟩ | ⟨hd1, hd2, hd3, g1081, G1290, hG1291, hD1089, hReg1293, hI1292⟩ | ⟨hd1, hd2, hd3, A884, c885, g1081, G1290, hG1291, hl886, hD887, ho888, hD1089, hReg1293, hI1292⟩ | ⟨hd1, hd2, hd3, A884, c885, g1081, A1095, c1096, G1290, hG1291, hl886, hD887, ho888, hD1089, hl1097, hD1098, ho1099, hReg1293, hI1292⟩) hDi hpre hpost
 obtain ⟨r0, rfl⟩ := Has.ex (r := r) cN
 refine q_cv (vs := []) bo13 z z (formelaw40_rows_spec hy1068 hI1292)<|?_
 rintro _ wd881 ⟨A884, c885, G879, hG880, hI882, hl886, hD887, ho888, rfl⟩
 refine ⟨_, rfl, ?_⟩
 exact nl ⟨z, (.inr (.inl ⟨z, hd2, hd3, A884, c885, _, (gT hG1291 hG880), hl886, hD887, ho888, (Regs.step (Regs.re (vals' := [(0, 29, agg [int .i64 y683.Width, int .i64 y683.Height, int .i64 y683.Columns, int .i64 y683.Gap, int .i64 y683.Scale, int .i64 y683.Lang].toArray), (1, 30, slice A884 y883.length c885)]) hReg1293 (List.forall_mem_cons.2 ⟨.inl (List.mem_of_getElem? (i := 0) z), (List.forall_mem_cons.2 ⟨.inr hDi, (fun _ h => nomatch h)⟩)⟩)) hDi z z z z), hI882⟩))⟩
 cases hDi.symm.trans hd1
 obtain ⟨r0, rfl⟩ := Has.ex (r := r) cN
 refine q_cv (vs := []) bo13 z z (formelaw40_rows_spec hy1068 hI1292)<|?_
 rintro _ wd881 ⟨A884, c885, G879, hG880, hI882, hl886, hD887, ho888, rfl⟩
 refine ⟨_, rfl, ?_⟩
 exact have hI1302:=Hp.pick 8 [1, 0, 2, 3, 4, 5, 6, 7] hI882 z;nl ⟨z, (.inr (.inr (.inr (.inl ⟨z, hd2, hd3, A884, c885, g1081, _, (gT hG1291 hG880), hl886, hD887, ho888, (Dat.mono hG880 hD1089), (Regs.step (Regs.re (vals' := [(0, 29, agg [int .i64 y683.Width, int .i64 y683.Height, int .i64 y683.Columns, int .i64 y683.Gap, int .i64 y683.Scale, int .i64 y683.Lang].toArray), (1, 30, slice A884 y883.length c885), (2, 31, slice (some ⟨g1081, 0, none⟩) (List.replicate (Int.toNat 4) false).length ((List.replicate (Int.toNat 4) false).length))]) hReg1293 (List.forall_mem_cons.2 ⟨.inl (List.mem_of_getElem? (i := 0) z), (List.forall_mem_cons.2 ⟨.inr hDi, (List.forall_mem_cons.2 ⟨.inl (List.mem_of_getElem? (i := 1) z), (fun _ h => nomatch h)⟩)⟩)⟩)) hDi z z z z), hI1302⟩))))⟩
 cases hDi.symm.trans hd1
 cases hDi.symm.trans hd1
 rintro D r wd1294 (⟨hd1, hd2, hd3, G1290, hG1291, hReg1293, hI1292⟩ | ⟨hd1, hd2, hd3, A884, c885, G1290, hG1291, hl886, hD887, ho888, hReg1293, hI1292⟩ | ⟨hd1, hd2, hd3, g1081, G1290, hG1291, hD1089, hReg1293, hI1292⟩ | ⟨hd1, hd2, hd3, A884, c885, g1081, G1290, hG1291, hl886, hD887, ho888, hD1089, hReg1293, hI1292⟩ | ⟨hd1, hd2, hd3, A884, c885, g1081, A1095, c1096, G1290, hG1291, hl886, hD887, ho888, hD1089, hl1097, hD1098, ho1099, hReg1293, hI1292⟩) hDi hpre hpost
 obtain ⟨r0, rfl⟩ := Has.ex (r := r) cN
 refine q_mks (kd := Kd.bool) (z := false) hI1292 el25 ze4 z z z z h1079 h1079' h1079'' fun g1081 n1082 wd1083 hn1085 hI1084=>?_
 subst hn1085
 obtain ⟨G1086, hG1087, hI1088, hD1089, _, _⟩ := Hp.rwFreeze hI1084 0 rfl (Mw.new (α := Bool) g1081 _ 1) rfl gR
 exact nl ⟨z, (.inr (.inr (.inl ⟨hd1, z, hd3, g1081, _, (gT hG1291 hG1087), hD1089, (Regs.step (Regs.re (vals' := [(0, 29, agg [int .i64 y683.Width, int .i64 y683.Height, int .i64 y683.Columns, int .i64 y683.Gap, int .i64 y683.Scale, int .i64 y683.Lang].toArray), (2, 31, slice (some ⟨g1081, 0, none⟩) (List.replicate (Int.toNat 4) false).length ((List.replicate (Int.toNat 4) false).length))]) hReg1293 (List.forall_mem_cons.2 ⟨.inl (List.mem_of_getElem? (i := 0) z), (List.forall_mem_cons.2 ⟨.inr hDi, (fun _ h => nomatch h)⟩)⟩)) hDi z z z z), hI1088⟩)))⟩
 obtain ⟨r0, rfl⟩ := Has.ex (r := r) cN
 refine q_mks (kd := Kd.bool) (z := false) hI1292 el25 ze4 z z z z h1079 h1079' h1079'' fun g1081 n1082 wd1083 hn1085 hI1084=>?_
 subst hn1085
 obtain ⟨G1086, hG1087, hI1088, hD1089, _, _⟩ := Hp.rwFreeze hI1084 0 rfl (Mw.new (α := Bool) g1081 _ 1) rfl gR
 exact nl ⟨z, (.inr (.inr (.inr (.inl ⟨hd1, z, hd3, A884, c885, g1081, _, (gT hG1291 hG1087), hl886, (Dat.mono hG1087 hD887), ho888, hD1089, (Regs.step (Regs.re (vals' := [(0, 29, agg [int .i64 y683.Width, int .i64 y683.Height, int .i64 y683.Columns, int .i64 y683.Gap, int .i64 y683.Scale, int .i64 y683.Lang].toArray), (1, 30, slice A884 y883.length c885), (2, 31, slice (some ⟨g1081, 0, none⟩) (List.replicate (Int.toNat 4) false).length ((List.replicate (Int.toNat 4) false).length))]) hReg1293 (List.forall_mem_cons.2 ⟨.inl (List.mem_of_getElem? (i := 0) z), (List.forall_mem_cons.2 ⟨.inl (List.mem_of_getElem? (i := 1) z), (List.forall_mem_cons.2 ⟨.inr hDi, (fun _ h => nomatch h)⟩)⟩)⟩)) hDi z z z z), hI1088⟩))))⟩
 cases hDi.symm.trans hd2
 cases hDi.symm.trans hd2
 cases hDi.symm.trans hd2
 rintro D r wd1294 (⟨hd1, hd2, hd3, G1290, hG1291, hReg1293, hI1292⟩ | ⟨hd1, hd2, hd3, A884, c885, G1290, hG1291, hl886, hD887, ho888, hReg1293, hI1292⟩ | ⟨hd1, hd2, hd3, g1081, G1290, hG1291, hD1089, hReg1293, hI1292⟩ | ⟨hd1, hd2, hd3, A884, c885, g1081, G1290, hG1291, hl886, hD887, ho888, hD1089, hReg1293, hI1292⟩ | ⟨hd1, hd2, hd3, A884, c885, g1081, A1095, c1096, G1290, hG1291, hl886, hD887, ho888, hD1089, hl1097, hD1098, ho1099, hReg1293, hI1292⟩) hDi hpre hpost
 cases (hpre 1 rfl).symm.trans hd1
 cases (hpre 2 rfl).symm.trans hd2
 cases (hpre 1 rfl).symm.trans hd1
 obtain ⟨r0, rfl⟩ := Has.ex (cC (hReg1293.get 0 rfl (hpre 0 rfl)) (cC (hReg1293.get 1 rfl (hpre 1 rfl)) (cC (hReg1293.get 2 rfl (hpre 2 rfl)) cN)))
 refine q_cv (vs := [agg [int .i64 y683.Width, int .i64 y683.Height, int .i64 y683.Columns, int .i64 y683.Gap, int .i64 y683.Scale, int .i64 y683.Lang].toArray, slice A884 y883.length c885, slice (some ⟨g1081, 0, none⟩) (List.replicate (Int.toNat 4) false).length ((List.replicate (Int.toNat 4) false).length)]) bo8 z z (pages_Break_spec (a7 := List.replicate (Int.toNat 4) false) hy1279 hI1292 hl886 hD887 (Nat.le_refl _) hD1089)<|?_
 rintro _ wd1092 ⟨A1095, c1096, G1090, hG1091, hI1093, hl1097, hD1098, ho1099, rfl⟩
 refine ⟨_, rfl, ?_⟩
 exact nl ⟨z, (.inr (.inr (.inr (.inr ⟨hd1, hd2, z, A884, c885, g1081, A1095, c1096, _, (gT hG1291 hG1091), hl886, (Dat.mono hG1091 hD887), ho888, (Dat.mono hG1091 hD1089), hl1097, hD1098, ho1099, (Regs.step (Regs.re (vals' := [(0, 29, agg [int .i64 y683.Width, int .i64 y683.Height, int .i64 y683.Columns, int .i64 y683.Gap, int .i64 y683.Scale, int .i64 y683.Lang].toArray), (1, 30, slice A884 y883.length c885), (2, 31, slice (some ⟨g1081, 0, none⟩) (List.replicate (Int.toNat 4) false).length ((List.replicate (Int.toNat 4) false).length)), (3, 32, tuple [slice A1095 y1094.length c1096, int .i64 y1101].toArray), (4, 28, tuple [slice A1095 y1094.length c1096, int .i64 y1101].toArray), (5, 33, slice A1095 y1094.length c1096), (6, 34, int .i64 y1101), (7, 5, slice A1095 y1094.length c1096), (8, 6, int .i64 y1101)]) hReg1293 (List.forall_mem_cons.2 ⟨.inl (List.mem_of_getElem? (i := 0) z), (List.forall_mem_cons.2 ⟨.inl (List.mem_of_getElem? (i := 1) z), (List.forall_mem_cons.2 ⟨.inl (List.mem_of_getElem? (i := 2) z), (List.forall_mem_cons.2 ⟨.inr hDi, (List.forall_mem_cons.2 ⟨.inr (hpost 4 z), (List.forall_mem_cons.2 ⟨.inr (hpost 5 z), (List.forall_mem_cons.2 ⟨.inr (hpost 6 z), (List.forall_mem_cons.2 ⟨.inr (hpost 7 z), (List.forall_mem_cons.2 ⟨.inr (hpost 8 z), (fun _ h => nomatch h)⟩)⟩)⟩)⟩)⟩)⟩)⟩)⟩)⟩)) hDi z z z z), hI1093⟩))))⟩
 cases hDi.symm.trans hd3
 rintro D r wd1294 (⟨hd1, hd2, hd3, G1290, hG1291, hReg1293, hI1292⟩ | ⟨hd1, hd2, hd3, A884, c885, G1290, hG1291, hl886, hD887, ho888, hReg1293, hI1292⟩ | ⟨hd1, hd2, hd3, g1081, G1290, hG1291, hD1089, hReg1293, hI1292⟩ | ⟨hd1, hd2, hd3, A884, c885, g1081, G1290, hG1291, hl886, hD887, ho888, hD1089, hReg1293, hI1292⟩ | ⟨hd1, hd2, hd3, A884, c885, g1081, A1095, c1096, G1290, hG1291, hl886, hD887, ho888, hD1089, hl1097, hD1098, ho1099, hReg1293, hI1292⟩) hDi hpre hpost
 cases (hpre 1 rfl).symm.trans hd1
 cases (hpre 2 rfl).symm.trans hd2
 cases (hpre 1 rfl).symm.trans hd1
 cases (hpre 3 rfl).symm.trans hd3
 obtain ⟨r0, rfl⟩ := Has.ex (cC (hReg1293.get 3 rfl (hpre 3 rfl)) cN)
 exact mv z<|nl ⟨z, (.inr (.inr (.inr (.inr ⟨hd1, hd2, hd3, A884, c885, g1081, A1095, c1096, _, hG1291, hl886, hD887, ho888, hD1089, hl1097, hD1098, ho1099, (Regs.step hReg1293 hDi z z z z), hI1292⟩))))⟩
 rintro D r wd1294 (⟨hd1, hd2, hd3, G1290, hG1291, hReg1293, hI1292⟩ | ⟨hd1, hd2, hd3, A884, c885, G1290, hG1291, hl886, hD887, ho888, hReg1293, hI1292⟩ | ⟨hd1, hd2, hd3, g1081, G1290, hG1291, hD1089, hReg1293, hI1292⟩ | ⟨hd1, hd2, hd3, A884, c885, g1081, G1290, hG1291, hl886, hD887, ho888, hD1089, hReg1293, hI1292⟩ | ⟨hd1, hd2, hd3, A884, c885, g1081, A1095, c1096, G1290, hG1291, hl886, hD887, ho888, hD1089, hl1097, hD1098, ho1099, hReg1293, hI1292⟩) hDi hpre hpost
 cases (hpre 1 rfl).symm.trans hd1
 cases (hpre 2 rfl).symm.trans hd2
 cases (hpre 1 rfl).symm.trans hd1
 cases (hpre 3 rfl).symm.trans hd3
 obtain ⟨r0, rfl⟩ := Has.ex (cC (hReg1293.get 4 rfl (hpre 4 rfl)) cN)
 exact exk z z<|nl ⟨z, (.inr (.inr (.inr (.inr ⟨hd1, hd2, hd3, A884, c885, g1081, A1095, c1096, _, hG1291, hl886, hD887, ho888, hD1089, hl1097, hD1098, ho1099, (Regs.step hReg1293 hDi z z z z), hI1292⟩))))⟩
 rintro D r wd1294 (⟨hd1, hd2, hd3, G1290, hG1291, hReg1293, hI1292⟩ | ⟨hd1, hd2, hd3, A884, c885, G1290, hG1291, hl886, hD887, ho888, hReg1293, hI1292⟩ | ⟨hd1, hd2, hd3, g1081, G1290, hG1291, hD1089, hReg1293, hI1292⟩ | ⟨hd1, hd2, hd3, A884, c885, g1081, G1290, hG1291, hl886, hD887, ho888, hD1089, hReg1293, hI1292⟩ | ⟨hd1, hd2, hd3, A884, c885, g1081, A1095, c1096, G1290, hG1291, hl886, hD887, ho888, hD1089, hl1097, hD1098, ho1099, hReg1293, hI1292⟩) hDi hpre hpost
 cases (hpre 1 rfl).symm.trans hd1
 cases (hpre 2 rfl).symm.trans hd2
 cases (hpre 1 rfl).symm.trans hd1
 cases (hpre 3 rfl).symm.trans hd3
 obtain ⟨r0, rfl⟩ := Has.ex (cC (hReg1293.get 4 rfl (hpre 4 rfl)) cN)
 exact exk z z<|nl ⟨z, (.inr (.inr (.inr (.inr ⟨hd1, hd2, hd3, A884, c885, g1081, A1095, c1096, _, hG1291, hl886, hD887, ho888, hD1089, hl1097, hD1098, ho1099, (Regs.step hReg1293 hDi z z z z), hI1292⟩))))⟩
 rintro D r wd1294 (⟨hd1, hd2, hd3, G1290, hG1291, hReg1293, hI1292⟩ | ⟨hd1, hd2, hd3, A884, c885, G1290, hG1291, hl886, hD887, ho888, hReg1293, hI1292⟩ | ⟨hd1, hd2, hd3, g1081, G1290, hG1291, hD1089, hReg1293, hI1292⟩ | ⟨hd1, hd2, hd3, A884, c885, g1081, G1290, hG1291, hl886, hD887, ho888, hD1089, hReg1293, hI1292⟩ | ⟨hd1, hd2, hd3, A884, c885, g1081, A1095, c1096, G1290, hG1291, hl886, hD887, ho888, hD1089, hl1097, hD1098, ho1099, hReg1293, hI1292⟩) hDi hpre hpost
 cases (hpre 1 rfl).symm.trans hd1
 cases (hpre 2 rfl).symm.trans hd2
 cases (hpre 1 rfl).symm.trans hd1
 cases (hpre 3 rfl).symm.trans hd3
 obtain ⟨r0, rfl⟩ := Has.ex (cC (hReg1293.get 5 rfl (hpre 5 rfl)) cN)
 exact asn z<|nl ⟨z, (.inr (.inr (.inr (.inr ⟨hd1, hd2, hd3, A884, c885, g1081, A1095, c1096, _, hG1291, hl886, hD887, ho888, hD1089, hl1097, hD1098, ho1099, (Regs.step hReg1293 hDi z z z z), hI1292⟩))))⟩
 rintro D r wd1294 (⟨hd1, hd2, hd3, G1290, hG1291, hReg1293, hI1292⟩ | ⟨hd1, hd2, hd3, A884, c885, G1290, hG1291, hl886, hD887, ho888, hReg1293, hI1292⟩ | ⟨hd1, hd2, hd3, g1081, G1290, hG1291, hD1089, hReg1293, hI1292⟩ | ⟨hd1, hd2, hd3, A884, c885, g1081, G1290, hG1291, hl886, hD887, ho888, hD1089, hReg1293, hI1292⟩ | ⟨hd1, hd2, hd3, A884, c885, g1081, A1095, c1096, G1290, hG1291, hl886, hD887, ho888, hD1089, hl1097, hD1098, ho1099, hReg1293, hI1292⟩) hDi hpre hpost
 cases (hpre 1 rfl).symm.trans hd1
 cases (hpre 2 rfl).symm.trans hd2
 cases (hpre 1 rfl).symm.trans hd1
 cases (hpre 3 rfl).symm.trans hd3
 obtain ⟨r0, rfl⟩ := Has.ex (cC (hReg1293.get 6 rfl (hpre 6 rfl)) cN)
 exact asn z<|nl ⟨z, (.inr (.inr (.inr (.inr ⟨hd1, hd2, hd3, A884, c885, g1081, A1095, c1096, _, hG1291, hl886, hD887, ho888, hD1089, hl1097, hD1098, ho1099, (Regs.step hReg1293 hDi z z z z), hI1292⟩))))⟩
 intro D r wd1294 hall hR
 rcases hR with ⟨hd1, hd2, hd3, G1290, hG1291, hReg1293, hI1292⟩ | ⟨hd1, hd2, hd3, A884, c885, G1290, hG1291, hl886, hD887, ho888, hReg1293, hI1292⟩ | ⟨hd1, hd2, hd3, g1081, G1290, hG1291, hD1089, hReg1293, hI1292⟩ | ⟨hd1, hd2, hd3, A884, c885, g1081, G1290, hG1291, hl886, hD887, ho888, hD1089, hReg1293, hI1292⟩ | ⟨hd1, hd2, hd3, A884, c885, g1081, A1095, c1096, G1290, hG1291, hl886, hD887, ho888, hD1089, hl1097, hD1098, ho1099, hReg1293, hI1292⟩
 cases (hall 1 (Nat.le_of_ble_eq_true rfl)).symm.trans hd1
 cases (hall 2 (Nat.le_of_ble_eq_true rfl)).symm.trans hd2
 cases (hall 1 (Nat.le_of_ble_eq_true rfl)).symm.trans hd1
 cases (hall 3 (Nat.le_of_ble_eq_true rfl)).symm.trans hd3
 obtain ⟨r0, rfl⟩ := Has.ex (cC (hReg1293.ins.get 0 rfl) (cC (hReg1293.ins.get 1 rfl) (cC (hReg1293.ins.get 2 rfl) (cC (hReg1293.ins.get 3 rfl) (cC (hReg1293.get 7 rfl (hall 7 (Nat.le_of_ble_eq_true rfl))) (cC (hReg1293.get 8 rfl (hall 8 (Nat.le_of_ble_eq_true rfl))) cN))))))
 refine hK671 _ _ _<|sr fun K1303 hK1304=>bK H fun y1310 hy1305 H=>cv bo12 (formelaw40_paper_spec hy1305 hI1292) z z fun wd1308 hI1309=>bK H fun y1316 hy1311 H=>q_cv (vs := []) bo13 z z (formelaw40_rows_spec hy1311 hI1309)<|?_
 rintro _ wd1314 ⟨A1317, c1318, G1312, hG1313, hI1315, hl1319, hD1320, ho1321, rfl⟩
 refine ⟨_, rfl, ?_⟩
 refine bK2 H fun y1328 y1335 hy1323 H=>q_cv (vs := [agg [int .i64 y1310.Width, int .i64 y1310.Height, int .i64 y1310.Columns, int .i64 y1310.Gap, int .i64 y1310.Scale, int .i64 y1310.Lang].toArray, slice A1317 y1316.length c1318, slice none 0 0]) bo8 z z (pages_Break_spec (a7 := ([] : List Bool)) hy1323 hI1315 hl1319 hD1320 (show ([] : List Bool).length ≤ 0 from Nat.le_refl 0) (Dat.nil _ _ _))<|?_
 rintro _ wd1326 ⟨A1329, c1330, G1324, hG1325, hI1327, hl1331, hD1332, ho1333, rfl⟩
 refine ⟨_, rfl, ?_⟩
 refine mv z<|exk z z<|exk z z<|asn z<|asn z<|nl<|hK1304 _ _ _<|sr fun K1336 hK1337=>mv z<|bK2 H fun y1343 y1344 hy1338 H=>cv bo14 (pages_Find_spec hy1338 hI1327 hl665 (Dat.mono (gT (gT hG1291 hG1313) hG1325) hD666)) z z fun wd1341 hI1342=>mv z<|exk z z<|exk z z<|?_
 refine asn z<|asn z<|nl<|hK1337 _ _ _<|sr fun K1345 hK1346=>mv z<|bK2 H fun y1352 y1353 hy1347 H=>cv bo14 (pages_Find_spec hy1347 hI1342 hl665 (Dat.mono (gT (gT hG1291 hG1313) hG1325) hD666)) z z fun wd1350 hI1351=>mv z<|exk z z<|exk z z<|asn z<|asn z<|nl<|?_
 refine hK1346 _ _ _<|sr fun K1354 hK1355=>mv z<|q_eql z z<|mv z<|bK H fun v1356 hC H=>js 3 hI1351 [(1, slice A428 y427.length c429), (3, slice A663 y662.length c664), (5, slice A1095 y1094.length c1096), (6, int .i64 y1101), (8, int .i64 y1335), (9, int .i64 y1343), (10, bool y1344), (12, bool y1353), (56, bool v1356)] ?_ fun _ wd1359 hI1360=>?_
 refine have H:=hC;dC (y434 = 0) (fun h1362=>?_) fun h1362=>?_
 refine yK h1362 H fun H=>mv (hw:=gY z z z (bY h1362)) z<|q_eql (hw:=gY z z z (bY h1362)) z z<|pkt (bY h1362) z<|nl<|?_
 cases H
 exact je ⟨z, z, z, z, z, z, z, z, z, tv⟩ hI1351
 refine nK h1362 H fun H=>Sk 2 z z (bN h1362) z<|pkf (bN h1362) z<|nl<|?_
 cases H
 exact je ⟨z, z, z, z, z, z, z, z, z, tv⟩ hI1351
 refine mv z<|bK H fun v1363 hC H=>js 3 hI1360 [(1, slice A428 y427.length c429), (3, slice A663 y662.length c664), (5, slice A1095 y1094.length c1096), (8, int .i64 y1335), (9, int .i64 y1343), (10, bool y1344), (12, bool y1353), (60, bool v1363)] ?_ fun _ wd1366 hI1367=>?_
 refine have H:=hC;dC (v1356 = true) (fun h1369=>?_) fun h1369=>?_
 refine yK h1369 H fun H=>mv (hw:=gY z z z (vY h1369)) z<|q_eql (hw:=gY z z z (vY h1369)) z z<|pkt (vY h1369) z<|nl<|?_
 cases H
 exact je ⟨z, z, z, z, z, z, z, z, tv⟩ hI1360
 refine nK h1369 H fun H=>Sk 2 z z (vN h1369) z<|pkf (vN h1369) z<|nl<|?_
 cases H
 exact je ⟨z, z, z, z, z, z, z, z, tv⟩ hI1360
 refine mv z<|bK H fun v1370 hC H=>js 3 hI1367 [(1, slice A428 y427.length c429), (3, slice A663 y662.length c664), (5, slice A1095 y1094.length c1096), (9, int .i64 y1343), (10, bool y1344), (12, bool y1353), (64, bool v1370)] ?_ fun _ wd1373 hI1374=>?_
 refine have H:=hC;dC (v1363 = true) (fun h1376=>?_) fun h1376=>?_
 refine yK h1376 H fun H=>mv (hw:=gY z z z (vY h1376)) z<|q_eql (hw:=gY z z z (vY h1376)) z z<|pkt (vY h1376) z<|nl<|?_
 cases H
 exact je ⟨z, z, z, z, z, z, z, tv⟩ hI1367
 refine nK h1376 H fun H=>Sk 2 z z (vN h1376) z<|pkf (vN h1376) z<|nl<|?_
 cases H
 exact je ⟨z, z, z, z, z, z, z, tv⟩ hI1367
 refine mv z<|bK H fun v1377 hC H=>js 3 hI1374 [(1, slice A428 y427.length c429), (3, slice A663 y662.length c664), (5, slice A1095 y1094.length c1096), (10, bool y1344), (12, bool y1353), (68, bool v1377)] ?_ fun _ wd1380 hI1381=>?_
 refine have H:=hC;dC (v1370 = true) (fun h1383=>?_) fun h1383=>?_
 refine yK h1383 H fun H=>mv (hw:=gY z z z (vY h1383)) z<|q_eql (hw:=gY z z z (vY h1383)) z z<|pkt (vY h1383) z<|nl<|?_
 cases H
 exact je ⟨z, z, z, z, z, z, tv⟩ hI1374
 refine nK h1383 H fun H=>Sk 2 z z (vN h1383) z<|pkf (vN h1383) z<|nl<|?_
 cases H
 exact je ⟨z, z, z, z, z, z, tv⟩ hI1374
 refine mv z<|bK H fun v1384 hC H=>js 2 hI1381 [(1, slice A428 y427.length c429), (3, slice A663 y662.length c664), (5, slice A1095 y1094.length c1096), (12, bool y1353), (71, bool v1384)] ?_ fun _ wd1387 hI1388=>?_
 refine have H:=hC;dC (v1377 = true) (fun h1390=>?_) fun h1390=>?_
 refine yK h1390 H fun H=>mv (hw:=gY z z z (vY h1390)) z<|pkt (vY h1390) z<|nl<|?_
 cases H
 exact je ⟨z, z, z, z, z, tv⟩ hI1381
 refine nK h1390 H fun H=>wN (gN z z z (vN h1390) z)<|pkf (vN h1390) z<|nl<|?_
 cases H
 exact je ⟨z, z, z, z, z, tv⟩ hI1381
 refine mv z<|bK H fun v1391 hC H=>js 3 hI1388 [(1, slice A428 y427.length c429), (3, slice A663 y662.length c664), (5, slice A1095 y1094.length c1096), (75, bool v1391)] ?_ fun _ wd1394 hI1395=>?_
 refine have H:=hC;dC (v1384 = true) (fun h1397=>?_) fun h1397=>?_
 refine yK h1397 H fun H=>mv (hw:=gY z z z (vY h1397)) z<|q_not (hw:=gY z z z (vY h1397)) z<|pkt (vY h1397) z<|nl<|?_
 cases H
 exact je ⟨z, z, z, z, tv⟩ hI1388
 refine nK h1397 H fun H=>Sk 2 z z (vN h1397) z<|pkf (vN h1397) z<|nl<|?_
 cases H
 exact je ⟨z, z, z, z, tv⟩ hI1388
 refine asn z<|nl<|hK1355 _ _ _<|sr fun K1398 hK1399=>mv z<|mv z<|bK H fun v1400 hC H=>js 12 hI1395 [(3, slice A663 y662.length c664), (5, slice A1095 y1094.length c1096), (89, bool v1400)] ?_ fun _ wd1403 hI1404=>?_
 refine have H:=hC;dC (v1391 = true) (fun h1406=>?_) fun h1406=>?_
 refine yK h1406 H fun H=>mv (hw:=gY z z z (vY h1406)) z<|bK H fun y1412 hy1407 H=>cv (hw:=gY z z z (vY h1406)) bo16 (formelaw40_at_spec hy1407 hI1395) z z fun wd1410 hI1411=>bK H fun y1418 hy1413 H=>cv (hw:=gY z z z (vY h1406)) bo16 (formelaw40_at_spec hy1413 hI1411) z z fun wd1416 hI1417=>?_
 refine q_bs hI1417 (vs := [(0, agg [int .i64 y1412.Node, int .i64 y1412.Table, int .i64 y1412.X, int .i64 y1412.Y, int .i64 y1412.H, string y1412.Text, bool y1412.Head, bool y1412.Note].toArray), (1, agg [int .i64 y1418.Node, int .i64 y1418.Table, int .i64 y1418.X, int .i64 y1418.Y, int .i64 y1418.H, string y1418.Text, bool y1418.Head, bool y1418.Note].toArray)]) (cs := [int .i64 y1412.Node, int .i64 y1412.Table, int .i64 y1412.X, int .i64 y1412.Y, int .i64 y1412.H, string y1412.Text, bool y1412.Head, bool y1412.Note, int .i64 y1418.Node, int .i64 y1418.Table, int .i64 y1418.X, int .i64 y1418.Y, int .i64 y1418.H, string y1418.Text, bool y1418.Head, bool y1418.Note]) el24 ze36 rfl (by decide) rfl (by kernel_rfl) (fun g1420 wd1421 hI1422 => ?_) (hw := gY rfl rfl rfl (bval_yes h1406))
 obtain ⟨G1423, hG1424, hI1426, hD1425⟩ := Hp.publish (xs := ([y1412, y1418] : List api_Slice)) (n := 2) k_api_Slice hI1422 ⟨[int .i64 y1412.Node, int .i64 y1412.Table, int .i64 y1412.X, int .i64 y1412.Y, int .i64 y1412.H, string y1412.Text, bool y1412.Head, bool y1412.Note], _, rfl, (mk_api_Slice (x := y1412)), ⟨[int .i64 y1418.Node, int .i64 y1418.Table, int .i64 y1418.X, int .i64 y1418.Y, int .i64 y1418.H, string y1418.Text, bool y1418.Head, bool y1418.Note], _, rfl, (mk_api_Slice (x := y1418)), rfl⟩⟩ rfl
 refine q_build (hw:=gY z z z (vY h1406)) (vs := [(0, int .i64 1), (1, slice (some ⟨g1420, 0, none⟩) ([y1412, y1418] : List api_Slice).length 2)]) (cs := [int .i64 1, slice (some ⟨g1420, 0, none⟩) ([y1412, y1418] : List api_Slice).length 2]) ze34 pl34 z z<|bK H fun y1432 hy1427 H=>cv (hw:=gY z z z (vY h1406)) bo16 (formelaw40_at_spec hy1427 hI1426) z z fun wd1430 hI1431=>bK H fun y1438 hy1433 H=>cv (hw:=gY z z z (vY h1406)) bo16 (formelaw40_at_spec hy1433 hI1431) z z fun wd1436 hI1437=>?_
 refine q_bs hI1437 (vs := [(0, agg [int .i64 y1432.Node, int .i64 y1432.Table, int .i64 y1432.X, int .i64 y1432.Y, int .i64 y1432.H, string y1432.Text, bool y1432.Head, bool y1432.Note].toArray), (1, agg [int .i64 y1438.Node, int .i64 y1438.Table, int .i64 y1438.X, int .i64 y1438.Y, int .i64 y1438.H, string y1438.Text, bool y1438.Head, bool y1438.Note].toArray)]) (cs := [int .i64 y1432.Node, int .i64 y1432.Table, int .i64 y1432.X, int .i64 y1432.Y, int .i64 y1432.H, string y1432.Text, bool y1432.Head, bool y1432.Note, int .i64 y1438.Node, int .i64 y1438.Table, int .i64 y1438.X, int .i64 y1438.Y, int .i64 y1438.H, string y1438.Text, bool y1438.Head, bool y1438.Note]) el24 ze36 rfl (by decide) rfl (by kernel_rfl) (fun g1440 wd1441 hI1442 => ?_) (hw := gY rfl rfl rfl (bval_yes h1406))
 obtain ⟨G1443, hG1444, hI1446, hD1445⟩ := Hp.publish (xs := ([y1432, y1438] : List api_Slice)) (n := 2) k_api_Slice hI1442 ⟨[int .i64 y1432.Node, int .i64 y1432.Table, int .i64 y1432.X, int .i64 y1432.Y, int .i64 y1432.H, string y1432.Text, bool y1432.Head, bool y1432.Note], _, rfl, (mk_api_Slice (x := y1432)), ⟨[int .i64 y1438.Node, int .i64 y1438.Table, int .i64 y1438.X, int .i64 y1438.Y, int .i64 y1438.H, string y1438.Text, bool y1438.Head, bool y1438.Note], _, rfl, (mk_api_Slice (x := y1438)), rfl⟩⟩ rfl
 refine q_build (hw:=gY z z z (vY h1406)) (vs := [(0, int .i64 2), (1, slice (some ⟨g1440, 0, none⟩) ([y1432, y1438] : List api_Slice).length 2)]) (cs := [int .i64 2, slice (some ⟨g1440, 0, none⟩) ([y1432, y1438] : List api_Slice).length 2]) ze34 pl34 z z<|?_
 refine q_bs hI1446 (vs := [(0, agg [int .i64 1, slice (some ⟨g1420, 0, none⟩) ([y1412, y1418] : List api_Slice).length 2].toArray), (1, agg [int .i64 2, slice (some ⟨g1440, 0, none⟩) ([y1432, y1438] : List api_Slice).length 2].toArray)]) (cs := [int .i64 1, slice (some ⟨g1420, 0, none⟩) ([y1412, y1418] : List api_Slice).length 2, int .i64 2, slice (some ⟨g1440, 0, none⟩) ([y1432, y1438] : List api_Slice).length 2]) el28 ze34 rfl (by decide) rfl (by kernel_rfl) (fun g1448 wd1449 hI1450 => ?_) (hw := gY rfl rfl rfl (bval_yes h1406))
 obtain ⟨G1451, hG1452, hI1454, hD1453⟩ := Hp.publish (xs := ([(⟨1, ([y1412, y1418] : List api_Slice)⟩ : api_Page), (⟨2, ([y1432, y1438] : List api_Slice)⟩ : api_Page)] : List api_Page)) (n := 2) k_api_Page hI1450 ⟨[int .i64 1, slice (some ⟨g1420, 0, none⟩) ([y1412, y1418] : List api_Slice).length 2], _, rfl, (mk_api_Page (x := (⟨1, ([y1412, y1418] : List api_Slice)⟩ : api_Page)) (show ([y1412, y1418] : List api_Slice).length ≤ 2 from Nat.le_of_ble_eq_true rfl) (Dat.mono hG1444 hD1425)), ⟨[int .i64 2, slice (some ⟨g1440, 0, none⟩) ([y1432, y1438] : List api_Slice).length 2], _, rfl, (mk_api_Page (x := (⟨2, ([y1432, y1438] : List api_Slice)⟩ : api_Page)) (show ([y1432, y1438] : List api_Slice).length ≤ 2 from Nat.le_of_ble_eq_true rfl) hD1445), rfl⟩⟩ rfl
 refine bK H fun y1460 hy1455 H=>cv (hw:=gY z z z (vY h1406)) bo15 (formeref40_Same_spec (a6 := ([(⟨1, ([y1412, y1418] : List api_Slice)⟩ : api_Page), (⟨2, ([y1432, y1438] : List api_Slice)⟩ : api_Page)] : List api_Page)) hy1455 hI1454 hl430 (Dat.mono (gT (gT (gT (gT (gT (gT (gT (gT hG639 hG654) hG659) hG1291) hG1313) hG1325) hG1424) hG1444) hG1452) hD431) (show ([(⟨1, ([y1412, y1418] : List api_Slice)⟩ : api_Page), (⟨2, ([y1432, y1438] : List api_Slice)⟩ : api_Page)] : List api_Page).length ≤ 2 from Nat.le_of_ble_eq_true z) hD1453) z z fun wd1458 hI1459=>pkt (vY h1406) z<|nl<|have hI1472:=Hp.pick 14 [3, 4, 5, 6, 7, 8, 9, 10, 11, 12, 13] hI1459 z;?_
 cases H
 exact je ⟨z, z, z, tv⟩ (Hp.low (gT (gT hG1424 hG1444) hG1452) hI1472)
 refine nK h1406 H fun H=>Sk 11 z z (vN h1406) z<|pkf (vN h1406) z<|nl<|?_
 cases H
 exact je ⟨z, z, z, tv⟩ hI1395
 refine asn z<|nl<|hK1399 _ _ _<|sr fun K1473 hK1474=>mv z<|mv z<|bK H fun v1475 hC H=>js 14 hI1404 [(5, slice A1095 y1094.length c1096), (105, bool v1475)] ?_ fun _ wd1478 hI1479=>?_
 refine have H:=hC;dC (v1400 = true) (fun h1481=>?_) fun h1481=>?_
 refine yK h1481 H fun H=>mv (hw:=gY z z z (vY h1481)) z<|bK H fun y1487 hy1482 H=>cv (hw:=gY z z z (vY h1481)) bo16 (formelaw40_at_spec hy1482 hI1404) z z fun wd1485 hI1486=>?_
 refine q_bs hI1486 (vs := [(0, agg [int .i64 y1487.Node, int .i64 y1487.Table, int .i64 y1487.X, int .i64 y1487.Y, int .i64 y1487.H, string y1487.Text, bool y1487.Head, bool y1487.Note].toArray)]) (cs := [int .i64 y1487.Node, int .i64 y1487.Table, int .i64 y1487.X, int .i64 y1487.Y, int .i64 y1487.H, string y1487.Text, bool y1487.Head, bool y1487.Note]) el24 ze36 rfl (by decide) rfl (by kernel_rfl) (fun g1489 wd1490 hI1491 => ?_) (hw := gY rfl rfl rfl (bval_yes h1481))
 obtain ⟨G1492, hG1493, hI1495, hD1494⟩ := Hp.publish (xs := ([y1487] : List api_Slice)) (n := 1) k_api_Slice hI1491 ⟨[int .i64 y1487.Node, int .i64 y1487.Table, int .i64 y1487.X, int .i64 y1487.Y, int .i64 y1487.H, string y1487.Text, bool y1487.Head, bool y1487.Note], _, rfl, (mk_api_Slice (x := y1487)), rfl⟩ rfl
 refine q_build (hw:=gY z z z (vY h1481)) (vs := [(0, int .i64 1), (1, slice (some ⟨g1489, 0, none⟩) ([y1487] : List api_Slice).length 1)]) (cs := [int .i64 1, slice (some ⟨g1489, 0, none⟩) ([y1487] : List api_Slice).length 1]) ze34 pl34 z z<|bK H fun y1501 hy1496 H=>cv (hw:=gY z z z (vY h1481)) bo16 (formelaw40_at_spec hy1496 hI1495) z z fun wd1499 hI1500=>bK H fun y1507 hy1502 H=>cv (hw:=gY z z z (vY h1481)) bo16 (formelaw40_at_spec hy1502 hI1500) z z fun wd1505 hI1506=>?_
 refine q_bs hI1506 (vs := [(0, agg [int .i64 y1501.Node, int .i64 y1501.Table, int .i64 y1501.X, int .i64 y1501.Y, int .i64 y1501.H, string y1501.Text, bool y1501.Head, bool y1501.Note].toArray), (1, agg [int .i64 y1507.Node, int .i64 y1507.Table, int .i64 y1507.X, int .i64 y1507.Y, int .i64 y1507.H, string y1507.Text, bool y1507.Head, bool y1507.Note].toArray)]) (cs := [int .i64 y1501.Node, int .i64 y1501.Table, int .i64 y1501.X, int .i64 y1501.Y, int .i64 y1501.H, string y1501.Text, bool y1501.Head, bool y1501.Note, int .i64 y1507.Node, int .i64 y1507.Table, int .i64 y1507.X, int .i64 y1507.Y, int .i64 y1507.H, string y1507.Text, bool y1507.Head, bool y1507.Note]) el24 ze36 rfl (by decide) rfl (by kernel_rfl) (fun g1509 wd1510 hI1511 => ?_) (hw := gY rfl rfl rfl (bval_yes h1481))
 obtain ⟨G1512, hG1513, hI1515, hD1514⟩ := Hp.publish (xs := ([y1501, y1507] : List api_Slice)) (n := 2) k_api_Slice hI1511 ⟨[int .i64 y1501.Node, int .i64 y1501.Table, int .i64 y1501.X, int .i64 y1501.Y, int .i64 y1501.H, string y1501.Text, bool y1501.Head, bool y1501.Note], _, rfl, (mk_api_Slice (x := y1501)), ⟨[int .i64 y1507.Node, int .i64 y1507.Table, int .i64 y1507.X, int .i64 y1507.Y, int .i64 y1507.H, string y1507.Text, bool y1507.Head, bool y1507.Note], _, rfl, (mk_api_Slice (x := y1507)), rfl⟩⟩ rfl
 refine q_build (hw:=gY z z z (vY h1481)) (vs := [(0, int .i64 2), (1, slice (some ⟨g1509, 0, none⟩) ([y1501, y1507] : List api_Slice).length 2)]) (cs := [int .i64 2, slice (some ⟨g1509, 0, none⟩) ([y1501, y1507] : List api_Slice).length 2]) ze34 pl34 z z<|bK H fun y1521 hy1516 H=>cv (hw:=gY z z z (vY h1481)) bo16 (formelaw40_at_spec hy1516 hI1515) z z fun wd1519 hI1520=>?_
 refine q_bs hI1520 (vs := [(0, agg [int .i64 y1521.Node, int .i64 y1521.Table, int .i64 y1521.X, int .i64 y1521.Y, int .i64 y1521.H, string y1521.Text, bool y1521.Head, bool y1521.Note].toArray)]) (cs := [int .i64 y1521.Node, int .i64 y1521.Table, int .i64 y1521.X, int .i64 y1521.Y, int .i64 y1521.H, string y1521.Text, bool y1521.Head, bool y1521.Note]) el24 ze36 rfl (by decide) rfl (by kernel_rfl) (fun g1523 wd1524 hI1525 => ?_) (hw := gY rfl rfl rfl (bval_yes h1481))
 obtain ⟨G1526, hG1527, hI1529, hD1528⟩ := Hp.publish (xs := ([y1521] : List api_Slice)) (n := 1) k_api_Slice hI1525 ⟨[int .i64 y1521.Node, int .i64 y1521.Table, int .i64 y1521.X, int .i64 y1521.Y, int .i64 y1521.H, string y1521.Text, bool y1521.Head, bool y1521.Note], _, rfl, (mk_api_Slice (x := y1521)), rfl⟩ rfl
 refine q_build (hw:=gY z z z (vY h1481)) (vs := [(0, int .i64 3), (1, slice (some ⟨g1523, 0, none⟩) ([y1521] : List api_Slice).length 1)]) (cs := [int .i64 3, slice (some ⟨g1523, 0, none⟩) ([y1521] : List api_Slice).length 1]) ze34 pl34 z z<|?_
 refine q_bs hI1529 (vs := [(0, agg [int .i64 1, slice (some ⟨g1489, 0, none⟩) ([y1487] : List api_Slice).length 1].toArray), (1, agg [int .i64 2, slice (some ⟨g1509, 0, none⟩) ([y1501, y1507] : List api_Slice).length 2].toArray), (2, agg [int .i64 3, slice (some ⟨g1523, 0, none⟩) ([y1521] : List api_Slice).length 1].toArray)]) (cs := [int .i64 1, slice (some ⟨g1489, 0, none⟩) ([y1487] : List api_Slice).length 1, int .i64 2, slice (some ⟨g1509, 0, none⟩) ([y1501, y1507] : List api_Slice).length 2, int .i64 3, slice (some ⟨g1523, 0, none⟩) ([y1521] : List api_Slice).length 1]) el28 ze34 rfl (by decide) rfl (by kernel_rfl) (fun g1531 wd1532 hI1533 => ?_) (hw := gY rfl rfl rfl (bval_yes h1481))
 obtain ⟨G1534, hG1535, hI1537, hD1536⟩ := Hp.publish (xs := ([(⟨1, ([y1487] : List api_Slice)⟩ : api_Page), (⟨2, ([y1501, y1507] : List api_Slice)⟩ : api_Page), (⟨3, ([y1521] : List api_Slice)⟩ : api_Page)] : List api_Page)) (n := 3) k_api_Page hI1533 ⟨[int .i64 1, slice (some ⟨g1489, 0, none⟩) ([y1487] : List api_Slice).length 1], _, rfl, (mk_api_Page (x := (⟨1, ([y1487] : List api_Slice)⟩ : api_Page)) (show ([y1487] : List api_Slice).length ≤ 1 from Nat.le_of_ble_eq_true rfl) (Dat.mono (gT hG1513 hG1527) hD1494)), ⟨[int .i64 2, slice (some ⟨g1509, 0, none⟩) ([y1501, y1507] : List api_Slice).length 2], _, rfl, (mk_api_Page (x := (⟨2, ([y1501, y1507] : List api_Slice)⟩ : api_Page)) (show ([y1501, y1507] : List api_Slice).length ≤ 2 from Nat.le_of_ble_eq_true rfl) (Dat.mono hG1527 hD1514)), ⟨[int .i64 3, slice (some ⟨g1523, 0, none⟩) ([y1521] : List api_Slice).length 1], _, rfl, (mk_api_Page (x := (⟨3, ([y1521] : List api_Slice)⟩ : api_Page)) (show ([y1521] : List api_Slice).length ≤ 1 from Nat.le_of_ble_eq_true rfl) hD1528), rfl⟩⟩⟩ rfl
 refine bK H fun y1543 hy1538 H=>cv (hw:=gY z z z (vY h1481)) bo15 (formeref40_Same_spec (a6 := ([(⟨1, ([y1487] : List api_Slice)⟩ : api_Page), (⟨2, ([y1501, y1507] : List api_Slice)⟩ : api_Page), (⟨3, ([y1521] : List api_Slice)⟩ : api_Page)] : List api_Page)) hy1538 hI1537 hl665 (Dat.mono (gT (gT (gT (gT (gT (gT hG1291 hG1313) hG1325) hG1493) hG1513) hG1527) hG1535) hD666) (show ([(⟨1, ([y1487] : List api_Slice)⟩ : api_Page), (⟨2, ([y1501, y1507] : List api_Slice)⟩ : api_Page), (⟨3, ([y1521] : List api_Slice)⟩ : api_Page)] : List api_Page).length ≤ 3 from Nat.le_of_ble_eq_true z) hD1536) z z fun wd1541 hI1542=>pkt (vY h1481) z<|nl<|have hI1555:=Hp.pick 15 [4, 5, 6, 7, 8, 9, 10, 11, 12, 13, 14] hI1542 z;?_
 cases H
 exact je ⟨z, z, tv⟩ (Hp.low (gT (gT (gT hG1493 hG1513) hG1527) hG1535) hI1555)
 refine nK h1481 H fun H=>Sk 13 z z (vN h1481) z<|pkf (vN h1481) z<|nl<|?_
 cases H
 exact je ⟨z, z, tv⟩ hI1404
 refine asn z<|nl<|hK1474 _ _ _<|sr fun K1556 hK1557=>mv z<|mv z<|bK H fun v1558 hC H=>js 10 hI1479 [(117, bool v1558)] ?_ fun _ wd1561 hI1562=>?_
 refine have H:=hC;dC (v1475 = true) (fun h1564=>?_) fun h1564=>?_
 refine yK h1564 H fun H=>mv (hw:=gY z z z (vY h1564)) z<|bK H fun y1570 hy1565 H=>cv (hw:=gY z z z (vY h1564)) bo16 (formelaw40_at_spec hy1565 hI1479) z z fun wd1568 hI1569=>bK H fun y1576 hy1571 H=>cv (hw:=gY z z z (vY h1564)) bo16 (formelaw40_at_spec hy1571 hI1569) z z fun wd1574 hI1575=>bK H fun y1582 hy1577 H=>cv (hw:=gY z z z (vY h1564)) bo16 (formelaw40_at_spec hy1577 hI1575) z z fun wd1580 hI1581=>bK H fun y1588 hy1583 H=>cv (hw:=gY z z z (vY h1564)) bo16 (formelaw40_at_spec hy1583 hI1581) z z fun wd1586 hI1587=>?_
 refine q_bs hI1587 (vs := [(0, agg [int .i64 y1570.Node, int .i64 y1570.Table, int .i64 y1570.X, int .i64 y1570.Y, int .i64 y1570.H, string y1570.Text, bool y1570.Head, bool y1570.Note].toArray), (1, agg [int .i64 y1576.Node, int .i64 y1576.Table, int .i64 y1576.X, int .i64 y1576.Y, int .i64 y1576.H, string y1576.Text, bool y1576.Head, bool y1576.Note].toArray), (2, agg [int .i64 y1582.Node, int .i64 y1582.Table, int .i64 y1582.X, int .i64 y1582.Y, int .i64 y1582.H, string y1582.Text, bool y1582.Head, bool y1582.Note].toArray), (3, agg [int .i64 y1588.Node, int .i64 y1588.Table, int .i64 y1588.X, int .i64 y1588.Y, int .i64 y1588.H, string y1588.Text, bool y1588.Head, bool y1588.Note].toArray)]) (cs := [int .i64 y1570.Node, int .i64 y1570.Table, int .i64 y1570.X, int .i64 y1570.Y, int .i64 y1570.H, string y1570.Text, bool y1570.Head, bool y1570.Note, int .i64 y1576.Node, int .i64 y1576.Table, int .i64 y1576.X, int .i64 y1576.Y, int .i64 y1576.H, string y1576.Text, bool y1576.Head, bool y1576.Note, int .i64 y1582.Node, int .i64 y1582.Table, int .i64 y1582.X, int .i64 y1582.Y, int .i64 y1582.H, string y1582.Text, bool y1582.Head, bool y1582.Note, int .i64 y1588.Node, int .i64 y1588.Table, int .i64 y1588.X, int .i64 y1588.Y, int .i64 y1588.H, string y1588.Text, bool y1588.Head, bool y1588.Note]) el24 ze36 rfl (by decide) rfl (by kernel_rfl) (fun g1590 wd1591 hI1592 => ?_) (hw := gY rfl rfl rfl (bval_yes h1564))
 obtain ⟨G1593, hG1594, hI1596, hD1595⟩ := Hp.publish (xs := ([y1570, y1576, y1582, y1588] : List api_Slice)) (n := 4) k_api_Slice hI1592 ⟨[int .i64 y1570.Node, int .i64 y1570.Table, int .i64 y1570.X, int .i64 y1570.Y, int .i64 y1570.H, string y1570.Text, bool y1570.Head, bool y1570.Note], _, rfl, (mk_api_Slice (x := y1570)), ⟨[int .i64 y1576.Node, int .i64 y1576.Table, int .i64 y1576.X, int .i64 y1576.Y, int .i64 y1576.H, string y1576.Text, bool y1576.Head, bool y1576.Note], _, rfl, (mk_api_Slice (x := y1576)), ⟨[int .i64 y1582.Node, int .i64 y1582.Table, int .i64 y1582.X, int .i64 y1582.Y, int .i64 y1582.H, string y1582.Text, bool y1582.Head, bool y1582.Note], _, rfl, (mk_api_Slice (x := y1582)), ⟨[int .i64 y1588.Node, int .i64 y1588.Table, int .i64 y1588.X, int .i64 y1588.Y, int .i64 y1588.H, string y1588.Text, bool y1588.Head, bool y1588.Note], _, rfl, (mk_api_Slice (x := y1588)), rfl⟩⟩⟩⟩ rfl
 refine q_build (hw:=gY z z z (vY h1564)) (vs := [(0, int .i64 1), (1, slice (some ⟨g1590, 0, none⟩) ([y1570, y1576, y1582, y1588] : List api_Slice).length 4)]) (cs := [int .i64 1, slice (some ⟨g1590, 0, none⟩) ([y1570, y1576, y1582, y1588] : List api_Slice).length 4]) ze34 pl34 z z<|?_
 refine q_bs hI1596 (vs := [(0, agg [int .i64 1, slice (some ⟨g1590, 0, none⟩) ([y1570, y1576, y1582, y1588] : List api_Slice).length 4].toArray)]) (cs := [int .i64 1, slice (some ⟨g1590, 0, none⟩) ([y1570, y1576, y1582, y1588] : List api_Slice).length 4]) el28 ze34 rfl (by decide) rfl (by kernel_rfl) (fun g1598 wd1599 hI1600 => ?_) (hw := gY rfl rfl rfl (bval_yes h1564))
 obtain ⟨G1601, hG1602, hI1604, hD1603⟩ := Hp.publish (xs := ([(⟨1, ([y1570, y1576, y1582, y1588] : List api_Slice)⟩ : api_Page)] : List api_Page)) (n := 1) k_api_Page hI1600 ⟨[int .i64 1, slice (some ⟨g1590, 0, none⟩) ([y1570, y1576, y1582, y1588] : List api_Slice).length 4], _, rfl, (mk_api_Page (x := (⟨1, ([y1570, y1576, y1582, y1588] : List api_Slice)⟩ : api_Page)) (show ([y1570, y1576, y1582, y1588] : List api_Slice).length ≤ 4 from Nat.le_of_ble_eq_true rfl) hD1595), rfl⟩ rfl
 refine bK H fun y1610 hy1605 H=>cv (hw:=gY z z z (vY h1564)) bo15 (formeref40_Same_spec (a6 := ([(⟨1, ([y1570, y1576, y1582, y1588] : List api_Slice)⟩ : api_Page)] : List api_Page)) hy1605 hI1604 hl1097 (Dat.mono (gT (gT (gT hG1313 hG1325) hG1594) hG1602) hD1098) (show ([(⟨1, ([y1570, y1576, y1582, y1588] : List api_Slice)⟩ : api_Page)] : List api_Page).length ≤ 1 from Nat.le_of_ble_eq_true z) hD1603) z z fun wd1608 hI1609=>pkt (vY h1564) z<|nl<|have hI1622:=Hp.pick 13 [2, 3, 4, 5, 6, 7, 8, 9, 10, 11, 12] hI1609 z;?_
 cases H
 exact je ⟨z, tv⟩ (Hp.low (gT hG1594 hG1602) hI1622)
 refine nK h1564 H fun H=>Sk 9 z z (vN h1564) z<|pkf (vN h1564) z<|nl<|?_
 cases H
 exact je ⟨z, tv⟩ hI1479
 refine asn z<|nl<|hK1557 _ _ _<|wr<|have hI1623:=Hp.pick 11 [] hI1562 z;?_
 cases H
 exact rt ⟨_, _, z, z, z⟩ (Hp.low (gT (gT (gT (gT (gT (gT hG624 hG639) hG654) hG659) hG1291) hG1313) hG1325) hI1623)
theorem formeref40_Few_spec {a1 A2 c3 r1006 G L w} (H : formeref40_Few a1 = some r1006) (hI : Hp G L w) (hl4 : a1.length ≤ c3) (hD5 : Dat k_api_Slice G A2 a1) :
    Calls Try.prog 17 [slice A2 a1.length c3].toArray w fun e w' => Hp G L w' ∧ e = .returned (bool r1006) := by
 refine calls_intro (N := 20) Try.func17 z z (Nat.le_of_ble_eq_true z)<|?_
 unfold formeref40_Few at H
 refine sr fun K6 hK7=>asn z<|nl<|hK7 _ _ _<|sQ fun K8 hK9=>sr fun K10 hK11=>asn z<|nl<|hK11 _ _ _<|wb<|bK H fun o31 hC H=>wpc_mono (Q := fun e r ds w => match (generalizing := false) o31 with | (Sum.inl _) => e = .ret ∧ ds = [] ∧ Has [(2, bool false)] r ∧ Hp G (L) w ∧ True | (Sum.inr _) => e = .exit 0 ∧ ds = [] ∧ Has [(0, slice A2 a1.length c3)] r ∧ Hp G (L) w ∧ True) ?_ ?_
 refine wpc_loop fun I hLp=>?_
 refine formeref40_Few_l22.partial_correctness a1 (fun v16 o => ∀ (r : Rg) (w : World), Has [(0, slice A2 a1.length c3), (3, int .i64 v16)] r → Hp G (L) w → o = o31 → I r [] w) ?_ 0 _ hC _ _ ⟨rfl, rfl, tv⟩ hI rfl
 intro _ ih v16 o H r wd34 hHas hI35 ho
 rw [ho] at H; clear ho
 rw [hHas.eq]; clear hHas
 refine hLp _ _ _<|sQ fun K36 hK37=>sr fun K38 hK39=>mv z<|mv z<|q_len so24 z<|q_lss z z<|nl<|hK39 _ _ _<|dC (v16 < (a1.length : Int)) (fun h40=>?_) fun h40=>?_
 refine yK h40 H fun H=>wt (bY h40)<|ws<|hK37 _ _ _<|sQ fun K41 hK42=>wb<|sr fun K43 hK44=>mv z<|mv z<|iK H fun⟨h45, h45'⟩H=>?_
 obtain ⟨ad46, cs47, hA48, hK49, hn50, hc51⟩ := Dat.get hD5 z_api_Slice (v16) h45 h45'
 obtain ⟨rfl⟩ := open_api_Slice hK49
 refine q_ia el24 z hA48 z h45 h45'<|q_fa fl36_5 z z<|q_lf hI35 ag9 z (gR.cel _ _ (hc51 5 _ z))<|q_lens so9 z<|q_gtr z z<|nl<|hK44 _ _ _<|dC (200 < (((a1.getD (Int.toNat v16) z_api_Slice).Text).size : Int)) (fun h52=>?_) fun h52=>?_
 refine yK h52 H fun H=>wt (bY h52)<|sr fun K53 hK54=>asn z<|nl<|hK54 _ _ _<|wr<|?_
 cases H
 exact ⟨z, z, ⟨z, tv⟩, hI35, tv⟩
 exact nK h52 H fun H=>wf (bN h52)<|ws<|hK42 _ _ _<|wpc_region<|mv z<|q_add z z<|asn z<|nl<|ih _ _ H _ _ ⟨z, z, tv⟩ hI35 z
 refine nK h40 H fun H=>wf (bN h40)<|wx<|?_
 cases H
 exact ⟨z, z, ⟨z, tv⟩, hI35, tv⟩
 rcases o31 with _ | _
 rintro e r ds wd25 ⟨rfl, rfl, hHas, hI26, _⟩
 rw [hHas.eq]; clear hHas
 cases H
 exact rt ⟨_, _, z, z, z⟩ hI26
 rintro e r ds wd29 ⟨rfl, rfl, hHas, hI30, _⟩
 rw [hHas.eq]; clear hHas
 refine hK9 _ _ _<|sr fun K55 hK56=>mv z<|q_len so24 z<|q_leq z z<|asn z<|nl<|hK56 _ _ _<|wr<|?_
 cases H
 exact rt ⟨_, _, z, z, z⟩ hI30
theorem formeref40_in_spec {a1 a2 a3 r1004 G L w} (H : formeref40_in a1 a2 a3 = some r1004) (hI : Hp G L w) :
    Calls Try.prog 31 [int .i64 a1, int .i64 a2, int .i64 a3].toArray w fun e w' => Hp G L w' ∧ e = .returned (bool r1004) := by
 refine calls_intro (N := 15) Try.func31 z z (Nat.le_of_ble_eq_true z)<|?_
 unfold formeref40_in at H
 refine sr fun K4 hK5=>asn z<|nl<|hK5 _ _ _<|sr fun K6 hK7=>mv z<|mv z<|q_leq z z<|mv z<|bK H fun v8 hC H=>js 4 hI [(14, bool v8)] ?_ fun _ wd11 hI12=>?_
 refine have H:=hC;dC (a2 ≤ a1) (fun h14=>?_) fun h14=>?_
 refine yK h14 H fun H=>mv (hw:=gY z z z (bY h14)) z<|mv (hw:=gY z z z (bY h14)) z<|q_leq (hw:=gY z z z (bY h14)) z z<|pkt (bY h14) z<|nl<|?_
 cases H
 exact je ⟨z, tv⟩ hI
 refine nK h14 H fun H=>Sk 3 z z (bN h14) z<|pkf (bN h14) z<|nl<|?_
 cases H
 exact je ⟨z, tv⟩ hI
 refine asn z<|nl<|hK7 _ _ _<|wr<|?_
 cases H
 exact rt ⟨_, _, z, z, z⟩ hI12
theorem formeref03_Reader_spec {a1 r1002 G L w} (H : formeref03_Reader a1 = some r1002) (hI : Hp G L w) :
    Calls Try.prog 32 [agg [int .i64 a1.Width, int .i64 a1.Scale, int .i64 a1.Lang].toArray].toArray w fun e w' => Hp G L w' ∧ e = .returned (bool r1002) := by
 refine calls_intro (N := 31) Try.func32 z z (Nat.le_of_ble_eq_true z)<|?_
 unfold formeref03_Reader at H
 refine sr fun K2 hK3=>bxk hI z z fun g5 wd6 hI7=>asn z<|nl<|hK3 _ _ _<|sr fun K8 hK9=>fa fl77_2 z<|ld hI7 0 ag3 z z z<|q_geq z z<|mv z<|bK H fun v10 hC H=>js 4 hI7 [(1, pointer (some ⟨g5, 0, none⟩)), (10, bool v10)] ?_ fun _ wd13 hI14=>?_
 refine have H:=hC;dC (0 ≤ a1.Lang) (fun h16=>?_) fun h16=>?_
 refine yK h16 H fun H=>fa (hw:=gY z z z (bY h16)) fl77_2 z<|ld (hw:=gY z z z (bY h16)) hI7 0 ag3 z z z<|q_lss (hw:=gY z z z (bY h16)) z z<|pkt (bY h16) z<|nl<|?_
 cases H
 exact je ⟨z, z, tv⟩ hI7
 refine nK h16 H fun H=>Sk 3 z z (bN h16) z<|pkf (bN h16) z<|nl<|?_
 cases H
 exact je ⟨z, z, tv⟩ hI7
 refine mv z<|bK H fun v17 hC H=>js 4 hI14 [(1, pointer (some ⟨g5, 0, none⟩)), (15, bool v17)] ?_ fun _ wd20 hI21=>?_
 refine have H:=hC;dC (v10 = true) (fun h23=>?_) fun h23=>?_
 refine yK h23 H fun H=>fa (hw:=gY z z z (vY h23)) fl77_1 z<|ld (hw:=gY z z z (vY h23)) hI14 0 ag3 z z z<|q_geq (hw:=gY z z z (vY h23)) z z<|pkt (vY h23) z<|nl<|?_
 cases H
 exact je ⟨z, z, tv⟩ hI14
 refine nK h23 H fun H=>Sk 3 z z (vN h23) z<|pkf (vN h23) z<|nl<|?_
 cases H
 exact je ⟨z, z, tv⟩ hI14
 refine mv z<|bK H fun v24 hC H=>js 4 hI21 [(1, pointer (some ⟨g5, 0, none⟩)), (20, bool v24)] ?_ fun _ wd27 hI28=>?_
 refine have H:=hC;dC (v17 = true) (fun h30=>?_) fun h30=>?_
 refine yK h30 H fun H=>fa (hw:=gY z z z (vY h30)) fl77_1 z<|ld (hw:=gY z z z (vY h30)) hI21 0 ag3 z z z<|q_leq (hw:=gY z z z (vY h30)) z z<|pkt (vY h30) z<|nl<|?_
 cases H
 exact je ⟨z, z, tv⟩ hI21
 refine nK h30 H fun H=>Sk 3 z z (vN h30) z<|pkf (vN h30) z<|nl<|?_
 cases H
 exact je ⟨z, z, tv⟩ hI21
 refine mv z<|bK H fun v31 hC H=>js 4 hI28 [(1, pointer (some ⟨g5, 0, none⟩)), (25, bool v31)] ?_ fun _ wd34 hI35=>?_
 refine have H:=hC;dC (v24 = true) (fun h37=>?_) fun h37=>?_
 refine yK h37 H fun H=>fa (hw:=gY z z z (vY h37)) fl77_0 z<|ld (hw:=gY z z z (vY h37)) hI28 0 ag3 z z z<|q_geq (hw:=gY z z z (vY h37)) z z<|pkt (vY h37) z<|nl<|?_
 cases H
 exact je ⟨z, z, tv⟩ hI28
 refine nK h37 H fun H=>Sk 3 z z (vN h37) z<|pkf (vN h37) z<|nl<|?_
 cases H
 exact je ⟨z, z, tv⟩ hI28
 refine mv z<|bK H fun v38 hC H=>js 4 hI35 [(30, bool v38)] ?_ fun _ wd41 hI42=>?_
 refine have H:=hC;dC (v31 = true) (fun h44=>?_) fun h44=>?_
 refine yK h44 H fun H=>fa (hw:=gY z z z (vY h44)) fl77_0 z<|ld (hw:=gY z z z (vY h44)) hI35 0 ag3 z z z<|q_leq (hw:=gY z z z (vY h44)) z z<|pkt (vY h44) z<|nl<|?_
 cases H
 exact je ⟨z, tv⟩ hI35
 refine nK h44 H fun H=>Sk 3 z z (vN h44) z<|pkf (vN h44) z<|nl<|?_
 cases H
 exact je ⟨z, tv⟩ hI35
 refine asn z<|nl<|hK9 _ _ _<|wr<|have hI45:=Hp.pick 1 [] hI42 z;?_
 cases H
 exact rt ⟨_, _, z, z, z⟩ hI45
theorem formeref40_Column_spec {a1 r1002 G L w} (H : formeref40_Column a1 = some r1002) (hI : Hp G L w) :
    Calls Try.prog 48 [agg [int .i64 a1.Width, int .i64 a1.Height, int .i64 a1.Columns, int .i64 a1.Gap, int .i64 a1.Scale, int .i64 a1.Lang].toArray].toArray w fun e w' => Hp G L w' ∧ e = .returned (int .i64 r1002) := by
 refine calls_intro (N := 16) Try.func48 z z (Nat.le_of_ble_eq_true z)<|?_
 unfold formeref40_Column at H
 refine sr fun K2 hK3=>bxk hI z z fun g5 wd6 hI7=>asn z<|nl<|hK3 _ _ _<|sr fun K8 hK9=>fa fl23_0 z<|ld hI7 0 ag3 z z z<|fa fl23_3 z<|ld hI7 0 ag3 z z z<|fa fl23_2 z<|ld hI7 0 ag3 z z z<|q_sub z z<|q_mul z z<|?_
 refine q_sub z z<|fa fl23_2 z<|ld hI7 0 ag3 z z z<|iK H fun h10 H=>q_quo z z h10<|q_max z z<|asn z<|nl<|hK9 _ _ _<|wr<|have hI11:=Hp.pick 1 [] hI7 z;?_
 cases H
 exact rt ⟨_, _, z, z, z⟩ hI11
theorem formeref40_Reader_spec {a1 r1002 G L w} (H : formeref40_Reader a1 = some r1002) (hI : Hp G L w) :
    Calls Try.prog 33 [agg [int .i64 a1.Width, int .i64 a1.Height, int .i64 a1.Columns, int .i64 a1.Gap, int .i64 a1.Scale, int .i64 a1.Lang].toArray].toArray w fun e w' => Hp G L w' ∧ e = .returned (agg [int .i64 r1002.Width, int .i64 r1002.Scale, int .i64 r1002.Lang].toArray) := by
 refine calls_intro (N := 10) Try.func33 z z (Nat.le_of_ble_eq_true z)<|?_
 unfold formeref40_Reader at H
 refine sr fun K2 hK3=>bxk hI z z fun g5 wd6 hI7=>q_alloc hI7 ze77 fun g9 wd10 hI11=>nl<|hK3 _ _ _<|sQ fun K12 hK13=>bK H fun y27 hy212 H=>?_
 refine wpc_drawL [0, 1, 0, 4, 0, 16, 63, 127] (fun D r w => (D 7 = false ∧ ∃ (G' : Gh), G ≤ G' ∧ Regs [(1, pointer (some ⟨g5, 0, none⟩)), (2, pointer (some ⟨g9, 0, none⟩))] [] [(0, 3, agg [int .i64 a1.Width, int .i64 a1.Height, int .i64 a1.Columns, int .i64 a1.Gap, int .i64 a1.Scale, int .i64 a1.Lang].toArray), (1, 4, int .i64 y27), (2, 5, pointer (some ⟨g5, 4, none⟩)), (3, 6, int .i64 a1.Scale), (4, 7, pointer (some ⟨g5, 5, none⟩)), (5, 8, int .i64 a1.Lang), (6, 9, agg [int .i64 y27, int .i64 a1.Scale, int .i64 a1.Lang].toArray)] D r ∧ Hp G' (bx g9 [int .i64 0, int .i64 0, int .i64 0] 77 :: bx g5 [int .i64 a1.Width, int .i64 a1.Height, int .i64 a1.Columns, int .i64 a1.Gap, int .i64 a1.Scale, int .i64 a1.Lang] 23 :: L) w) ∨ (D 7 = true ∧ ∃ (G' : Gh), G ≤ G' ∧ Regs [(1, pointer (some ⟨g5, 0, none⟩)), (2, pointer (some ⟨g9, 0, none⟩))] [] [(0, 3, agg [int .i64 a1.Width, int .i64 a1.Height, int .i64 a1.Columns, int .i64 a1.Gap, int .i64 a1.Scale, int .i64 a1.Lang].toArray), (1, 4, int .i64 y27), (2, 5, pointer (some ⟨g5, 4, none⟩)), (3, 6, int .i64 a1.Scale), (4, 7, pointer (some ⟨g5, 5, none⟩)), (5, 8, int .i64 a1.Lang), (6, 9, agg [int .i64 y27, int .i64 a1.Scale, int .i64 a1.Lang].toArray)] D r ∧ Hp G' (bx g9 [int .i64 y27, int .i64 a1.Scale, int .i64 a1.Lang] 77 :: bx g5 [int .i64 a1.Width, int .i64 a1.Height, int .i64 a1.Columns, int .i64 a1.Gap, int .i64 a1.Scale, int .i64 a1.Lang] 23 :: L) w)) mixo z z ?_ ?_ ?_
 exact (.inl ⟨z, _, Gh.le_refl _, Regs.start ⟨z, z, tv⟩ trivial, hI11.drew⟩)
 refine ⟨?_, ?_, ?_, ?_, ?_, ?_, ?_, ?_, tv⟩
 rintro D r wd229 (⟨hd2, G225, hG226, hReg228, hI227⟩ | ⟨hd1, G225, hG226, hReg228, hI227⟩) hDi hpre hpost
 obtain ⟨r0, rfl⟩ := Has.ex (cC (hReg228.ins.get 0 rfl) cN)
 exact lda hI227 1 ag23 z z z z<|nl ⟨z, (.inl ⟨hd2, _, hG226, (Regs.step hReg228 hDi z z z z), hI227⟩)⟩
 cases (hpost 7 rfl).symm.trans hd1
 rintro D r wd229 (⟨hd2, G225, hG226, hReg228, hI227⟩ | ⟨hd1, G225, hG226, hReg228, hI227⟩) hDi hpre hpost
 obtain ⟨r0, rfl⟩ := Has.ex (cC (hReg228.get 0 rfl (hpre 0 rfl)) cN)
 exact cv bo48 (formeref40_Column_spec hy212 hI227) z z fun wd25 hI26=>nl ⟨z, (.inl ⟨hd2, _, hG226, (Regs.step hReg228 hDi z z z z), hI26⟩)⟩
 cases (hpost 7 rfl).symm.trans hd1
 rintro D r wd229 (⟨hd2, G225, hG226, hReg228, hI227⟩ | ⟨hd1, G225, hG226, hReg228, hI227⟩) hDi hpre hpost
 obtain ⟨r0, rfl⟩ := Has.ex (cC (hReg228.ins.get 0 rfl) cN)
 exact fa fl23_4 z<|nl ⟨z, (.inl ⟨hd2, _, hG226, (Regs.step hReg228 hDi z z z z), hI227⟩)⟩
 cases (hpost 7 rfl).symm.trans hd1
 rintro D r wd229 (⟨hd2, G225, hG226, hReg228, hI227⟩ | ⟨hd1, G225, hG226, hReg228, hI227⟩) hDi hpre hpost
 obtain ⟨r0, rfl⟩ := Has.ex (cC (hReg228.get 2 rfl (hpre 2 rfl)) cN)
 exact ld hI227 1 ag3 z z z<|nl ⟨z, (.inl ⟨hd2, _, hG226, (Regs.step hReg228 hDi z z z z), hI227⟩)⟩
 cases (hpost 7 rfl).symm.trans hd1
 rintro D r wd229 (⟨hd2, G225, hG226, hReg228, hI227⟩ | ⟨hd1, G225, hG226, hReg228, hI227⟩) hDi hpre hpost
 obtain ⟨r0, rfl⟩ := Has.ex (cC (hReg228.ins.get 0 rfl) cN)
 exact fa fl23_5 z<|nl ⟨z, (.inl ⟨hd2, _, hG226, (Regs.step hReg228 hDi z z z z), hI227⟩)⟩
 cases (hpost 7 rfl).symm.trans hd1
 rintro D r wd229 (⟨hd2, G225, hG226, hReg228, hI227⟩ | ⟨hd1, G225, hG226, hReg228, hI227⟩) hDi hpre hpost
 obtain ⟨r0, rfl⟩ := Has.ex (cC (hReg228.get 4 rfl (hpre 4 rfl)) cN)
 exact ld hI227 1 ag3 z z z<|nl ⟨z, (.inl ⟨hd2, _, hG226, (Regs.step hReg228 hDi z z z z), hI227⟩)⟩
 cases (hpost 7 rfl).symm.trans hd1
 rintro D r wd229 (⟨hd2, G225, hG226, hReg228, hI227⟩ | ⟨hd1, G225, hG226, hReg228, hI227⟩) hDi hpre hpost
 obtain ⟨r0, rfl⟩ := Has.ex (cC (hReg228.get 1 rfl (hpre 1 rfl)) (cC (hReg228.get 3 rfl (hpre 3 rfl)) (cC (hReg228.get 5 rfl (hpre 5 rfl)) cN)))
 exact q_build (vs := [(0, int .i64 y27), (1, int .i64 a1.Scale), (2, int .i64 a1.Lang)]) (cs := [int .i64 y27, int .i64 a1.Scale, int .i64 a1.Lang]) ze77 pl77 z z<|nl ⟨z, (.inl ⟨hd2, _, hG226, (Regs.step hReg228 hDi z z z z), hI227⟩)⟩
 cases (hpost 7 rfl).symm.trans hd1
 rintro D r wd229 (⟨hd2, G225, hG226, hReg228, hI227⟩ | ⟨hd1, G225, hG226, hReg228, hI227⟩) hDi hpre hpost
 obtain ⟨r0, rfl⟩ := Has.ex (cC (hReg228.ins.get 1 rfl) (cC (hReg228.get 6 rfl (hpre 6 rfl)) cN))
 exact stk hI227 0 ag77 z z z z z z z fun wd223 hI224=>nl ⟨z, (.inr ⟨z, _, hG226, (Regs.stepN hReg228 z z), hI224⟩)⟩
 cases hDi.symm.trans hd1
 intro D r wd229 hall hR
 rcases hR with ⟨hd2, G225, hG226, hReg228, hI227⟩ | ⟨hd1, G225, hG226, hReg228, hI227⟩
 cases (hall 7 (Nat.le_of_ble_eq_true rfl)).symm.trans hd2
 obtain ⟨r0, rfl⟩ := Has.ex (cC (hReg228.ins.get 1 rfl) cN)
 refine hK13 _ _ _<|wr<|have hr230:=res_cell (P := Try.prog) hI227 0 (cs := [int .i64 y27, int .i64 a1.Scale, int .i64 a1.Lang]) (g := g9) (o := 0) ag77 z z z;have hI231:=Hp.pick 2 [] hI227 z;?_
 cases H
 exact rt ⟨_, _, _, z, z, hr230, z⟩ (Hp.low hG226 hI231)
theorem formeref40_Paper_spec {a1 r1002 G L w} (H : formeref40_Paper a1 = some r1002) (hI : Hp G L w) :
    Calls Try.prog 18 [agg [int .i64 a1.Width, int .i64 a1.Height, int .i64 a1.Columns, int .i64 a1.Gap, int .i64 a1.Scale, int .i64 a1.Lang].toArray].toArray w fun e w' => Hp G L w' ∧ e = .returned (bool r1002) := by
 refine calls_intro (N := 28) Try.func18 z z (Nat.le_of_ble_eq_true z)<|?_
 unfold formeref40_Paper at H
 refine sr fun K2 hK3=>bxk hI z z fun g5 wd6 hI7=>asn z<|nl<|hK3 _ _ _<|sQ fun K8 hK9=>sr fun K10 hK11=>fa fl23_2 z<|ld hI7 0 ag3 z z z<|bK H fun y17 hy12 H=>cv bo31 (formeref40_in_spec hy12 hI7) z z fun wd15 hI16=>q_not z<|mv z<|bK H fun v18 hC H=>?_
 refine js 5 hI16 [(1, pointer (some ⟨g5, 0, none⟩)), (12, bool v18)] ?_ fun _ wd21 hI22=>?_
 refine have H:=hC;dC ((!y17) = true) (fun h24=>?_) fun h24=>?_
 refine yK h24 H fun H=>Sk 4 z z (vY h24) z<|pkt (vY h24) z<|nl<|?_
 cases H
 exact je ⟨z, z, tv⟩ hI16
 refine nK h24 H fun H=>fa (hw:=gY z z z (vN h24)) fl23_3 z<|ld (hw:=gY z z z (vN h24)) hI16 0 ag3 z z z<|bK H fun y30 hy25 H=>cv (hw:=gY z z z (vN h24)) bo31 (formeref40_in_spec hy25 hI16) z z fun wd28 hI29=>q_not (hw:=gY z z z (vN h24)) z<|pkf (vN h24) z<|nl<|?_
 cases H
 exact je ⟨z, z, tv⟩ hI29
 refine mv z<|bK H fun v31 hC H=>js 5 hI22 [(1, pointer (some ⟨g5, 0, none⟩)), (18, bool v31)] ?_ fun _ wd34 hI35=>?_
 refine have H:=hC;dC (v18 = true) (fun h37=>?_) fun h37=>?_
 refine yK h37 H fun H=>Sk 4 z z (vY h37) z<|pkt (vY h37) z<|nl<|?_
 cases H
 exact je ⟨z, z, tv⟩ hI22
 refine nK h37 H fun H=>fa (hw:=gY z z z (vN h37)) fl23_0 z<|ld (hw:=gY z z z (vN h37)) hI22 0 ag3 z z z<|bK H fun y43 hy38 H=>cv (hw:=gY z z z (vN h37)) bo31 (formeref40_in_spec hy38 hI22) z z fun wd41 hI42=>q_not (hw:=gY z z z (vN h37)) z<|pkf (vN h37) z<|nl<|?_
 cases H
 exact je ⟨z, z, tv⟩ hI42
 refine mv z<|bK H fun v44 hC H=>js 5 hI35 [(1, pointer (some ⟨g5, 0, none⟩)), (24, bool v44)] ?_ fun _ wd47 hI48=>?_
 refine have H:=hC;dC (v31 = true) (fun h50=>?_) fun h50=>?_
 refine yK h50 H fun H=>Sk 4 z z (vY h50) z<|pkt (vY h50) z<|nl<|?_
 cases H
 exact je ⟨z, z, tv⟩ hI35
 refine nK h50 H fun H=>fa (hw:=gY z z z (vN h50)) fl23_1 z<|ld (hw:=gY z z z (vN h50)) hI35 0 ag3 z z z<|bK H fun y56 hy51 H=>cv (hw:=gY z z z (vN h50)) bo31 (formeref40_in_spec hy51 hI35) z z fun wd54 hI55=>q_not (hw:=gY z z z (vN h50)) z<|pkf (vN h50) z<|nl<|?_
 cases H
 exact je ⟨z, z, tv⟩ hI55
 refine nl<|hK11 _ _ _<|dC (v44 = true) (fun h57=>?_) fun h57=>?_
 refine yK h57 H fun H=>wt (vY h57)<|sr fun K58 hK59=>asn z<|nl<|hK59 _ _ _<|wr<|have hI60:=Hp.pick 1 [] hI48 z;?_
 cases H
 exact rt ⟨_, _, z, z, z⟩ hI60
 refine nK h57 H fun H=>wf (vN h57)<|ws<|hK9 _ _ _<|sr fun K61 hK62=>lda hI48 0 ag23 z z z z<|bK H fun y68 hy63 H=>cv bo33 (formeref40_Reader_spec hy63 hI48) z z fun wd66 hI67=>bK H fun y74 hy69 H=>cv bo32 (formeref03_Reader_spec hy69 hI67) z z fun wd72 hI73=>asn z<|nl<|hK62 _ _ _<|wr<|?_
 refine have hI75:=Hp.pick 1 [] hI73 z;?_
 cases H
 exact rt ⟨_, _, z, z, z⟩ hI75
theorem formeref06_Class_spec {a1 r1002 G L w} (H : formeref06_Class a1 = some r1002) (hI : Hp G L w) :
    Calls Try.prog 49 [int .u8 a1].toArray w fun e w' => Hp G L w' ∧ e = .returned (int .i64 r1002) := by
 refine calls_intro (N := 31) Try.func49 z z (Nat.le_of_ble_eq_true z)<|?_
 unfold formeref06_Class at H
 refine sr fun K2 hK3=>asn z<|nl<|hK3 _ _ _<|sQ fun K4 hK5=>sr fun K6 hK7=>mv z<|q_geq z z<|mv z<|bK H fun v8 hC H=>js 3 hI [(0, int .u8 a1), (8, bool v8)] ?_ fun _ wd11 hI12=>?_
 refine have H:=hC;dC (97 ≤ a1) (fun h14=>?_) fun h14=>?_
 refine yK h14 H fun H=>mv (hw:=gY z z z (bY h14)) z<|q_leq (hw:=gY z z z (bY h14)) z z<|pkt (bY h14) z<|nl<|?_
 cases H
 exact je ⟨z, z, tv⟩ hI
 refine nK h14 H fun H=>Sk 2 z z (bN h14) z<|pkf (bN h14) z<|nl<|?_
 cases H
 exact je ⟨z, z, tv⟩ hI
 refine nl<|hK7 _ _ _<|dC (v8 = true) (fun h15=>?_) fun h15=>?_
 refine yK h15 H fun H=>wt (vY h15)<|sr fun K16 hK17=>asn z<|nl<|hK17 _ _ _<|wr<|?_
 cases H
 exact rt ⟨_, _, z, z, z⟩ hI12
 refine nK h15 H fun H=>wf (vN h15)<|ws<|hK5 _ _ _<|sQ fun K18 hK19=>sr fun K20 hK21=>mv z<|q_geq z z<|mv z<|bK H fun v22 hC H=>js 3 hI12 [(0, int .u8 a1), (14, bool v22)] ?_ fun _ wd25 hI26=>?_
 refine have H:=hC;dC (65 ≤ a1) (fun h28=>?_) fun h28=>?_
 refine yK h28 H fun H=>mv (hw:=gY z z z (bY h28)) z<|q_leq (hw:=gY z z z (bY h28)) z z<|pkt (bY h28) z<|nl<|?_
 cases H
 exact je ⟨z, z, tv⟩ hI12
 refine nK h28 H fun H=>Sk 2 z z (bN h28) z<|pkf (bN h28) z<|nl<|?_
 cases H
 exact je ⟨z, z, tv⟩ hI12
 refine nl<|hK21 _ _ _<|dC (v22 = true) (fun h29=>?_) fun h29=>?_
 refine yK h29 H fun H=>wt (vY h29)<|sr fun K30 hK31=>asn z<|nl<|hK31 _ _ _<|wr<|?_
 cases H
 exact rt ⟨_, _, z, z, z⟩ hI26
 refine nK h29 H fun H=>wf (vN h29)<|ws<|hK19 _ _ _<|sQ fun K32 hK33=>sr fun K34 hK35=>mv z<|q_geq z z<|mv z<|bK H fun v36 hC H=>js 3 hI26 [(0, int .u8 a1), (20, bool v36)] ?_ fun _ wd39 hI40=>?_
 refine have H:=hC;dC (48 ≤ a1) (fun h42=>?_) fun h42=>?_
 refine yK h42 H fun H=>mv (hw:=gY z z z (bY h42)) z<|q_leq (hw:=gY z z z (bY h42)) z z<|pkt (bY h42) z<|nl<|?_
 cases H
 exact je ⟨z, z, tv⟩ hI26
 refine nK h42 H fun H=>Sk 2 z z (bN h42) z<|pkf (bN h42) z<|nl<|?_
 cases H
 exact je ⟨z, z, tv⟩ hI26
 refine nl<|hK35 _ _ _<|dC (v36 = true) (fun h43=>?_) fun h43=>?_
 refine yK h43 H fun H=>wt (vY h43)<|sr fun K44 hK45=>asn z<|nl<|hK45 _ _ _<|wr<|?_
 cases H
 exact rt ⟨_, _, z, z, z⟩ hI40
 refine nK h43 H fun H=>wf (vN h43)<|ws<|hK33 _ _ _<|sQ fun K46 hK47=>sr fun K48 hK49=>mv z<|q_eql z z<|nl<|hK49 _ _ _<|dC (a1 = 32) (fun h50=>?_) fun h50=>?_
 refine yK h50 H fun H=>wt (bY h50)<|sr fun K51 hK52=>asn z<|nl<|hK52 _ _ _<|wr<|?_
 cases H
 exact rt ⟨_, _, z, z, z⟩ hI40
 refine nK h50 H fun H=>wf (bN h50)<|ws<|hK47 _ _ _<|sQ fun K53 hK54=>sr fun K55 hK56=>mv z<|q_eql z z<|nl<|hK56 _ _ _<|dC (a1 = 126) (fun h57=>?_) fun h57=>?_
 refine yK h57 H fun H=>wt (bY h57)<|sr fun K58 hK59=>asn z<|nl<|hK59 _ _ _<|wr<|?_
 cases H
 exact rt ⟨_, _, z, z, z⟩ hI40
 refine nK h57 H fun H=>wf (bN h57)<|ws<|hK54 _ _ _<|sQ fun K60 hK61=>sr fun K62 hK63=>mv z<|q_gtr z z<|mv z<|bK H fun v64 hC H=>js 3 hI40 [(30, bool v64)] ?_ fun _ wd67 hI68=>?_
 refine have H:=hC;dC (32 < a1) (fun h70=>?_) fun h70=>?_
 refine yK h70 H fun H=>mv (hw:=gY z z z (bY h70)) z<|q_lss (hw:=gY z z z (bY h70)) z z<|pkt (bY h70) z<|nl<|?_
 cases H
 exact je ⟨z, tv⟩ hI40
 refine nK h70 H fun H=>Sk 2 z z (bN h70) z<|pkf (bN h70) z<|nl<|?_
 cases H
 exact je ⟨z, tv⟩ hI40
 refine nl<|hK63 _ _ _<|dC (v64 = true) (fun h71=>?_) fun h71=>?_
 refine yK h71 H fun H=>wt (vY h71)<|sr fun K72 hK73=>asn z<|nl<|hK73 _ _ _<|wr<|?_
 cases H
 exact rt ⟨_, _, z, z, z⟩ hI68
 refine nK h71 H fun H=>wf (vN h71)<|ws<|hK61 _ _ _<|sr fun K74 hK75=>asn z<|nl<|hK75 _ _ _<|wr<|?_
 cases H
 exact rt ⟨_, _, z, z, z⟩ hI68
theorem formeref06_Valid_spec {a1 r1002 G L w} (H : formeref06_Valid a1 = some r1002) (hI : Hp G L w) :
    Calls Try.prog 34 [string a1].toArray w fun e w' => Hp G L w' ∧ e = .returned (bool r1002) := by
 refine calls_intro (N := 18) Try.func34 z z (Nat.le_of_ble_eq_true z)<|?_
 unfold formeref06_Valid at H
 refine sr fun K2 hK3=>asn z<|nl<|hK3 _ _ _<|sQ fun K4 hK5=>sr fun K6 hK7=>asn z<|nl<|hK7 _ _ _<|wb<|bK H fun o27 hC H=>wpc_mono (Q := fun e r ds w => match (generalizing := false) o27 with | (Sum.inl _) => e = .ret ∧ ds = [] ∧ Has [(2, bool false)] r ∧ Hp G (L) w ∧ True | (Sum.inr _) => e = .exit 0 ∧ ds = [] ∧ Has [(0, string a1)] r ∧ Hp G (L) w ∧ True) ?_ ?_
 refine wpc_loop fun I hLp=>?_
 refine formeref06_Valid_l18.partial_correctness a1 (fun v12 o => ∀ (r : Rg) (w : World), Has [(0, string a1), (3, int .i64 v12)] r → Hp G (L) w → o = o27 → I r [] w) ?_ 0 _ hC _ _ ⟨rfl, rfl, tv⟩ hI rfl
 intro _ ih v12 o H r wd30 hHas hI31 ho
 rw [ho] at H; clear ho
 rw [hHas.eq]; clear hHas
 refine hLp _ _ _<|sQ fun K32 hK33=>sr fun K34 hK35=>mv z<|mv z<|q_lens so9 z<|q_lss z z<|nl<|hK35 _ _ _<|dC (v12 < (a1.size : Int)) (fun h36=>?_) fun h36=>?_
 refine yK h36 H fun H=>wt (bY h36)<|ws<|hK33 _ _ _<|sQ fun K37 hK38=>wb<|sr fun K39 hK40=>mv z<|mv z<|iK H fun⟨h41, h41'⟩H=>q_is so9 z z h41 h41' z<|bK H fun y47 hy42 H=>cv bo49 (formeref06_Class_spec hy42 hI31) z z fun wd45 hI46=>q_eql z z<|?_
 refine nl<|hK40 _ _ _<|dC (y47 = 0) (fun h48=>?_) fun h48=>?_
 refine yK h48 H fun H=>wt (bY h48)<|sr fun K49 hK50=>asn z<|nl<|hK50 _ _ _<|wr<|?_
 cases H
 exact ⟨z, z, ⟨z, tv⟩, hI46, tv⟩
 exact nK h48 H fun H=>wf (bN h48)<|ws<|hK38 _ _ _<|wpc_region<|mv z<|q_add z z<|asn z<|nl<|ih _ _ H _ _ ⟨z, z, tv⟩ hI46 z
 refine nK h36 H fun H=>wf (bN h36)<|wx<|?_
 cases H
 exact ⟨z, z, ⟨z, tv⟩, hI31, tv⟩
 rcases o27 with _ | _
 rintro e r ds wd21 ⟨rfl, rfl, hHas, hI22, _⟩
 rw [hHas.eq]; clear hHas
 cases H
 exact rt ⟨_, _, z, z, z⟩ hI22
 rintro e r ds wd25 ⟨rfl, rfl, hHas, hI26, _⟩
 rw [hHas.eq]; clear hHas
 refine hK5 _ _ _<|sr fun K51 hK52=>mv z<|q_lens so9 z<|q_leq z z<|asn z<|nl<|hK52 _ _ _<|wr<|?_
 cases H
 exact rt ⟨_, _, z, z, z⟩ hI26
theorem formeref40_coord_spec {a1 r1002 G L w} (H : formeref40_coord a1 = some r1002) (hI : Hp G L w) :
    Calls Try.prog 35 [int .i64 a1].toArray w fun e w' => Hp G L w' ∧ e = .returned (bool r1002) := by
 refine calls_intro (N := 5) Try.func35 z z (Nat.le_of_ble_eq_true z)<|?_
 unfold formeref40_coord at H
 refine sr fun K2 hK3=>asn z<|nl<|hK3 _ _ _<|sr fun K4 hK5=>mv z<|bK H fun y11 hy6 H=>cv bo31 (formeref40_in_spec hy6 hI) z z fun wd9 hI10=>asn z<|nl<|hK5 _ _ _<|wr<|?_
 cases H
 exact rt ⟨_, _, z, z, z⟩ hI10
theorem formeref40_Right_spec {a1} {a6 : List Bool} {A2 c3 A7 c8 r1011 G L w} (H : formeref40_Right a1 a6 = some r1011) (hI : Hp G L w) (hl4 : a1.length ≤ c3) (hD5 : Dat k_api_Slice G A2 a1) (hl9 : a6.length ≤ c8) (hD10 : Dat Kd.bool G A7 a6) :
    Calls Try.prog 19 [slice A2 a1.length c3, slice A7 a6.length c8].toArray w fun e w' => Hp G L w' ∧ e = .returned (bool r1011) := by
 refine calls_intro (N := 78) Try.func19 z z (Nat.le_of_ble_eq_true z)<|?_
 unfold formeref40_Right at H
 refine sr fun K11 hK12=>asn z<|nl<|hK12 _ _ _<|sQ fun K13 hK14=>sr fun K15 hK16=>asn z<|nl<|hK16 _ _ _<|wb<|bK H fun o36 hC H=>wpc_mono (Q := fun e r ds w => match (generalizing := false) o36 with | (Sum.inl _) => e = .ret ∧ ds = [] ∧ Has [(4, bool false)] r ∧ Hp G (L) w ∧ True | (Sum.inr _) => e = .exit 0 ∧ ds = [] ∧ Has [(0, slice A2 a1.length c3), (1, slice A7 a6.length c8)] r ∧ Hp G (L) w ∧ True) ?_ ?_
 refine wpc_loop fun I hLp=>?_
 refine formeref40_Right_l27.partial_correctness a1 (fun v21 o => ∀ (r : Rg) (w : World), Has [(0, slice A2 a1.length c3), (1, slice A7 a6.length c8), (5, int .i64 v21)] r → Hp G (L) w → o = o36 → I r [] w) ?_ 0 _ hC _ _ ⟨rfl, rfl, rfl, tv⟩ hI rfl
 intro _ ih v21 o H r wd39 hHas hI40 ho
 rw [ho] at H; clear ho
 rw [hHas.eq]; clear hHas
 refine hLp _ _ _<|sQ fun K41 hK42=>sr fun K43 hK44=>mv z<|mv z<|q_len so24 z<|q_lss z z<|nl<|hK44 _ _ _<|dC (v21 < (a1.length : Int)) (fun h45=>?_) fun h45=>?_
 refine yK h45 H fun H=>wt (bY h45)<|ws<|hK42 _ _ _<|sQ fun K46 hK47=>wb<|sr fun K48 hK49=>mv z<|mv z<|iK H fun⟨h50, h50'⟩H=>?_
 obtain ⟨ad51, cs52, hA53, hK54, hn55, hc56⟩ := Dat.get hD5 z_api_Slice (v21) h50 h50'
 obtain ⟨rfl⟩ := open_api_Slice hK54
 refine q_ia el24 z hA53 z h50 h50'<|q_lfA hI40 ag36 z (cs := [int .i64 ((a1.getD (Int.toNat v21) z_api_Slice).Node), int .i64 ((a1.getD (Int.toNat v21) z_api_Slice).Table), int .i64 ((a1.getD (Int.toNat v21) z_api_Slice).X), int .i64 ((a1.getD (Int.toNat v21) z_api_Slice).Y), int .i64 ((a1.getD (Int.toNat v21) z_api_Slice).H), string ((a1.getD (Int.toNat v21) z_api_Slice).Text), bool ((a1.getD (Int.toNat v21) z_api_Slice).Head), bool ((a1.getD (Int.toNat v21) z_api_Slice).Note)]) z (fun j v hv => gR.cel _ _ (hc56 j v hv))<|q_alloc hI40 ze36 fun g58 wd59 hI60=>stk hI60 0 ag36 z z z z z z z fun wd61 hI62=>nl<|hK49 _ _ _<|sr fun K63 hK64=>fa fl36_5 z<|ld hI62 0 ag9 z z z<|bK H fun y70 hy65 H=>cv bo34 (formeref06_Valid_spec hy65 hI62) z z fun wd68 hI69=>asn z<|nl<|hK64 _ _ _<|?_
 refine sQ fun K71 hK72=>bK H fun v75 hC H=>jc .normal hI69 [(0, slice A2 a1.length c3), (1, slice A7 a6.length c8), (5, int .i64 v21), (67, bool v75)] ?_ fun _ wd78 hI79=>?_
 refine have H:=hC;?_
 refine wpc_class hI69 mixo (by kernel_rfl) ?_
 refine wq' (fun Gq w hGq Iq=>mv z wqd) z z<|wq' (fun Gq w hGq Iq=>q_not z wqd) z z<|wq' (fun Gq w hGq Iq=>mv z wqd) z z<|dC ((!y70) = true) (fun h85=>?_) fun h85=>?_
 refine yK h85 H fun H=>wp (guard_no z z z (vY h85) z)<|wp (guard_no z z z (vY h85) z)<|wp (guard_no z z z (vY h85) z)<|wp (guard_no z z z (vY h85) z)<|wq' (fun Gq w hGq Iq=>pkt (vY h85) z wqd) z z<|wq' (fun Gq w hGq Iq=>mv z wqd) z z<|wp (guard_no z z z z z)<|wp (guard_no z z z z z)<|wp (guard_no z z z z z)<|wp (guard_no z z z z z)<|wq' (fun Gq w hGq Iq=>pkt z z wqd) z z<|wq' (fun Gq w hGq Iq=>mv z wqd) z z<|wp (guard_no z z z z z)<|?_
 refine wp (guard_no z z z z z)<|wp (guard_no z z z z z)<|wp (guard_no z z z z z)<|wq' (fun Gq w hGq Iq=>pkt z z wqd) z z<|wq' (fun Gq w hGq Iq=>mv z wqd) z z<|wp (guard_no z z z z z)<|wp (guard_no z z z z z)<|wp (guard_no z z z z z)<|wp (guard_no z z z z z)<|wq' (fun Gq w hGq Iq=>pkt z z wqd) z z<|wq' (fun Gq w hGq Iq=>mv z wqd) z z<|wp (guard_no z z z z z)<|wp (guard_no z z z z z)<|wp (guard_no z z z z z)<|?_
 refine wp (guard_no z z z z z)<|wq' (fun Gq w hGq Iq=>pkt z z wqd) z z<|wq' (fun Gq w hGq Iq=>mv z wqd) z z<|wp (guard_no z z z z z)<|wp (guard_no z z z z z)<|wp (guard_no z z z z z)<|wp (guard_no z z z z z)<|wp (guard_no z z z z z)<|wp (guard_no z z z z z)<|wp (guard_no z z z z z)<|wp (guard_no z z z z z)<|wp (guard_no z z z z z)<|wp (guard_no z z z z z)<|wp (guard_no z z z z z)<|?_
 refine wp (guard_no z z z z z)<|wp (guard_no z z z z z)<|wq' (fun Gq w hGq Iq=>pkt z z wqd) z z<|wz fun wd83 G81 hG82 hI84=>?_
 cases H
 exact je ⟨z, z, z, z, tv⟩ (Hp.low hG82 hI84)
 refine nK h85 H fun H=>wq' (fun Gq w hGq Iq=>fa (hw:=gY z z z (vN h85)) fl36_0 z wqd) z z<|wq' (fun Gq w hGq Iq=>ld (hw:=gY z z z (vN h85)) Iq 0 ag3 z z z wqd) z z<|bK H fun y87 hy86 H=>wk (vs := [int .i64 ((a1.getD (Int.toNat v21) z_api_Slice).Node), int .i64 1, int .i64 1000000]) (v := bool y87) bo31 z z (fun Gq w hGq Iq => ?_) ?_ (hw := gY z z z (bval_no h85))
 refine Calls.mono (formeref40_in_spec hy86 Iq)<|?_
 rintro _ w2 ⟨I2, rfl⟩
 exact ⟨z, _, hGq, I2⟩
 refine wq' (fun Gq w hGq Iq=>q_not (hw:=gY z z z (vN h85)) z wqd) z z<|wq' (fun Gq w hGq Iq=>pkf (vN h85) z wqd) z z<|wq' (fun Gq w hGq Iq=>mv z wqd) z z<|dC ((!y87) = true) (fun h88=>?_) fun h88=>?_
 refine yK h88 H fun H=>wp (guard_no z z z (vY h88) z)<|wp (guard_no z z z (vY h88) z)<|wp (guard_no z z z (vY h88) z)<|wp (guard_no z z z (vY h88) z)<|wq' (fun Gq w hGq Iq=>pkt (vY h88) z wqd) z z<|wq' (fun Gq w hGq Iq=>mv z wqd) z z<|wp (guard_no z z z z z)<|wp (guard_no z z z z z)<|wp (guard_no z z z z z)<|wp (guard_no z z z z z)<|wq' (fun Gq w hGq Iq=>pkt z z wqd) z z<|wq' (fun Gq w hGq Iq=>mv z wqd) z z<|wp (guard_no z z z z z)<|?_
 refine wp (guard_no z z z z z)<|wp (guard_no z z z z z)<|wp (guard_no z z z z z)<|wq' (fun Gq w hGq Iq=>pkt z z wqd) z z<|wq' (fun Gq w hGq Iq=>mv z wqd) z z<|wp (guard_no z z z z z)<|wp (guard_no z z z z z)<|wp (guard_no z z z z z)<|wp (guard_no z z z z z)<|wq' (fun Gq w hGq Iq=>pkt z z wqd) z z<|wq' (fun Gq w hGq Iq=>mv z wqd) z z<|wp (guard_no z z z z z)<|wp (guard_no z z z z z)<|wp (guard_no z z z z z)<|?_
 refine wp (guard_no z z z z z)<|wp (guard_no z z z z z)<|wp (guard_no z z z z z)<|wp (guard_no z z z z z)<|wp (guard_no z z z z z)<|wp (guard_no z z z z z)<|wp (guard_no z z z z z)<|wp (guard_no z z z z z)<|wp (guard_no z z z z z)<|wp (guard_no z z z z z)<|wq' (fun Gq w hGq Iq=>pkt z z wqd) z z<|wz fun wd83 G81 hG82 hI84=>?_
 cases H
 exact je ⟨z, z, z, z, tv⟩ (Hp.low hG82 hI84)
 refine nK h88 H fun H=>wq' (fun Gq w hGq Iq=>fa (hw:=gY z z z (vN h88)) fl36_1 z wqd) z z<|wq' (fun Gq w hGq Iq=>ld (hw:=gY z z z (vN h88)) Iq 0 ag3 z z z wqd) z z<|bK H fun y90 hy89 H=>wk (vs := [int .i64 ((a1.getD (Int.toNat v21) z_api_Slice).Table), int .i64 0, int .i64 1000000]) (v := bool y90) bo31 z z (fun Gq w hGq Iq => ?_) ?_ (hw := gY z z z (bval_no h88))
 refine Calls.mono (formeref40_in_spec hy89 Iq)<|?_
 rintro _ w2 ⟨I2, rfl⟩
 exact ⟨z, _, hGq, I2⟩
 refine wq' (fun Gq w hGq Iq=>q_not (hw:=gY z z z (vN h88)) z wqd) z z<|wq' (fun Gq w hGq Iq=>pkf (vN h88) z wqd) z z<|wq' (fun Gq w hGq Iq=>mv z wqd) z z<|dC ((!y90) = true) (fun h91=>?_) fun h91=>?_
 refine yK h91 H fun H=>wp (guard_no z z z (vY h91) z)<|wp (guard_no z z z (vY h91) z)<|wp (guard_no z z z (vY h91) z)<|wp (guard_no z z z (vY h91) z)<|wq' (fun Gq w hGq Iq=>pkt (vY h91) z wqd) z z<|wq' (fun Gq w hGq Iq=>mv z wqd) z z<|wp (guard_no z z z z z)<|wp (guard_no z z z z z)<|wp (guard_no z z z z z)<|wp (guard_no z z z z z)<|wq' (fun Gq w hGq Iq=>pkt z z wqd) z z<|wq' (fun Gq w hGq Iq=>mv z wqd) z z<|wp (guard_no z z z z z)<|?_
 refine wp (guard_no z z z z z)<|wp (guard_no z z z z z)<|wp (guard_no z z z z z)<|wq' (fun Gq w hGq Iq=>pkt z z wqd) z z<|wq' (fun Gq w hGq Iq=>mv z wqd) z z<|wp (guard_no z z z z z)<|wp (guard_no z z z z z)<|wp (guard_no z z z z z)<|wp (guard_no z z z z z)<|wp (guard_no z z z z z)<|wp (guard_no z z z z z)<|wp (guard_no z z z z z)<|wp (guard_no z z z z z)<|wp (guard_no z z z z z)<|?_
 refine wp (guard_no z z z z z)<|wp (guard_no z z z z z)<|wp (guard_no z z z z z)<|wp (guard_no z z z z z)<|wq' (fun Gq w hGq Iq=>pkt z z wqd) z z<|wz fun wd83 G81 hG82 hI84=>?_
 cases H
 exact je ⟨z, z, z, z, tv⟩ (Hp.low hG82 hI84)
 refine nK h91 H fun H=>wq' (fun Gq w hGq Iq=>fa (hw:=gY z z z (vN h91)) fl36_2 z wqd) z z<|wq' (fun Gq w hGq Iq=>ld (hw:=gY z z z (vN h91)) Iq 0 ag3 z z z wqd) z z<|bK H fun y93 hy92 H=>wk (vs := [int .i64 ((a1.getD (Int.toNat v21) z_api_Slice).X)]) (v := bool y93) bo35 z z (fun Gq w hGq Iq => ?_) ?_ (hw := gY z z z (bval_no h91))
 refine Calls.mono (formeref40_coord_spec hy92 Iq)<|?_
 rintro _ w2 ⟨I2, rfl⟩
 exact ⟨z, _, hGq, I2⟩
 refine wq' (fun Gq w hGq Iq=>q_not (hw:=gY z z z (vN h91)) z wqd) z z<|wq' (fun Gq w hGq Iq=>pkf (vN h91) z wqd) z z<|wq' (fun Gq w hGq Iq=>mv z wqd) z z<|dC ((!y93) = true) (fun h94=>?_) fun h94=>?_
 refine yK h94 H fun H=>wp (guard_no z z z (vY h94) z)<|wp (guard_no z z z (vY h94) z)<|wp (guard_no z z z (vY h94) z)<|wp (guard_no z z z (vY h94) z)<|wq' (fun Gq w hGq Iq=>pkt (vY h94) z wqd) z z<|wq' (fun Gq w hGq Iq=>mv z wqd) z z<|wp (guard_no z z z z z)<|wp (guard_no z z z z z)<|wp (guard_no z z z z z)<|wp (guard_no z z z z z)<|wq' (fun Gq w hGq Iq=>pkt z z wqd) z z<|wq' (fun Gq w hGq Iq=>mv z wqd) z z<|wp (guard_no z z z z z)<|?_
 refine wp (guard_no z z z z z)<|wp (guard_no z z z z z)<|wp (guard_no z z z z z)<|wp (guard_no z z z z z)<|wp (guard_no z z z z z)<|wp (guard_no z z z z z)<|wp (guard_no z z z z z)<|wp (guard_no z z z z z)<|wp (guard_no z z z z z)<|wp (guard_no z z z z z)<|wp (guard_no z z z z z)<|wp (guard_no z z z z z)<|wq' (fun Gq w hGq Iq=>pkt z z wqd) z z<|wz fun wd83 G81 hG82 hI84=>?_
 cases H
 exact je ⟨z, z, z, z, tv⟩ (Hp.low hG82 hI84)
 refine nK h94 H fun H=>wq' (fun Gq w hGq Iq=>fa (hw:=gY z z z (vN h94)) fl36_3 z wqd) z z<|wq' (fun Gq w hGq Iq=>ld (hw:=gY z z z (vN h94)) Iq 0 ag3 z z z wqd) z z<|bK H fun y96 hy95 H=>wk (vs := [int .i64 ((a1.getD (Int.toNat v21) z_api_Slice).Y)]) (v := bool y96) bo35 z z (fun Gq w hGq Iq => ?_) ?_ (hw := gY z z z (bval_no h94))
 refine Calls.mono (formeref40_coord_spec hy95 Iq)<|?_
 rintro _ w2 ⟨I2, rfl⟩
 exact ⟨z, _, hGq, I2⟩
 refine wq' (fun Gq w hGq Iq=>q_not (hw:=gY z z z (vN h94)) z wqd) z z<|wq' (fun Gq w hGq Iq=>pkf (vN h94) z wqd) z z<|wq' (fun Gq w hGq Iq=>mv z wqd) z z<|dC ((!y96) = true) (fun h97=>?_) fun h97=>?_
 refine yK h97 H fun H=>wp (guard_no z z z (vY h97) z)<|wp (guard_no z z z (vY h97) z)<|wp (guard_no z z z (vY h97) z)<|wp (guard_no z z z (vY h97) z)<|wq' (fun Gq w hGq Iq=>pkt (vY h97) z wqd) z z<|wq' (fun Gq w hGq Iq=>mv z wqd) z z<|wp (guard_no z z z z z)<|wp (guard_no z z z z z)<|wp (guard_no z z z z z)<|wp (guard_no z z z z z)<|wp (guard_no z z z z z)<|wp (guard_no z z z z z)<|wp (guard_no z z z z z)<|?_
 refine wp (guard_no z z z z z)<|wp (guard_no z z z z z)<|wp (guard_no z z z z z)<|wp (guard_no z z z z z)<|wp (guard_no z z z z z)<|wp (guard_no z z z z z)<|wq' (fun Gq w hGq Iq=>pkt z z wqd) z z<|wz fun wd83 G81 hG82 hI84=>?_
 cases H
 exact je ⟨z, z, z, z, tv⟩ (Hp.low hG82 hI84)
 refine nK h97 H fun H=>wq' (fun Gq w hGq Iq=>fa (hw:=gY z z z (vN h97)) fl36_4 z wqd) z z<|wq' (fun Gq w hGq Iq=>ld (hw:=gY z z z (vN h97)) Iq 0 ag3 z z z wqd) z z<|bK H fun y99 hy98 H=>wk (vs := [int .i64 ((a1.getD (Int.toNat v21) z_api_Slice).H), int .i64 0, int .i64 1000000]) (v := bool y99) bo31 z z (fun Gq w hGq Iq => ?_) ?_ (hw := gY z z z (bval_no h97))
 refine Calls.mono (formeref40_in_spec hy98 Iq)<|?_
 rintro _ w2 ⟨I2, rfl⟩
 exact ⟨z, _, hGq, I2⟩
 refine wq' (fun Gq w hGq Iq=>q_not (hw:=gY z z z (vN h97)) z wqd) z z<|wq' (fun Gq w hGq Iq=>pkf (vN h97) z wqd) z z<|wq' (fun Gq w hGq Iq=>mv z wqd) z z<|dC ((!y99) = true) (fun h100=>?_) fun h100=>?_
 refine yK h100 H fun H=>wp (guard_no z z z (vY h100) z)<|wp (guard_no z z z (vY h100) z)<|wp (guard_no z z z (vY h100) z)<|wp (guard_no z z z z z)<|wp (guard_no z z z z z)<|wp (guard_no z z z z z)<|wp (guard_no z z z z z)<|wp (guard_no z z z z z)<|wp (guard_no z z z z z)<|wp (guard_no z z z z z)<|wp (guard_no z z z z z)<|wp (guard_no z z z z z)<|wp (guard_no z z z (vY h100) z)<|?_
 refine wq' (fun Gq w hGq Iq=>pkt (vY h100) z wqd) z z<|wz fun wd83 G81 hG82 hI84=>?_
 cases H
 exact je ⟨z, z, z, z, tv⟩ (Hp.low hG82 hI84)
 refine nK h100 H fun H=>wq' (fun Gq w hGq Iq=>mv (hw:=gY z z z (vN h100)) z wqd) z z<|wq' (fun Gq w hGq Iq=>q_gtr (hw:=gY z z z (vN h100)) z z wqd) z z<|wq' (fun Gq w hGq Iq=>mv (hw:=gY z z z (vN h100)) z wqd) z z<|dC (0 < v21) (fun h101=>?_) fun h101=>?_
 refine yK h101 H fun H=>wq' (fun Gq w hGq Iq=>fa (hw:=gY z z z (bY h101)) fl36_3 z wqd) z z<|wq' (fun Gq w hGq Iq=>ld (hw:=gY z z z (bY h101)) Iq 0 ag3 z z z wqd) z z<|wq' (fun Gq w hGq Iq=>mv (hw:=gY z z z (bY h101)) z wqd) z z<|wq' (fun Gq w hGq Iq=>mv (hw:=gY z z z (bY h101)) z wqd) z z<|wq' (fun Gq w hGq Iq=>q_sub (hw:=gY z z z (bY h101)) z z wqd) z z<|iK H fun⟨h102, h102'⟩H=>?_
 obtain ⟨ad103, cs104, hA105, hK106, hn107, hc108⟩ := Dat.get hD5 z_api_Slice (w64 (v21 - 1)) h102 h102'
 obtain ⟨rfl⟩ := open_api_Slice hK106
 refine wq' (fun Gq w hGq Iq=>q_ia (hw:=gY z z z (bY h101)) el24 z hA105 z h102 h102' wqd) z z<|wq' (fun Gq w hGq Iq=>q_fa (hw:=gY z z z (bY h101)) fl36_3 z z wqd) z z<|wq' (fun Gq w hGq Iq=>q_lf (hw:=gY z z z (bY h101)) Iq ag3 z (hGq.cel _ _ (hc108 3 _ z)) wqd) z z<|wq' (fun Gq w hGq Iq=>q_lss (hw:=gY z z z (bY h101)) z z wqd) z z<|wq' (fun Gq w hGq Iq=>pkt (hw:=gY z z z (vN h100)) (bY h101) z wqd) z z<|wq' (fun Gq w hGq Iq=>pkf (vN h100) z wqd) z z<|wz fun wd83 G81 hG82 hI84=>?_
 cases H
 exact je ⟨z, z, z, z, tv⟩ (Hp.low hG82 hI84)
 refine nK h101 H fun H=>wp (guard_no z z z (bN h101) z)<|wp (guard_no z z z (bN h101) z)<|wp (guard_no z z z (bN h101) z)<|wp (guard_no z z z (bN h101) z)<|wp (guard_no z z z (bN h101) z)<|wp (guard_no z z z (bN h101) z)<|wp (guard_no z z z (bN h101) z)<|wp (guard_no z z z (bN h101) z)<|wp (guard_no z z z (bN h101) z)<|wq' (fun Gq w hGq Iq=>pkf (hw:=gY z z z (vN h100)) (bN h101) z wqd) z z<|wq' (fun Gq w hGq Iq=>pkf (vN h100) z wqd) z z<|wz fun wd83 G81 hG82 hI84=>?_
 cases H
 exact je ⟨z, z, z, z, tv⟩ (Hp.low hG82 hI84)
 refine hK72 _ _ _<|dC (v75 = true) (fun h109=>?_) fun h109=>?_
 refine yK h109 H fun H=>wt (vY h109)<|sr fun K110 hK111=>asn z<|nl<|hK111 _ _ _<|wr<|have hI112:=Hp.pick 1 [] hI79 z;?_
 cases H
 exact ⟨z, z, ⟨z, tv⟩, hI112, tv⟩
 exact nK h109 H fun H=>wf (vN h109)<|ws<|hK47 _ _ _<|wpc_region<|mv z<|q_add z z<|asn z<|nl<|have hI113:=Hp.pick 1 [] hI79 z;ih _ _ H _ _ ⟨z, z, z, tv⟩ hI113 z
 refine nK h45 H fun H=>wf (bN h45)<|wx<|?_
 cases H
 exact ⟨z, z, ⟨z, z, tv⟩, hI40, tv⟩
 rcases o36 with _ | _
 rintro e r ds wd30 ⟨rfl, rfl, hHas, hI31, _⟩
 rw [hHas.eq]; clear hHas
 cases H
 exact rt ⟨_, _, z, z, z⟩ hI31
 rintro e r ds wd34 ⟨rfl, rfl, hHas, hI35, _⟩
 rw [hHas.eq]; clear hHas
 refine hK14 _ _ _<|sr fun K114 hK115=>mv z<|q_len so24 z<|q_leq z z<|mv z<|bK H fun v116 hC H=>js 6 hI35 [(77, bool v116)] ?_ fun _ wd119 hI120=>?_
 refine have H:=hC;dC ((a1.length : Int) ≤ 10000) (fun h122=>?_) fun h122=>?_
 refine yK h122 H fun H=>mv (hw:=gY z z z (bY h122)) z<|q_len (hw:=gY z z z (bY h122)) so25 z<|mv (hw:=gY z z z (bY h122)) z<|q_len (hw:=gY z z z (bY h122)) so24 z<|q_eql (hw:=gY z z z (bY h122)) z z<|pkt (bY h122) z<|nl<|?_
 cases H
 exact je ⟨z, tv⟩ hI35
 refine nK h122 H fun H=>Sk 5 z z (bN h122) z<|pkf (bN h122) z<|nl<|?_
 cases H
 exact je ⟨z, tv⟩ hI35
 refine asn z<|nl<|hK115 _ _ _<|wr<|?_
 cases H
 exact rt ⟨_, _, z, z, z⟩ hI120
theorem formelaw40_usable_spec {a1 a2} {a7 : List Bool} {A3 c4 A8 c9 r1012 G L w} (H : formelaw40_usable a1 a2 a7 = some r1012) (hI : Hp G L w) (hl5 : a2.length ≤ c4) (hD6 : Dat k_api_Slice G A3 a2) (hl10 : a7.length ≤ c9) (hD11 : Dat Kd.bool G A8 a7) :
    Calls Try.prog 7 [agg [int .i64 a1.Width, int .i64 a1.Height, int .i64 a1.Columns, int .i64 a1.Gap, int .i64 a1.Scale, int .i64 a1.Lang].toArray, slice A3 a2.length c4, slice A8 a7.length c9].toArray w fun e w' => Hp G L w' ∧ e = .returned (bool r1012) := by
 refine calls_intro (N := 18) Try.func7 z z (Nat.le_of_ble_eq_true z)<|?_
 unfold formelaw40_usable at H
 refine sr fun K12 hK13=>bxk hI z z fun g15 wd16 hI17=>asn z<|nl<|hK13 _ _ _<|sr fun K18 hK19=>mv z<|bK H fun y25 hy20 H=>cv bo17 (formeref40_Few_spec hy20 hI17 hl5 hD6) z z fun wd23 hI24=>mv z<|bK H fun v26 hC H=>js 3 hI24 [(1, slice A3 a2.length c4), (2, slice A8 a7.length c9), (12, bool v26)] ?_ fun _ wd29 hI30=>?_
 refine have H:=hC;dC (y25 = true) (fun h32=>?_) fun h32=>?_
 refine yK h32 H fun H=>lda (hw:=gY z z z (vY h32)) hI24 0 ag23 z z z z<|bK H fun y38 hy33 H=>cv (hw:=gY z z z (vY h32)) bo18 (formeref40_Paper_spec hy33 hI24) z z fun wd36 hI37=>pkt (vY h32) z<|nl<|?_
 cases H
 exact je ⟨z, z, z, tv⟩ hI37
 refine nK h32 H fun H=>Sk 2 z z (vN h32) z<|pkf (vN h32) z<|nl<|?_
 cases H
 exact je ⟨z, z, z, tv⟩ hI24
 refine mv z<|bK H fun v39 hC H=>js 4 hI30 [(17, bool v39)] ?_ fun _ wd42 hI43=>?_
 refine have H:=hC;dC (v26 = true) (fun h45=>?_) fun h45=>?_
 refine yK h45 H fun H=>mv (hw:=gY z z z (vY h45)) z<|mv (hw:=gY z z z (vY h45)) z<|bK H fun y51 hy46 H=>cv (hw:=gY z z z (vY h45)) bo19 (formeref40_Right_spec hy46 hI30 hl5 hD6 hl10 hD11) z z fun wd49 hI50=>pkt (vY h45) z<|nl<|?_
 cases H
 exact je ⟨z, tv⟩ hI50
 refine nK h45 H fun H=>Sk 3 z z (vN h45) z<|pkf (vN h45) z<|nl<|?_
 cases H
 exact je ⟨z, tv⟩ hI30
 refine asn z<|nl<|hK19 _ _ _<|wr<|have hI52:=Hp.pick 1 [] hI43 z;?_
 cases H
 exact rt ⟨_, _, z, z, z⟩ hI52
theorem formelaw40_plain_spec {a1 r1002 G L w} (H : formelaw40_plain a1 = some r1002) (hI : Hp G L w) :
    Calls Try.prog 9 [agg [int .i64 a1.Node, int .i64 a1.Table, int .i64 a1.X, int .i64 a1.Y, int .i64 a1.H, string a1.Text, bool a1.Head, bool a1.Note].toArray].toArray w fun e w' => Hp G L w' ∧ e = .returned (agg [int .i64 r1002.Node, int .i64 r1002.Table, int .i64 r1002.X, int .i64 r1002.Y, int .i64 r1002.H, string r1002.Text, bool r1002.Head, bool r1002.Note].toArray) := by
 refine calls_intro (N := 6) Try.func9 z z (Nat.le_of_ble_eq_true z)<|?_
 unfold formelaw40_plain at H
 refine sr fun K2 hK3=>bxk hI z z fun g5 wd6 hI7=>q_alloc hI7 ze36 fun g9 wd10 hI11=>nl<|hK3 _ _ _<|sr fun K12 hK13=>fa fl36_2 z<|stk hI11 1 ag3 z z z z z z z fun wd14 hI15=>fa fl36_3 z<|stk hI15 1 ag3 z z z z z z z fun wd16 hI17=>nl<|hK13 _ _ _<|sr fun K18 hK19=>lda hI17 1 ag36 z z z z<|?_
 refine stk hI17 0 ag36 z z z z z z z fun wd20 hI21=>nl<|hK19 _ _ _<|wr<|have hr22:=res_cell (P := Try.prog) hI21 0 (cs := [int .i64 a1.Node, int .i64 a1.Table, int .i64 0, int .i64 0, int .i64 a1.H, string a1.Text, bool a1.Head, bool a1.Note]) (g := g9) (o := 0) ag36 z z z;have hI23:=Hp.pick 2 [] hI21 z;?_
 cases H
 exact rt ⟨_, _, _, z, z, hr22, z⟩ hI23
end Go.Proofs.Ytlcfemplcaejgaa.LG
