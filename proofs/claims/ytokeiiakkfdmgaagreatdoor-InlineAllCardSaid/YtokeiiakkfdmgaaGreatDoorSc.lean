/-
  The walks: each function computes its plain function: printed by a program out of the translation.
-/
import Derived.Test.YtokeiiakkfdmgaaGreatDoorSb
set_option linter.unusedVariables false
set_option linter.unusedSimpArgs false
set_option maxRecDepth 100000
namespace Go.Proofs.YtokeiiakkfdmgaaGreatDoor.LG
open Go Go.LG Go.RowKit Go.Value
open Go.Lib Go.Shelf Go.Proofs
set_option maxHeartbeats 1000000 in
theorem inline_setter_next_k1_spec {a1 : ByteArray} {a2 : List api_Break} {a9 : api_Font} {a20 : Int} {a21 : Int} {a22 : Int} {A3 : Option Addr} {c4 : Nat} {g8 : Nat} {A10 : Option Addr} {c11 : Nat} {A14 : Option Addr} {c15 : Nat} {g19 : Nat} {r1649 : api_Line} {G : Gh} {L : List Itm} {w : World} (hI : Hp G (bx g8 [slice A10 a9.Glyphs.length c11, slice A14 a9.Kerns.length c15] 25 :: bx g19 [int .i64 a20] 3 :: L) w) (hl5 : a2.length ≤ c4) (hD6 : Dat k_api_Break G A3 a2) (hl12 : a9.Glyphs.length ≤ c11) (hD13 : Dat k_api_Glyph G A10 a9.Glyphs) (hl16 : a9.Kerns.length ≤ c15) (hD17 : Dat k_api_Kern G A14 a9.Kerns) (hgl : Gl G) (H : inline_setter_next_k1 a1 a2 a9 a20 a21 a22 = some r1649) :
    Calls Tryz.prog 27 [agg [string a1, slice A3 a2.length c4, func (.func 57) [].toArray [pointer (some ⟨g8, 0, none⟩), pointer (some ⟨g19, 0, none⟩)].toArray].toArray, int .i64 a21, int .i64 a22].toArray w fun e w' => ∃ (G' : Gh), G ≤ G' ∧ Hp G' (bx g8 [slice A10 a9.Glyphs.length c11, slice A14 a9.Kerns.length c15] 25 :: bx g19 [int .i64 a20] 3 :: L) w' ∧ e = .returned (agg [int .i64 r1649.From, int .i64 r1649.Until, int .i64 r1649.Width, bool r1649.Hyphen].toArray) := by
 refine calls_intro_m (N := 39) Tryz.func27 rfl rfl (Nat.le_of_ble_eq_true rfl) ?_
 unfold inline_setter_next_k1 at H
 refine sr fun K23 hK24 => ?_
 refine q_box hI (v := agg [string a1, slice A3 a2.length c4, func (.func 57) [].toArray [pointer (some ⟨g8, 0, none⟩), pointer (some ⟨g19, 0, none⟩)].toArray].toArray) (vs := [string a1, slice A3 a2.length c4, func (.func 57) [].toArray [pointer (some ⟨g8, 0, none⟩), pointer (some ⟨g19, 0, none⟩)].toArray]) rfl rfl (fun g26 wd27 hI28 => ?_)
 refine q_box hI28 (v := int .i64 a21) (vs := [int .i64 a21]) rfl rfl (fun g30 wd31 hI32 => ?_)
 refine q_box hI32 (v := int .i64 a22) (vs := [int .i64 a22]) rfl rfl (fun g34 wd35 hI36 => ?_)
 refine q_alloc hI36 ze31 (fun g38 wd39 hI40 => ?_)
 refine nl ?_
 refine hK24 _ _ _ ?_
 refine sr fun K41 hK42 => ?_
 refine q_fn (vs := []) (us := [pointer (some ⟨g30, 0, none⟩)]) rfl rfl ?_
 refine q_as (v := func (.func 58) [].toArray [pointer (some ⟨g30, 0, none⟩)].toArray) rfl ?_
 refine nl ?_
 refine hK42 _ _ _ ?_
 refine sQ fun K43 hK44 => ?_
 obtain ⟨y62, hy247, H⟩ := bS H
 obtain ⟨⟨h264, h265⟩, H⟩ := iS H
 refine wpc_drawL [0, 1, 0, 4, 0, 28, 63, 127] (fun D r w => (D 5 = false ∧ ∃ (G' : Gh), G ≤ G' ∧ Regs [(3, pointer (some ⟨g26, 0, none⟩)), (4, pointer (some ⟨g30, 0, none⟩)), (5, pointer (some ⟨g34, 0, none⟩)), (6, pointer (some ⟨g38, 0, none⟩)), (7, func (.func 58) [].toArray [pointer (some ⟨g30, 0, none⟩)].toArray)] [] [(0, 13, pointer (some ⟨g26, 1, none⟩)), (1, 14, slice A3 a2.length c4), (2, 15, pointer (some ⟨g26, 1, none⟩)), (3, 16, slice A3 a2.length c4), (4, 17, func (.func 58) [].toArray [pointer (some ⟨g30, 0, none⟩)].toArray)] D r ∧ Hp G' (bx g38 [int .i64 0, int .i64 0, int .i64 0, bool false] 31 :: bx g34 [int .i64 a22] 3 :: bx g30 [int .i64 a21] 3 :: bx g26 [string a1, slice A3 a2.length c4, func (.func 57) [].toArray [pointer (some ⟨g8, 0, none⟩), pointer (some ⟨g19, 0, none⟩)].toArray] 68 :: bx g8 [slice A10 a9.Glyphs.length c11, slice A14 a9.Kerns.length c15] 25 :: bx g19 [int .i64 a20] 3 :: (List.map mkI ([] : List Nat) ++ L)) w) ∨ (D 5 = true ∧ ∃ (G' : Gh), G ≤ G' ∧ Regs [(3, pointer (some ⟨g26, 0, none⟩)), (4, pointer (some ⟨g30, 0, none⟩)), (5, pointer (some ⟨g34, 0, none⟩)), (6, pointer (some ⟨g38, 0, none⟩)), (7, func (.func 58) [].toArray [pointer (some ⟨g30, 0, none⟩)].toArray)] [] [(0, 13, pointer (some ⟨g26, 1, none⟩)), (1, 14, slice A3 a2.length c4), (2, 15, pointer (some ⟨g26, 1, none⟩)), (3, 16, slice A3 a2.length c4), (4, 17, func (.func 58) [].toArray [pointer (some ⟨g30, 0, none⟩)].toArray), (5, 18, int .i64 y62), (6, 19, slice (if c4 = Int.toNat y62 then A3 else Option.map (fun a => Addr.add a (Int.toNat y62 * 2)) A3) (cutl a2 y62 (a2.length : Int)).length (c4 - Int.toNat y62)), (7, 8, slice (if c4 = Int.toNat y62 then A3 else Option.map (fun a => Addr.add a (Int.toNat y62 * 2)) A3) (cutl a2 y62 (a2.length : Int)).length (c4 - Int.toNat y62))] D r ∧ Hp G' (bx g30 [int .i64 a21] 3 :: bx g38 [int .i64 0, int .i64 0, int .i64 0, bool false] 31 :: bx g34 [int .i64 a22] 3 :: bx g26 [string a1, slice A3 a2.length c4, func (.func 57) [].toArray [pointer (some ⟨g8, 0, none⟩), pointer (some ⟨g19, 0, none⟩)].toArray] 68 :: bx g8 [slice A10 a9.Glyphs.length c11, slice A14 a9.Kerns.length c15] 25 :: bx g19 [int .i64 a20] 3 :: (List.map mkI ([] : List Nat) ++ L)) w)) mixo rfl rfl ?_ ?_ ?_
 exact (.inl ⟨rfl, _, Gh.le_refl _, Regs.start ⟨rfl, rfl, rfl, rfl, rfl, trivial⟩ trivial, hI40.drew⟩)
 refine ⟨?_, ?_, ?_, ?_, ?_, ?_, ?_, ?_, trivial⟩
 rintro D r wd276 (⟨hd2, G272, hG273, hReg275, hI274⟩ | ⟨hd1, G272, hG273, hReg275, hI274⟩) hDi hpre hpost
 obtain ⟨r0, rfl⟩ := Has.ex (cC (hReg275.ins.get 0 rfl) cN)
 refine q_fa (a' := ⟨g26, 1, none⟩) fl68_1 rfl (add_plain _ _ _) ?_
 exact nl ⟨rfl, (.inl ⟨hd2, _, hG273, (Regs.step hReg275 hDi rfl rfl rfl rfl), hI274⟩)⟩
 obtain ⟨r0, rfl⟩ := Has.ex (cC (hReg275.ins.get 0 rfl) cN)
 refine q_fa (a' := ⟨g26, 1, none⟩) fl68_1 rfl (add_plain _ _ _) ?_
 exact nl ⟨rfl, (.inr ⟨hd1, _, hG273, (Regs.step hReg275 hDi rfl rfl rfl rfl), hI274⟩)⟩
 rintro D r wd276 (⟨hd2, G272, hG273, hReg275, hI274⟩ | ⟨hd1, G272, hG273, hReg275, hI274⟩) hDi hpre hpost
 obtain ⟨r0, rfl⟩ := Has.ex (cC (hReg275.get 0 rfl (hpre 0 rfl)) cN)
 refine q_ld hI274 3 (v := slice A3 a2.length c4) ag45 rfl rfl rfl ?_
 exact nl ⟨rfl, (.inl ⟨hd2, _, hG273, (Regs.step hReg275 hDi rfl rfl rfl rfl), hI274⟩)⟩
 obtain ⟨r0, rfl⟩ := Has.ex (cC (hReg275.get 0 rfl (hpre 0 rfl)) cN)
 refine q_ld hI274 3 (v := slice A3 a2.length c4) ag45 rfl rfl rfl ?_
 exact nl ⟨rfl, (.inr ⟨hd1, _, hG273, (Regs.step hReg275 hDi rfl rfl rfl rfl), hI274⟩)⟩
 rintro D r wd276 (⟨hd2, G272, hG273, hReg275, hI274⟩ | ⟨hd1, G272, hG273, hReg275, hI274⟩) hDi hpre hpost
 obtain ⟨r0, rfl⟩ := Has.ex (cC (hReg275.ins.get 0 rfl) cN)
 refine q_fa (a' := ⟨g26, 1, none⟩) fl68_1 rfl (add_plain _ _ _) ?_
 exact nl ⟨rfl, (.inl ⟨hd2, _, hG273, (Regs.step hReg275 hDi rfl rfl rfl rfl), hI274⟩)⟩
 cases (hpost 5 rfl).symm.trans hd1
 rintro D r wd276 (⟨hd2, G272, hG273, hReg275, hI274⟩ | ⟨hd1, G272, hG273, hReg275, hI274⟩) hDi hpre hpost
 obtain ⟨r0, rfl⟩ := Has.ex (cC (hReg275.get 2 rfl (hpre 2 rfl)) cN)
 refine q_ld hI274 3 (v := slice A3 a2.length c4) ag45 rfl rfl rfl ?_
 exact nl ⟨rfl, (.inl ⟨hd2, _, hG273, (Regs.step hReg275 hDi rfl rfl rfl rfl), hI274⟩)⟩
 cases (hpost 5 rfl).symm.trans hd1
 rintro D r wd276 (⟨hd2, G272, hG273, hReg275, hI274⟩ | ⟨hd1, G272, hG273, hReg275, hI274⟩) hDi hpre hpost
 obtain ⟨r0, rfl⟩ := Has.ex (cC (hReg275.ins.get 4 rfl) cN)
 refine q_mv (v := func (.func 58) [].toArray [pointer (some ⟨g30, 0, none⟩)].toArray) rfl ?_
 exact nl ⟨rfl, (.inl ⟨hd2, _, hG273, (Regs.step hReg275 hDi rfl rfl rfl rfl), hI274⟩)⟩
 cases (hpost 5 rfl).symm.trans hd1
 rintro D r wd276 (⟨hd2, G272, hG273, hReg275, hI274⟩ | ⟨hd1, G272, hG273, hReg275, hI274⟩) hDi hpre hpost
 obtain ⟨r0, rfl⟩ := Has.ex (cC (hReg275.get 3 rfl (hpre 3 rfl)) (cC (hReg275.get 4 rfl (hpre 4 rfl)) cN))
 have hI258 := Hp.front hI274 5 rfl
 have hI259 := Hp.front hI258 5 rfl
 have hI260 := Hp.front hI259 5 rfl
 have hI261 := Hp.front hI260 4 rfl
 have hI262 := Hp.front hI261 4 rfl
 have hI263 := Hp.front hI262 5 rfl
 refine q_cv (vs := [slice A3 a2.length c4, func (.func 58) [].toArray [pointer (some ⟨g30, 0, none⟩)].toArray]) bo59 rfl rfl (slices_IndexFunc_api_Break_k2_spec (a1 := a2) (a8 := a21) hI263 hl5 (Dat.mono hG273 hD6) hy247) ?_
 rintro _ wd60 ⟨G58, hG59, hI61, rfl⟩
 refine ⟨_, rfl, ?_⟩
 exact nl ⟨rfl, (.inr ⟨rfl, _, (gT hG273 hG59), (Regs.step (Regs.more (new := [(5, 18, int .i64 y62), (6, 19, slice (if c4 = Int.toNat y62 then A3 else Option.map (fun a => Addr.add a (Int.toNat y62 * 2)) A3) (cutl a2 y62 (a2.length : Int)).length (c4 - Int.toNat y62)), (7, 8, slice (if c4 = Int.toNat y62 then A3 else Option.map (fun a => Addr.add a (Int.toNat y62 * 2)) A3) (cutl a2 y62 (a2.length : Int)).length (c4 - Int.toNat y62))]) hReg275 (List.forall_mem_cons.2 ⟨hDi, (List.forall_mem_cons.2 ⟨hpost 6 rfl, (List.forall_mem_cons.2 ⟨hpost 7 rfl, (fun _ h => nomatch h)⟩)⟩)⟩)) hDi rfl rfl rfl rfl), hI61⟩)⟩
 cases hDi.symm.trans hd1
 rintro D r wd276 (⟨hd2, G272, hG273, hReg275, hI274⟩ | ⟨hd1, G272, hG273, hReg275, hI274⟩) hDi hpre hpost
 cases (hpre 5 rfl).symm.trans hd2
 obtain ⟨r0, rfl⟩ := Has.ex (cC (hReg275.get 1 rfl (hpre 1 rfl)) (cC (hReg275.get 5 rfl (hpre 5 rfl)) cN))
 refine q_slc (l := y62) (h := (a2.length : Int)) el45 rfl (.inr ⟨_, rfl, rfl⟩) (.inl ⟨rfl, rfl⟩) hl5 h264 h265 (Int.le_refl _) (Dat.cut (l := y62) (h := (a2.length : Int)) hD6 hl5 h264 h265 (Int.le_refl _)).1 ?_
 exact nl ⟨rfl, (.inr ⟨hd1, _, hG273, (Regs.step hReg275 hDi rfl rfl rfl rfl), hI274⟩)⟩
 rintro D r wd276 (⟨hd2, G272, hG273, hReg275, hI274⟩ | ⟨hd1, G272, hG273, hReg275, hI274⟩) hDi hpre hpost
 cases (hpre 5 rfl).symm.trans hd2
 obtain ⟨r0, rfl⟩ := Has.ex (cC (hReg275.get 6 rfl (hpre 6 rfl)) cN)
 refine q_as (v := slice (if c4 = Int.toNat y62 then A3 else Option.map (fun a => Addr.add a (Int.toNat y62 * 2)) A3) (cutl a2 y62 (a2.length : Int)).length (c4 - Int.toNat y62)) rfl ?_
 exact nl ⟨rfl, (.inr ⟨hd1, _, hG273, (Regs.step hReg275 hDi rfl rfl rfl rfl), hI274⟩)⟩
 intro D r wd276 hall hR
 rcases hR with ⟨hd2, G272, hG273, hReg275, hI274⟩ | ⟨hd1, G272, hG273, hReg275, hI274⟩
 cases (hall 5 (Nat.le_of_ble_eq_true rfl)).symm.trans hd2
 obtain ⟨r0, rfl⟩ := Has.ex (cC (hReg275.ins.get 0 rfl) (cC (hReg275.ins.get 1 rfl) (cC (hReg275.ins.get 2 rfl) (cC (hReg275.ins.get 3 rfl) (cC (hReg275.get 7 rfl (hall 7 (Nat.le_of_ble_eq_true rfl))) cN)))))
 refine hK44 _ _ _ ?_
 refine sQ fun K277 hK278 => ?_
 refine sr fun K279 hK280 => ?_
 refine q_mv (v := slice (if c4 = Int.toNat y62 then A3 else Option.map (fun a => Addr.add a (Int.toNat y62 * 2)) A3) (cutl a2 y62 (a2.length : Int)).length (c4 - Int.toNat y62)) rfl ?_
 obtain ⟨y288, hy281, H⟩ := bS H
 refine q_cv (vs := [slice (if c4 = Int.toNat y62 then A3 else Option.map (fun a => Addr.add a (Int.toNat y62 * 2)) A3) (cutl a2 y62 (a2.length : Int)).length (c4 - Int.toNat y62)]) bo60 rfl rfl (slices_Backward_api_Break_spec (a1 := cutl a2 y62 (a2.length : Int)) hI274 ((Dat.cut (l := y62) (h := (a2.length : Int)) hD6 hl5 h264 h265 (Int.le_refl _)).2.1) (Dat.mono hG273 (Dat.cut (l := y62) (h := (a2.length : Int)) hD6 hl5 h264 h265 (Int.le_refl _)).2.2) hy281) ?_
 rintro _ wd284 ⟨g287, A289, c290, G282, hG283, hI285, hl291, hD292, rfl⟩
 refine ⟨_, rfl, ?_⟩
 refine nl ?_
 refine hK280 _ _ _ ?_
 refine wpc_block ?_
 obtain ⟨⟨⟨v294, v295, v296, v297⟩, jo304⟩, hr379, H⟩ := bS H
 refine wpc_range hI285 bo85 rfl (fun fn tmps gl gd293 wd647 hA376 hI377 => ?_)
 have hY378 : Yl Tryz.prog (rnd (fun (u : Int × Int × Int × Bool) (x : Int × api_Break) => inline_setter_next_k1_r302 a1 a2 a9 a20 a21 a22 u.1 u.2.1 u.2.2.1 u.2.2.2 x.1 x.2)) (encP (enc1 (Kd.int .i64)) (encS k_api_Break)) _ gl := yl_intro (pp := [22, 23]) (gdd := gd293) hI377 (fun (u : Int × Int × Int × Bool) (x : Int × api_Break) => inline_setter_next_k1_r302 a1 a2 a9 a20 a21 a22 u.1 u.2.1 u.2.2.1 u.2.2.2 x.1 x.2) [Code.ret] (fun (u : Int × Int × Int × Bool) (G' : Gh) (K : List Itm) => ∃ (_ : G282 ≤ G'), K = bx g30 [int .i64 a21] 3 :: bx g38 [int .i64 u.1, int .i64 u.2.1, int .i64 u.2.2.1, bool u.2.2.2] 31 :: bx g34 [int .i64 a22] 3 :: bx g26 [string a1, slice A3 a2.length c4, func (.func 57) [].toArray [pointer (some ⟨g8, 0, none⟩), pointer (some ⟨g19, 0, none⟩)].toArray] 68 :: bx g8 [slice A10 a9.Glyphs.length c11, slice A14 a9.Kerns.length c15] 25 :: bx g19 [int .i64 a20] 3 :: (List.map mkI (gd293 :: ([] : List Nat)) ++ L) ∧ True) hA376 (fun _ _ _ h => (fun h => encP_len (fun h => enc1_len h) (fun h => encS_len h) h) h) (fun hG' ⟨h0', hK', _⟩ => ⟨gT h0' hG', hK', trivial⟩) (by
 rintro Rd Bs ⟨v294, v295, v296, v297⟩ u' ⟨x310, x312⟩ jo' G306 K M wd308 vs ⟨hG307, rfl, _⟩ ⟨_, _, rfl, ⟨_, rfl, hv311⟩, ⟨_, rfl, hK313⟩⟩ H hI314
 cases hv311
 obtain ⟨rfl⟩ := open_api_Break hK313
 replace H : inline_setter_next_k1_r302 a1 a2 a9 a20 a21 a22 v294 v295 v296 v297 x310 x312 = some (u', jo') := H
 unfold inline_setter_next_k1_r302 at H
 refine wpc_region ?_
 refine q_alloc hI314 ze51 (fun g316 wd317 hI318 => ?_)
 refine q_stA hI318 0 (v := agg [int .i64 x312.At, bool x312.Hyphen].toArray) (cs := [int .i64 x312.At, bool x312.Hyphen]) (vs' := [int .i64 x312.At, bool x312.Hyphen]) ag51 rfl rfl rfl rfl rfl rfl (Nat.le_of_ble_eq_true rfl) rfl (fun wd319 hI320 => ?_)
 refine nl ?_
 have hI323 := Hp.front hI320 7 rfl
 have hI324 := Hp.front hI323 7 rfl
 have hI325 := Hp.front hI324 7 rfl
 have hI326 := Hp.front hI325 7 rfl
 have hI327 := Hp.front hI326 7 rfl
 have hI328 := Hp.front hI327 7 rfl
 have hI329 := Hp.front hI328 6 rfl
 have hI330 := Hp.front hI329 7 rfl
 refine ⟨rfl, rfl, _, _, gR, hI330, fun wd322 hI321 => ?_⟩
 refine wpc_block ?_
 refine sr fun K331 hK332 => ?_
 refine q_ldA hI321 5 (cs := [string a1, slice A3 a2.length c4, func (.func 57) [].toArray [pointer (some ⟨g8, 0, none⟩), pointer (some ⟨g19, 0, none⟩)].toArray]) ag68 rfl rfl rfl rfl ?_
 refine q_ld hI321 2 (v := int .i64 a21) ag3 rfl rfl rfl ?_
 refine q_ldA hI321 1 (cs := [int .i64 x312.At, bool x312.Hyphen]) ag51 rfl rfl rfl rfl ?_
 have hI333 := Hp.front hI321 5 rfl
 have hI334 := Hp.front hI333 5 rfl
 have hI335 := Hp.front hI334 5 rfl
 have hI336 := Hp.front hI335 5 rfl
 have hI337 := Hp.front hI336 5 rfl
 have hI338 := Hp.front hI337 5 rfl
 have hI339 := Hp.front hI338 7 rfl
 have hI340 := Hp.front hI339 7 rfl
 obtain ⟨y346, hy341, H⟩ := bS H
 refine q_cv (vs := [agg [string a1, slice A3 a2.length c4, func (.func 57) [].toArray [pointer (some ⟨g8, 0, none⟩), pointer (some ⟨g19, 0, none⟩)].toArray].toArray, int .i64 a21, agg [int .i64 x312.At, bool x312.Hyphen].toArray]) bo61 rfl rfl (inline_setter_line_k1_spec (a1 := a1) (a2 := a2) (a9 := a9) (a20 := a20) (a21 := a21) (a22 := x312) hI340 hl5 (Dat.mono (gT (gT hG273 hG283) hG307) hD6) hl12 (Dat.mono (gT (gT hG273 hG283) hG307) hD13) hl16 (Dat.mono (gT (gT hG273 hG283) hG307) hD17) (hgl.mono (gT (gT hG273 hG283) hG307)) hy341) ?_
 rintro _ wd344 ⟨G342, hG343, hI345, rfl⟩
 refine ⟨_, rfl, ?_⟩
 refine q_alloc hI345 ze31 (fun g348 wd349 hI350 => ?_)
 refine q_stA hI350 0 (v := agg [int .i64 y346.From, int .i64 y346.Until, int .i64 y346.Width, bool y346.Hyphen].toArray) (cs := [int .i64 y346.From, int .i64 y346.Until, int .i64 y346.Width, bool y346.Hyphen]) (vs' := [int .i64 y346.From, int .i64 y346.Until, int .i64 y346.Width, bool y346.Hyphen]) ag31 rfl rfl rfl rfl rfl rfl (Nat.le_of_ble_eq_true rfl) rfl (fun wd351 hI352 => ?_)
 refine nl ?_
 refine hK332 _ _ _ ?_
 refine sr fun K353 hK354 => ?_
 refine q_fa (a' := ⟨g348, 2, none⟩) fl31_2 rfl (add_plain _ _ _) ?_
 refine q_ld hI352 0 (v := int .i64 y346.Width) ag3 rfl rfl rfl ?_
 refine q_ld hI352 7 (v := int .i64 a22) ag3 rfl rfl rfl ?_
 refine q_leq rfl rfl ?_
 refine nl ?_
 refine hK354 _ _ _ ?_
 by_cases h355 : y346.Width ≤ a22
 replace H := iY h355 H
 refine wpc_true (bool_yes h355) ?_
 refine sr fun K356 hK357 => ?_
 refine q_ldA hI352 0 (cs := [int .i64 y346.From, int .i64 y346.Until, int .i64 y346.Width, bool y346.Hyphen]) ag31 rfl rfl rfl rfl ?_
 refine q_stA hI352 6 (v := agg [int .i64 y346.From, int .i64 y346.Until, int .i64 y346.Width, bool y346.Hyphen].toArray) (cs := [int .i64 y346.From, int .i64 y346.Until, int .i64 y346.Width, bool y346.Hyphen]) (vs' := [int .i64 y346.From, int .i64 y346.Until, int .i64 y346.Width, bool y346.Hyphen]) ag31 rfl rfl rfl rfl rfl rfl (Nat.le_of_ble_eq_true rfl) rfl (fun wd358 hI359 => ?_)
 refine nl ?_
 refine hK357 _ _ _ ?_
 refine wpc_ret ?_
 have hI360 := Hp.front hI359 2 rfl
 have hI361 := Hp.front hI360 2 rfl
 have hI362 := Hp.front hI361 8 rfl
 have hI363 := Hp.front hI362 8 rfl
 have hI364 := Hp.front hI363 8 rfl
 have hI365 := Hp.front hI364 8 rfl
 have hI366 := Hp.front hI365 7 rfl
 have hI367 := Hp.sub hI366 (sk (sk (sk (sk (sk (sk (sk (sd (sd se)))))))))
 cases H
 exact ⟨(.inl ⟨rfl, rfl⟩), _, _, hG343, ⟨(gT hG307 hG343), rfl, trivial⟩, hI367⟩
 replace H := iN h355 H
 refine wpc_false (bool_no h355) ?_
 refine wpc_skip ?_
 have hI368 := Hp.front hI352 2 rfl
 have hI369 := Hp.front hI368 2 rfl
 have hI370 := Hp.front hI369 8 rfl
 have hI371 := Hp.front hI370 8 rfl
 have hI372 := Hp.front hI371 8 rfl
 have hI373 := Hp.front hI372 8 rfl
 have hI374 := Hp.front hI373 7 rfl
 have hI375 := Hp.sub hI374 (sk (sk (sk (sk (sk (sk (sk (sd (sd se)))))))))
 cases H
 exact ⟨rfl, _, _, hG343, ⟨(gT hG307 hG343), rfl, trivial⟩, hI375⟩)
 have hI648 := Hp.sink (A := [bx g287 [slice A289 y288.length c290] 45]) (K := [bx g30 [int .i64 a21] 3, bx g38 [int .i64 0, int .i64 0, int .i64 0, bool false] 31, bx g34 [int .i64 a22] 3, bx g26 [string a1, slice A3 a2.length c4, func (.func 57) [].toArray [pointer (some ⟨g8, 0, none⟩), pointer (some ⟨g19, 0, none⟩)].toArray] 68, bx g8 [slice A10 a9.Glyphs.length c11, slice A14 a9.Kerns.length c15] 25, bx g19 [int .i64 a20] 3]) hI377
 refine (slices_Backward_1_api_Break_k1_spec (sy := ((0, 0, 0, false), none)) hI648 hl291 hD292 hY378 ⟨_, rfl, Gh.le_refl _, rfl, trivial⟩ hr379).mono ?_
 rintro _ wd382 ⟨T386, G380, hG3810, hI383, ⟨K, rfl, hG381, rfl, _⟩, rfl⟩
 have hH388 := Hp.front hI383 1 rfl
 rcases jo304 with _ | j
 refine ⟨_, rfl, LoopState.ready, none, G380, _, (fun h => nomatch h), hH388, fun wd384 hI385 => ?_⟩
 refine hK278 _ _ _ ?_
 refine sQ fun K393 hK394 => ?_
 obtain ⟨⟨h416, h416'⟩, H⟩ := iS H
 obtain ⟨ad417, cs418, hA419, hK420, hn421, hc422⟩ := Dat.get (Dat.mono (gT (gT hG273 hG283) hG381) (Dat.cut (l := y62) (h := (a2.length : Int)) hD6 hl5 h264 h265 (Int.le_refl _)).2.2) z_api_Break (0) h416 h416'
 obtain ⟨rfl⟩ := open_api_Break hK420
 obtain ⟨y427, hy612, H⟩ := bS H
 refine wpc_drawL [0, 0, 0, 4, 12, 31, 63] (fun D r w => (D 5 = false ∧ ∃ (G' : Gh), G380 ≤ G' ∧ Regs [(3, pointer (some ⟨g26, 0, none⟩)), (4, pointer (some ⟨g30, 0, none⟩)), (6, pointer (some ⟨g38, 0, none⟩)), (8, slice (if c4 = Int.toNat y62 then A3 else Option.map (fun a => Addr.add a (Int.toNat y62 * 2)) A3) (cutl a2 y62 (a2.length : Int)).length (c4 - Int.toNat y62))] [] [(0, 33, agg [string a1, slice A3 a2.length c4, func (.func 57) [].toArray [pointer (some ⟨g8, 0, none⟩), pointer (some ⟨g19, 0, none⟩)].toArray].toArray), (1, 34, int .i64 a21), (2, 35, slice (if c4 = Int.toNat y62 then A3 else Option.map (fun a => Addr.add a (Int.toNat y62 * 2)) A3) (cutl a2 y62 (a2.length : Int)).length (c4 - Int.toNat y62)), (3, 36, pointer (some (ad417.add (Int.toNat 0 * 2)))), (4, 37, agg [int .i64 (((cutl a2 y62 (a2.length : Int)).getD (Int.toNat 0) z_api_Break).At), bool (((cutl a2 y62 (a2.length : Int)).getD (Int.toNat 0) z_api_Break).Hyphen)].toArray)] D r ∧ Hp G' (bx g287 [slice A289 y288.length c290] 45 :: bx g30 [int .i64 a21] 3 :: bx g38 [int .i64 v294, int .i64 v295, int .i64 v296, bool v297] 31 :: bx g34 [int .i64 a22] 3 :: bx g26 [string a1, slice A3 a2.length c4, func (.func 57) [].toArray [pointer (some ⟨g8, 0, none⟩), pointer (some ⟨g19, 0, none⟩)].toArray] 68 :: bx g8 [slice A10 a9.Glyphs.length c11, slice A14 a9.Kerns.length c15] 25 :: bx g19 [int .i64 a20] 3 :: (List.map mkI (gd293 :: ([] : List Nat)) ++ L)) w) ∨ (D 5 = true ∧ D 6 = false ∧ ∃ (G' : Gh), G380 ≤ G' ∧ Regs [(3, pointer (some ⟨g26, 0, none⟩)), (4, pointer (some ⟨g30, 0, none⟩)), (6, pointer (some ⟨g38, 0, none⟩)), (8, slice (if c4 = Int.toNat y62 then A3 else Option.map (fun a => Addr.add a (Int.toNat y62 * 2)) A3) (cutl a2 y62 (a2.length : Int)).length (c4 - Int.toNat y62))] [] [(0, 33, agg [string a1, slice A3 a2.length c4, func (.func 57) [].toArray [pointer (some ⟨g8, 0, none⟩), pointer (some ⟨g19, 0, none⟩)].toArray].toArray), (1, 34, int .i64 a21), (2, 35, slice (if c4 = Int.toNat y62 then A3 else Option.map (fun a => Addr.add a (Int.toNat y62 * 2)) A3) (cutl a2 y62 (a2.length : Int)).length (c4 - Int.toNat y62)), (3, 36, pointer (some (ad417.add (Int.toNat 0 * 2)))), (4, 37, agg [int .i64 (((cutl a2 y62 (a2.length : Int)).getD (Int.toNat 0) z_api_Break).At), bool (((cutl a2 y62 (a2.length : Int)).getD (Int.toNat 0) z_api_Break).Hyphen)].toArray), (5, 38, agg [int .i64 y427.From, int .i64 y427.Until, int .i64 y427.Width, bool y427.Hyphen].toArray)] D r ∧ Hp G' (bx g8 [slice A10 a9.Glyphs.length c11, slice A14 a9.Kerns.length c15] 25 :: bx g19 [int .i64 a20] 3 :: bx g287 [slice A289 y288.length c290] 45 :: bx g30 [int .i64 a21] 3 :: bx g38 [int .i64 v294, int .i64 v295, int .i64 v296, bool v297] 31 :: bx g34 [int .i64 a22] 3 :: bx g26 [string a1, slice A3 a2.length c4, func (.func 57) [].toArray [pointer (some ⟨g8, 0, none⟩), pointer (some ⟨g19, 0, none⟩)].toArray] 68 :: (List.map mkI (gd293 :: ([] : List Nat)) ++ L)) w) ∨ (D 6 = true ∧ ∃ (G' : Gh), G380 ≤ G' ∧ Regs [(3, pointer (some ⟨g26, 0, none⟩)), (4, pointer (some ⟨g30, 0, none⟩)), (6, pointer (some ⟨g38, 0, none⟩)), (8, slice (if c4 = Int.toNat y62 then A3 else Option.map (fun a => Addr.add a (Int.toNat y62 * 2)) A3) (cutl a2 y62 (a2.length : Int)).length (c4 - Int.toNat y62))] [] [(0, 33, agg [string a1, slice A3 a2.length c4, func (.func 57) [].toArray [pointer (some ⟨g8, 0, none⟩), pointer (some ⟨g19, 0, none⟩)].toArray].toArray), (1, 34, int .i64 a21), (2, 35, slice (if c4 = Int.toNat y62 then A3 else Option.map (fun a => Addr.add a (Int.toNat y62 * 2)) A3) (cutl a2 y62 (a2.length : Int)).length (c4 - Int.toNat y62)), (3, 36, pointer (some (ad417.add (Int.toNat 0 * 2)))), (4, 37, agg [int .i64 (((cutl a2 y62 (a2.length : Int)).getD (Int.toNat 0) z_api_Break).At), bool (((cutl a2 y62 (a2.length : Int)).getD (Int.toNat 0) z_api_Break).Hyphen)].toArray), (5, 38, agg [int .i64 y427.From, int .i64 y427.Until, int .i64 y427.Width, bool y427.Hyphen].toArray)] D r ∧ Hp G' (bx g8 [slice A10 a9.Glyphs.length c11, slice A14 a9.Kerns.length c15] 25 :: bx g19 [int .i64 a20] 3 :: bx g287 [slice A289 y288.length c290] 45 :: bx g30 [int .i64 a21] 3 :: bx g38 [int .i64 y427.From, int .i64 y427.Until, int .i64 y427.Width, bool y427.Hyphen] 31 :: bx g34 [int .i64 a22] 3 :: bx g26 [string a1, slice A3 a2.length c4, func (.func 57) [].toArray [pointer (some ⟨g8, 0, none⟩), pointer (some ⟨g19, 0, none⟩)].toArray] 68 :: (List.map mkI (gd293 :: ([] : List Nat)) ++ L)) w)) mixo rfl rfl ?_ ?_ ?_
 exact (.inl ⟨rfl, _, Gh.le_refl _, Regs.start ⟨rfl, rfl, rfl, rfl, trivial⟩ trivial, hI385.drew⟩)
 refine ⟨?_, ?_, ?_, ?_, ?_, ?_, ?_, trivial⟩
 rintro D r wd636 (⟨hd2, G632, hG633, hReg635, hI634⟩ | ⟨hd1, hd2, G632, hG633, hReg635, hI634⟩ | ⟨hd1, G632, hG633, hReg635, hI634⟩) hDi hpre hpost
 obtain ⟨r0, rfl⟩ := Has.ex (cC (hReg635.ins.get 0 rfl) cN)
 refine q_ldA hI634 4 (cs := [string a1, slice A3 a2.length c4, func (.func 57) [].toArray [pointer (some ⟨g8, 0, none⟩), pointer (some ⟨g19, 0, none⟩)].toArray]) ag68 rfl rfl rfl rfl ?_
 exact nl ⟨rfl, (.inl ⟨hd2, _, hG633, (Regs.step hReg635 hDi rfl rfl rfl rfl), hI634⟩)⟩
 cases (hpost 5 rfl).symm.trans hd1
 cases (hpost 6 rfl).symm.trans hd1
 rintro D r wd636 (⟨hd2, G632, hG633, hReg635, hI634⟩ | ⟨hd1, hd2, G632, hG633, hReg635, hI634⟩ | ⟨hd1, G632, hG633, hReg635, hI634⟩) hDi hpre hpost
 obtain ⟨r0, rfl⟩ := Has.ex (cC (hReg635.ins.get 1 rfl) cN)
 refine q_ld hI634 1 (v := int .i64 a21) ag3 rfl rfl rfl ?_
 exact nl ⟨rfl, (.inl ⟨hd2, _, hG633, (Regs.step hReg635 hDi rfl rfl rfl rfl), hI634⟩)⟩
 cases (hpost 5 rfl).symm.trans hd1
 cases (hpost 6 rfl).symm.trans hd1
 rintro D r wd636 (⟨hd2, G632, hG633, hReg635, hI634⟩ | ⟨hd1, hd2, G632, hG633, hReg635, hI634⟩ | ⟨hd1, G632, hG633, hReg635, hI634⟩) hDi hpre hpost
 obtain ⟨r0, rfl⟩ := Has.ex (cC (hReg635.ins.get 3 rfl) cN)
 refine q_mv (v := slice (if c4 = Int.toNat y62 then A3 else Option.map (fun a => Addr.add a (Int.toNat y62 * 2)) A3) (cutl a2 y62 (a2.length : Int)).length (c4 - Int.toNat y62)) rfl ?_
 exact nl ⟨rfl, (.inl ⟨hd2, _, hG633, (Regs.step hReg635 hDi rfl rfl rfl rfl), hI634⟩)⟩
 cases (hpost 5 rfl).symm.trans hd1
 cases (hpost 6 rfl).symm.trans hd1
 rintro D r wd636 (⟨hd2, G632, hG633, hReg635, hI634⟩ | ⟨hd1, hd2, G632, hG633, hReg635, hI634⟩ | ⟨hd1, G632, hG633, hReg635, hI634⟩) hDi hpre hpost
 obtain ⟨r0, rfl⟩ := Has.ex (cC (hReg635.get 2 rfl (hpre 2 rfl)) cN)
 refine q_ia el45 rfl hA419 rfl h416 h416' ?_
 exact nl ⟨rfl, (.inl ⟨hd2, _, hG633, (Regs.step hReg635 hDi rfl rfl rfl rfl), hI634⟩)⟩
 cases (hpost 5 rfl).symm.trans hd1
 cases (hpost 6 rfl).symm.trans hd1
 rintro D r wd636 (⟨hd2, G632, hG633, hReg635, hI634⟩ | ⟨hd1, hd2, G632, hG633, hReg635, hI634⟩ | ⟨hd1, G632, hG633, hReg635, hI634⟩) hDi hpre hpost
 obtain ⟨r0, rfl⟩ := Has.ex (cC (hReg635.get 3 rfl (hpre 3 rfl)) cN)
 refine q_lfA hI634 ag51 rfl (cs := [int .i64 (((cutl a2 y62 (a2.length : Int)).getD (Int.toNat 0) z_api_Break).At), bool (((cutl a2 y62 (a2.length : Int)).getD (Int.toNat 0) z_api_Break).Hyphen)]) rfl (fun j v hv => hG633.cel _ _ (hc422 j v hv)) ?_
 exact nl ⟨rfl, (.inl ⟨hd2, _, hG633, (Regs.step hReg635 hDi rfl rfl rfl rfl), hI634⟩)⟩
 cases (hpost 5 rfl).symm.trans hd1
 cases (hpost 6 rfl).symm.trans hd1
 rintro D r wd636 (⟨hd2, G632, hG633, hReg635, hI634⟩ | ⟨hd1, hd2, G632, hG633, hReg635, hI634⟩ | ⟨hd1, G632, hG633, hReg635, hI634⟩) hDi hpre hpost
 obtain ⟨r0, rfl⟩ := Has.ex (cC (hReg635.get 0 rfl (hpre 0 rfl)) (cC (hReg635.get 1 rfl (hpre 1 rfl)) (cC (hReg635.get 4 rfl (hpre 4 rfl)) cN)))
 have hI623 := Hp.front hI634 4 rfl
 have hI624 := Hp.front hI623 4 rfl
 have hI625 := Hp.front hI624 4 rfl
 have hI626 := Hp.front hI625 4 rfl
 have hI627 := Hp.front hI626 4 rfl
 have hI628 := Hp.front hI627 6 rfl
 have hI629 := Hp.front hI628 6 rfl
 refine q_cv (vs := [agg [string a1, slice A3 a2.length c4, func (.func 57) [].toArray [pointer (some ⟨g8, 0, none⟩), pointer (some ⟨g19, 0, none⟩)].toArray].toArray, int .i64 a21, agg [int .i64 (((cutl a2 y62 (a2.length : Int)).getD (Int.toNat 0) z_api_Break).At), bool (((cutl a2 y62 (a2.length : Int)).getD (Int.toNat 0) z_api_Break).Hyphen)].toArray]) bo61 rfl rfl (inline_setter_line_k1_spec (a1 := a1) (a2 := a2) (a9 := a9) (a20 := a20) (a21 := a21) (a22 := ((cutl a2 y62 (a2.length : Int)).getD (Int.toNat 0) z_api_Break)) hI629 hl5 (Dat.mono (gT (gT (gT hG273 hG283) hG381) hG633) hD6) hl12 (Dat.mono (gT (gT (gT hG273 hG283) hG381) hG633) hD13) hl16 (Dat.mono (gT (gT (gT hG273 hG283) hG381) hG633) hD17) (hgl.mono (gT (gT (gT hG273 hG283) hG381) hG633)) hy612) ?_
 rintro _ wd425 ⟨G423, hG424, hI426, rfl⟩
 refine ⟨_, rfl, ?_⟩
 exact nl ⟨rfl, (.inr (.inl ⟨rfl, (hpost 6 rfl), _, (gT hG633 hG424), (Regs.step (Regs.more (new := [(5, 38, agg [int .i64 y427.From, int .i64 y427.Until, int .i64 y427.Width, bool y427.Hyphen].toArray)]) hReg635 (List.forall_mem_cons.2 ⟨hDi, (fun _ h => nomatch h)⟩)) hDi rfl rfl rfl rfl), hI426⟩))⟩
 cases hDi.symm.trans hd1
 cases (hpost 6 rfl).symm.trans hd1
 rintro D r wd636 (⟨hd2, G632, hG633, hReg635, hI634⟩ | ⟨hd1, hd2, G632, hG633, hReg635, hI634⟩ | ⟨hd1, G632, hG633, hReg635, hI634⟩) hDi hpre hpost
 cases (hpre 5 rfl).symm.trans hd2
 obtain ⟨r0, rfl⟩ := Has.ex (cC (hReg635.ins.get 2 rfl) (cC (hReg635.get 5 rfl (hpre 5 rfl)) cN))
 refine q_stA hI634 4 (v := agg [int .i64 y427.From, int .i64 y427.Until, int .i64 y427.Width, bool y427.Hyphen].toArray) (cs := [int .i64 y427.From, int .i64 y427.Until, int .i64 y427.Width, bool y427.Hyphen]) (vs' := [int .i64 y427.From, int .i64 y427.Until, int .i64 y427.Width, bool y427.Hyphen]) ag31 rfl rfl rfl rfl rfl rfl (Nat.le_of_ble_eq_true rfl) rfl (fun wd630 hI631 => ?_)
 exact nl ⟨rfl, (.inr (.inr ⟨rfl, _, hG633, (Regs.stepN hReg635 rfl rfl), hI631⟩))⟩
 cases hDi.symm.trans hd1
 intro D r wd636 hall hR
 rcases hR with ⟨hd2, G632, hG633, hReg635, hI634⟩ | ⟨hd1, hd2, G632, hG633, hReg635, hI634⟩ | ⟨hd1, G632, hG633, hReg635, hI634⟩
 cases (hall 5 (Nat.le_of_ble_eq_true rfl)).symm.trans hd2
 cases (hall 6 (Nat.le_of_ble_eq_true rfl)).symm.trans hd2
 obtain ⟨r0, rfl⟩ := Has.ex (cC (hReg635.ins.get 2 rfl) cN)
 refine hK394 _ _ _ ?_
 refine wpc_ret ?_
 refine ⟨.inr rfl, (gd293 :: ([] : List Nat)), _, _, rfl, Hp.marks (K := [bx g8 [slice A10 a9.Glyphs.length c11, slice A14 a9.Kerns.length c15] 25, bx g19 [int .i64 a20] 3, bx g287 [slice A289 y288.length c290] 45, bx g30 [int .i64 a21] 3, bx g38 [int .i64 y427.From, int .i64 y427.Until, int .i64 y427.Width, bool y427.Hyphen] 31, bx g34 [int .i64 a22] 3, bx g26 [string a1, slice A3 a2.length c4, func (.func 57) [].toArray [pointer (some ⟨g8, 0, none⟩), pointer (some ⟨g19, 0, none⟩)].toArray] 68]) hI634, fun wd638 hI637 => ?_⟩
 have hr639 := res_cell (P := Tryz.prog) hI637 4 (cs := [int .i64 y427.From, int .i64 y427.Until, int .i64 y427.Width, bool y427.Hyphen]) (g := g38) (o := 0) ag31 rfl rfl rfl
 have hI640 := Hp.sub hI637 (sk (sk (sd (sd (sd (sd (sd se)))))))
 cases H
 exact ⟨_, ⟨_, _, _, rfl, rfl, hr639, rfl⟩, _, (gT (gT (gT hG273 hG283) hG381) hG633), hI640, rfl⟩
 rcases j with _ | j
 refine ⟨_, rfl, LoopState.done, (some Code.ret), G380, _, (fun h => nomatch h), hH388, fun wd384 hI385 => ?_⟩
 refine ⟨.inr rfl, (gd293 :: ([] : List Nat)), _, _, rfl, Hp.marks (K := [bx g287 [slice A289 y288.length c290] 45, bx g30 [int .i64 a21] 3, bx g38 [int .i64 v294, int .i64 v295, int .i64 v296, bool v297] 31, bx g34 [int .i64 a22] 3, bx g26 [string a1, slice A3 a2.length c4, func (.func 57) [].toArray [pointer (some ⟨g8, 0, none⟩), pointer (some ⟨g19, 0, none⟩)].toArray] 68, bx g8 [slice A10 a9.Glyphs.length c11, slice A14 a9.Kerns.length c15] 25, bx g19 [int .i64 a20] 3]) hI385, fun wd642 hI641 => ?_⟩
 have hr643 := res_cell (P := Tryz.prog) hI641 2 (cs := [int .i64 v294, int .i64 v295, int .i64 v296, bool v297]) (g := g38) (o := 0) ag31 rfl rfl rfl
 have hI644 := Hp.front hI641 6 rfl
 have hI645 := Hp.front hI644 6 rfl
 have hI646 := Hp.sub hI645 (sk (sk (sd (sd (sd (sd (sd se)))))))
 cases H
 exact ⟨_, ⟨_, _, _, rfl, rfl, hr643, rfl⟩, _, (gT (gT hG273 hG283) hG381), hI646, rfl⟩
 cases H
set_option maxHeartbeats 1000000 in
theorem inline_Next_spec {a1 : api_Font} {a10 : api_Breaks} {a15 : ByteArray} {a16 : Int} {a17 : Int} {a18 : Int} {A2 : Option Addr} {c3 : Nat} {A6 : Option Addr} {c7 : Nat} {A11 : Option Addr} {c12 : Nat} {r1178 : api_Line} {r1179 : Int} {G : Gh} {L : List Itm} {w : World} (hI : Hp G (L) w) (hl4 : a1.Glyphs.length ≤ c3) (hD5 : Dat k_api_Glyph G A2 a1.Glyphs) (hl8 : a1.Kerns.length ≤ c7) (hD9 : Dat k_api_Kern G A6 a1.Kerns) (hl13 : a10.Keep.length ≤ c12) (hD14 : Dat Kd.str G A11 a10.Keep) (hgl : Gl G) (H : inline_Next a1 a10 a15 a16 a17 a18 = some (r1178, r1179)) :
    Calls Tryz.prog 11 [agg [slice A2 a1.Glyphs.length c3, slice A6 a1.Kerns.length c7].toArray, agg [int .i64 a10.Before, int .i64 a10.Behind, slice A11 a10.Keep.length c12].toArray, string a15, int .i64 a16, int .i64 a17, int .i64 a18].toArray w fun e w' => ∃ (G' : Gh), G ≤ G' ∧ Hp G' (L) w' ∧ e = .returned (tuple [agg [int .i64 r1178.From, int .i64 r1178.Until, int .i64 r1178.Width, bool r1178.Hyphen].toArray, int .i64 r1179].toArray) := by
 refine calls_intro (N := 44) Tryz.func11 rfl rfl (Nat.le_of_ble_eq_true rfl) ?_
 unfold inline_Next at H
 refine sr fun K19 hK20 => ?_
 refine q_box hI (v := agg [slice A2 a1.Glyphs.length c3, slice A6 a1.Kerns.length c7].toArray) (vs := [slice A2 a1.Glyphs.length c3, slice A6 a1.Kerns.length c7]) rfl rfl (fun g22 wd23 hI24 => ?_)
 refine q_box hI24 (v := agg [int .i64 a10.Before, int .i64 a10.Behind, slice A11 a10.Keep.length c12].toArray) (vs := [int .i64 a10.Before, int .i64 a10.Behind, slice A11 a10.Keep.length c12]) rfl rfl (fun g26 wd27 hI28 => ?_)
 refine q_alloc hI28 ze31 (fun g30 wd31 hI32 => ?_)
 refine q_as (v := int .i64 0) rfl ?_
 refine nl ?_
 refine hK20 _ _ _ ?_
 refine sQ fun K33 hK34 => ?_
 refine sr fun K35 hK36 => ?_
 refine q_mv (v := int .i64 a16) rfl ?_
 refine q_mv (v := string a15) rfl ?_
 refine q_lens so9 rfl ?_
 refine q_sub rfl rfl ?_
 obtain ⟨y42, hy37, H⟩ := bS H
 refine q_cv (vs := [int .i64 a16, int .i64 0, int .i64 (w64 ((a15.size : Int) - 1))]) bo25 rfl rfl (inline_within_int_spec (a1 := a16) (a2 := 0) (a3 := w64 ((a15.size : Int) - 1)) hI32 hy37) ?_
 rintro _ wd40 ⟨G38, hG39, hI41, rfl⟩
 refine ⟨_, rfl, ?_⟩
 refine q_not rfl ?_
 refine q_mv (v := bool (!y42)) rfl ?_
 obtain ⟨v43, hC, H⟩ := bS H
 refine wpq_split 4 (K := fun e r ds w => e = .normal ∧ ∃ (G44 : Gh), ds = [] ∧ G38 ≤ G44 ∧ Has [(2, string a15), (3, int .i64 a16), (4, int .i64 a17), (5, int .i64 a18), (6, pointer (some ⟨g22, 0, none⟩)), (7, pointer (some ⟨g26, 0, none⟩)), (12, pointer (some ⟨g30, 0, none⟩)), (26, bool v43)] r ∧ Hp G44 (bx g30 [int .i64 0, int .i64 0, int .i64 0, bool false] 31 :: bx g26 [int .i64 a10.Before, int .i64 a10.Behind, slice A11 a10.Keep.length c12] 28 :: bx g22 [slice A2 a1.Glyphs.length c3, slice A6 a1.Kerns.length c7] 25 :: L) w ∧ True) ?_ ?_
 replace H := hC
 by_cases h49 : (!y42) = true
 replace H := iY h49 H
 refine wN (gN rfl rfl rfl (bval_yes h49) rfl) ?_
 refine wN (gN rfl rfl rfl (bval_yes h49) rfl) ?_
 refine wN (gN rfl rfl rfl (bval_yes h49) rfl) ?_
 refine q_pick true (v := bool true) (bval_yes h49) rfl ?_
 refine nl ?_
 cases H
 exact ⟨rfl, _, rfl, gR, ⟨rfl, rfl, rfl, rfl, rfl, rfl, rfl, rfl, trivial⟩, hI41, trivial⟩
 replace H := iN h49 H
 refine q_mv (v := int .i64 a18) rfl ?_ (hw := gY rfl rfl rfl (bval_no h49))
 obtain ⟨y55, hy50, H⟩ := bS H
 refine q_cv (vs := [int .i64 a18, int .i64 0, int .i64 1000000000]) bo25 rfl rfl (inline_within_int_spec (a1 := a18) (a2 := 0) (a3 := 1000000000) hI41 hy50) ?_ (hw := gY rfl rfl rfl (bval_no h49))
 rintro _ wd53 ⟨G51, hG52, hI54, rfl⟩
 refine ⟨_, rfl, ?_⟩
 refine q_not rfl ?_ (hw := gY rfl rfl rfl (bval_no h49))
 refine q_pick false (v := bool (!y55)) (bval_no h49) rfl ?_
 refine nl ?_
 cases H
 exact ⟨rfl, _, rfl, hG52, ⟨rfl, rfl, rfl, rfl, rfl, rfl, rfl, rfl, trivial⟩, hI54, trivial⟩
 clear hC
 rintro e r ds wd46 ⟨rfl, G44, rfl, hG45, hHas, hI47, _⟩
 rw [hHas.eq]; clear hHas
 refine nl ?_
 refine hK36 _ _ _ ?_
 by_cases h56 : v43 = true
 replace H := iY h56 H
 refine wpc_true (bval_yes h56) ?_
 refine sr fun K57 hK58 => ?_
 refine q_build (vs := []) (cs := [int .i64 0, int .i64 0, int .i64 0, bool false]) ze31 pl31 rfl rfl ?_
 refine q_stA hI47 0 (v := agg [int .i64 0, int .i64 0, int .i64 0, bool false].toArray) (cs := [int .i64 0, int .i64 0, int .i64 0, bool false]) (vs' := [int .i64 0, int .i64 0, int .i64 0, bool false]) ag31 rfl rfl rfl rfl rfl rfl (Nat.le_of_ble_eq_true rfl) rfl (fun wd59 hI60 => ?_)
 refine q_as (v := int .i64 1) rfl ?_
 refine nl ?_
 refine hK58 _ _ _ ?_
 refine wpc_ret ?_
 have hr61 := res_cell (P := Tryz.prog) hI60 0 (cs := [int .i64 0, int .i64 0, int .i64 0, bool false]) (g := g30) (o := 0) ag31 rfl rfl rfl
 have hI62 := Hp.sub hI60 (sd (sd (sd se)))
 cases H
 exact ⟨.inr rfl, rfl, _, ⟨_, _, _, rfl, rfl, hr61, ⟨_, _, rfl, rfl, rfl⟩⟩, _, (gT hG39 hG45), hI62, rfl⟩
 replace H := iN h56 H
 refine wpc_false (bval_no h56) ?_
 refine wpc_skip ?_
 refine hK34 _ _ _ ?_
 refine sr fun K63 hK64 => ?_
 refine q_ldA hI47 2 (cs := [slice A2 a1.Glyphs.length c3, slice A6 a1.Kerns.length c7]) ag25 rfl rfl rfl rfl ?_
 refine q_ldA hI47 1 (cs := [int .i64 a10.Before, int .i64 a10.Behind, slice A11 a10.Keep.length c12]) ag28 rfl rfl rfl rfl ?_
 refine q_mv (v := string a15) rfl ?_
 refine q_mv (v := int .i64 a17) rfl ?_
 obtain ⟨o66, hy65, H⟩ := bS H
 rcases o66 with ⟨y71, y72⟩ | ⟨y99, y100⟩ | ⟨y127, y128, y137, y148⟩
 refine q_cv (vs := [agg [slice A2 a1.Glyphs.length c3, slice A6 a1.Kerns.length c7].toArray, agg [int .i64 a10.Before, int .i64 a10.Behind, slice A11 a10.Keep.length c12].toArray, string a15, int .i64 a17]) bo26 rfl rfl (inline_prepare_spec (a1 := a1) (a10 := a10) (a15 := a15) (a16 := a17) hI47 hl4 (Dat.mono (gT hG39 hG45) hD5) hl8 (Dat.mono (gT hG39 hG45) hD9) hl13 (Dat.mono (gT hG39 hG45) hD14) hy65) ?_
 rintro _ wd69 ⟨A73, c74, G67, hG68, hI70, hl75, hD76, ho77, rfl⟩
 refine ⟨_, rfl, ?_⟩
 refine q_mv (v := tuple [agg [string y71, slice A73 y72.length c74, Value.nilFunc].toArray, int .i64 1].toArray) rfl ?_
 refine q_ex (v := agg [string y71, slice A73 y72.length c74, Value.nilFunc].toArray) rfl rfl ?_
 refine q_ex (v := int .i64 1) rfl rfl ?_
 refine q_alloc hI70 ze68 (fun g80 wd81 hI82 => ?_)
 refine q_stA hI82 0 (v := agg [string y71, slice A73 y72.length c74, Value.nilFunc].toArray) (cs := [string y71, slice A73 y72.length c74, Value.nilFunc]) (vs' := [string y71, slice A73 y72.length c74, Value.nilFunc]) ag68 rfl rfl rfl rfl rfl rfl (Nat.le_of_ble_eq_true rfl) rfl (fun wd83 hI84 => ?_)
 refine q_as (v := int .i64 1) rfl ?_
 refine nl ?_
 refine hK64 _ _ _ ?_
 refine sQ fun K85 hK86 => ?_
 refine sr fun K87 hK88 => ?_
 refine q_mv (v := int .i64 1) rfl ?_
 refine q_neq rfl rfl ?_
 refine nl ?_
 refine hK88 _ _ _ ?_
 refine wpc_true (bool_yes (p := ¬ (1 : Int) = 0) (by decide)) ?_
 refine sr fun K89 hK90 => ?_
 refine q_build (vs := []) (cs := [int .i64 0, int .i64 0, int .i64 0, bool false]) ze31 pl31 rfl rfl ?_
 refine q_mv (v := int .i64 1) rfl ?_
 refine q_stA hI84 2 (v := agg [int .i64 0, int .i64 0, int .i64 0, bool false].toArray) (cs := [int .i64 0, int .i64 0, int .i64 0, bool false]) (vs' := [int .i64 0, int .i64 0, int .i64 0, bool false]) ag31 rfl rfl rfl rfl rfl rfl (Nat.le_of_ble_eq_true rfl) rfl (fun wd91 hI92 => ?_)
 refine q_as (v := int .i64 1) rfl ?_
 refine nl ?_
 refine hK90 _ _ _ ?_
 refine wpc_ret ?_
 have hr93 := res_cell (P := Tryz.prog) hI92 2 (cs := [int .i64 0, int .i64 0, int .i64 0, bool false]) (g := g30) (o := 0) ag31 rfl rfl rfl
 have hI94 := Hp.sub hI92 (sd (sd (sd (sd (sd se)))))
 cases H
 exact ⟨.inr rfl, rfl, _, ⟨_, _, _, rfl, rfl, hr93, ⟨_, _, rfl, rfl, rfl⟩⟩, _, (gT (gT hG39 hG45) hG68), hI94, rfl⟩
 refine q_cv (vs := [agg [slice A2 a1.Glyphs.length c3, slice A6 a1.Kerns.length c7].toArray, agg [int .i64 a10.Before, int .i64 a10.Behind, slice A11 a10.Keep.length c12].toArray, string a15, int .i64 a17]) bo26 rfl rfl (inline_prepare_spec (a1 := a1) (a10 := a10) (a15 := a15) (a16 := a17) hI47 hl4 (Dat.mono (gT hG39 hG45) hD5) hl8 (Dat.mono (gT hG39 hG45) hD9) hl13 (Dat.mono (gT hG39 hG45) hD14) hy65) ?_
 rintro _ wd97 ⟨A101, c102, G95, hG96, hI98, hl103, hD104, ho105, rfl⟩
 refine ⟨_, rfl, ?_⟩
 refine q_mv (v := tuple [agg [string y99, slice A101 y100.length c102, Value.nilFunc].toArray, int .i64 20].toArray) rfl ?_
 refine q_ex (v := agg [string y99, slice A101 y100.length c102, Value.nilFunc].toArray) rfl rfl ?_
 refine q_ex (v := int .i64 20) rfl rfl ?_
 refine q_alloc hI98 ze68 (fun g108 wd109 hI110 => ?_)
 refine q_stA hI110 0 (v := agg [string y99, slice A101 y100.length c102, Value.nilFunc].toArray) (cs := [string y99, slice A101 y100.length c102, Value.nilFunc]) (vs' := [string y99, slice A101 y100.length c102, Value.nilFunc]) ag68 rfl rfl rfl rfl rfl rfl (Nat.le_of_ble_eq_true rfl) rfl (fun wd111 hI112 => ?_)
 refine q_as (v := int .i64 20) rfl ?_
 refine nl ?_
 refine hK64 _ _ _ ?_
 refine sQ fun K113 hK114 => ?_
 refine sr fun K115 hK116 => ?_
 refine q_mv (v := int .i64 20) rfl ?_
 refine q_neq rfl rfl ?_
 refine nl ?_
 refine hK116 _ _ _ ?_
 refine wpc_true (bool_yes (p := ¬ (20 : Int) = 0) (by decide)) ?_
 refine sr fun K117 hK118 => ?_
 refine q_build (vs := []) (cs := [int .i64 0, int .i64 0, int .i64 0, bool false]) ze31 pl31 rfl rfl ?_
 refine q_mv (v := int .i64 20) rfl ?_
 refine q_stA hI112 2 (v := agg [int .i64 0, int .i64 0, int .i64 0, bool false].toArray) (cs := [int .i64 0, int .i64 0, int .i64 0, bool false]) (vs' := [int .i64 0, int .i64 0, int .i64 0, bool false]) ag31 rfl rfl rfl rfl rfl rfl (Nat.le_of_ble_eq_true rfl) rfl (fun wd119 hI120 => ?_)
 refine q_as (v := int .i64 20) rfl ?_
 refine nl ?_
 refine hK118 _ _ _ ?_
 refine wpc_ret ?_
 have hr121 := res_cell (P := Tryz.prog) hI120 2 (cs := [int .i64 0, int .i64 0, int .i64 0, bool false]) (g := g30) (o := 0) ag31 rfl rfl rfl
 have hI122 := Hp.sub hI120 (sd (sd (sd (sd (sd se)))))
 cases H
 exact ⟨.inr rfl, rfl, _, ⟨_, _, _, rfl, rfl, hr121, ⟨_, _, rfl, rfl, rfl⟩⟩, _, (gT (gT hG39 hG45) hG96), hI122, rfl⟩
 refine q_cv (vs := [agg [slice A2 a1.Glyphs.length c3, slice A6 a1.Kerns.length c7].toArray, agg [int .i64 a10.Before, int .i64 a10.Behind, slice A11 a10.Keep.length c12].toArray, string a15, int .i64 a17]) bo26 rfl rfl (inline_prepare_spec (a1 := a1) (a10 := a10) (a15 := a15) (a16 := a17) hI47 hl4 (Dat.mono (gT hG39 hG45) hD5) hl8 (Dat.mono (gT hG39 hG45) hD9) hl13 (Dat.mono (gT hG39 hG45) hD14) hy65) ?_
 rintro _ wd125 ⟨A129, c130, g136, A138, c139, A142, c143, g147, G123, hG124, hI126, hl131, hD132, ho133, hl140, hD141, hl144, hD145, rfl⟩
 refine ⟨_, rfl, ?_⟩
 refine q_mv (v := tuple [agg [string y127, slice A129 y128.length c130, func (.func 57) [].toArray [pointer (some ⟨g136, 0, none⟩), pointer (some ⟨g147, 0, none⟩)].toArray].toArray, int .i64 0].toArray) rfl ?_
 refine q_ex (v := agg [string y127, slice A129 y128.length c130, func (.func 57) [].toArray [pointer (some ⟨g136, 0, none⟩), pointer (some ⟨g147, 0, none⟩)].toArray].toArray) rfl rfl ?_
 refine q_ex (v := int .i64 0) rfl rfl ?_
 refine q_alloc hI126 ze68 (fun g150 wd151 hI152 => ?_)
 refine q_stA hI152 0 (v := agg [string y127, slice A129 y128.length c130, func (.func 57) [].toArray [pointer (some ⟨g136, 0, none⟩), pointer (some ⟨g147, 0, none⟩)].toArray].toArray) (cs := [string y127, slice A129 y128.length c130, func (.func 57) [].toArray [pointer (some ⟨g136, 0, none⟩), pointer (some ⟨g147, 0, none⟩)].toArray]) (vs' := [string y127, slice A129 y128.length c130, func (.func 57) [].toArray [pointer (some ⟨g136, 0, none⟩), pointer (some ⟨g147, 0, none⟩)].toArray]) ag68 rfl rfl rfl rfl rfl rfl (Nat.le_of_ble_eq_true rfl) rfl (fun wd153 hI154 => ?_)
 refine q_as (v := int .i64 0) rfl ?_
 refine nl ?_
 refine hK64 _ _ _ ?_
 refine sQ fun K155 hK156 => ?_
 refine sr fun K157 hK158 => ?_
 refine q_mv (v := int .i64 0) rfl ?_
 refine q_neq rfl rfl ?_
 refine nl ?_
 refine hK158 _ _ _ ?_
 refine wpc_false (bool_no (p := ¬ (0 : Int) = 0) (by decide)) ?_
 refine wpc_skip ?_
 refine hK156 _ _ _ ?_
 refine sr fun K159 hK160 => ?_
 refine q_ldA hI154 0 (cs := [string y127, slice A129 y128.length c130, func (.func 57) [].toArray [pointer (some ⟨g136, 0, none⟩), pointer (some ⟨g147, 0, none⟩)].toArray]) ag68 rfl rfl rfl rfl ?_
 refine q_mv (v := int .i64 a16) rfl ?_
 refine q_mv (v := int .i64 a18) rfl ?_
 have hI161 := Hp.front hI154 6 rfl
 have hI162 := Hp.front hI161 6 rfl
 have hI163 := Hp.front hI162 6 rfl
 have hI164 := Hp.front hI163 4 rfl
 have hI165 := Hp.front hI164 4 rfl
 have hI166 := Hp.front hI165 6 rfl
 have hI167 := Hp.front hI166 6 rfl
 obtain ⟨y173, hy168, H⟩ := bS H
 refine q_cv (vs := [agg [string y127, slice A129 y128.length c130, func (.func 57) [].toArray [pointer (some ⟨g136, 0, none⟩), pointer (some ⟨g147, 0, none⟩)].toArray].toArray, int .i64 a16, int .i64 a18]) bo27 rfl rfl (inline_setter_next_k1_spec (a1 := y127) (a2 := y128) (a9 := y137) (a20 := y148) (a21 := a16) (a22 := a18) hI167 hl131 hD132 hl140 hD141 hl144 hD145 (hgl.mono (gT (gT hG39 hG45) hG124)) hy168) ?_
 rintro _ wd171 ⟨G169, hG170, hI172, rfl⟩
 refine ⟨_, rfl, ?_⟩
 refine q_stA hI172 4 (v := agg [int .i64 y173.From, int .i64 y173.Until, int .i64 y173.Width, bool y173.Hyphen].toArray) (cs := [int .i64 y173.From, int .i64 y173.Until, int .i64 y173.Width, bool y173.Hyphen]) (vs' := [int .i64 y173.From, int .i64 y173.Until, int .i64 y173.Width, bool y173.Hyphen]) ag31 rfl rfl rfl rfl rfl rfl (Nat.le_of_ble_eq_true rfl) rfl (fun wd174 hI175 => ?_)
 refine q_as (v := int .i64 0) rfl ?_
 refine nl ?_
 refine hK160 _ _ _ ?_
 refine wpc_ret ?_
 have hr176 := res_cell (P := Tryz.prog) hI175 4 (cs := [int .i64 y173.From, int .i64 y173.Until, int .i64 y173.Width, bool y173.Hyphen]) (g := g30) (o := 0) ag31 rfl rfl rfl
 have hI177 := Hp.sub hI175 (sd (sd (sd (sd (sd (sd (sd se)))))))
 cases H
 exact ⟨.inr rfl, rfl, _, ⟨_, _, _, rfl, rfl, hr176, ⟨_, _, rfl, rfl, rfl⟩⟩, _, (gT (gT (gT hG39 hG45) hG124) hG170), hI177, rfl⟩
set_option maxHeartbeats 1000000 in
theorem inline_Lines_1_spec {a1 : Int} {r1012 : Bool} {G : Gh} {L : List Itm} {w : World} (hI : Hp G (L) w) (H : inline_Lines_1 a1 = some r1012) :
    Calls Tryz.prog 31 [int .i64 a1].toArray w fun e w' => ∃ (G' : Gh), G ≤ G' ∧ Hp G' (L) w' ∧ e = .returned (bool r1012) := by
 refine calls_intro (N := 6) Tryz.func31 rfl rfl (Nat.le_of_ble_eq_true rfl) ?_
 unfold inline_Lines_1 at H
 refine sr fun K2 hK3 => ?_
 refine q_as (v := bool false) rfl ?_
 refine nl ?_
 refine hK3 _ _ _ ?_
 refine sr fun K4 hK5 => ?_
 refine q_mv (v := int .i64 a1) rfl ?_
 obtain ⟨y11, hy6, H⟩ := bS H
 refine q_cv (vs := [int .i64 a1, int .i64 0, int .i64 1000000000]) bo25 rfl rfl (inline_within_int_spec (a1 := a1) (a2 := 0) (a3 := 1000000000) hI hy6) ?_
 rintro _ wd9 ⟨G7, hG8, hI10, rfl⟩
 refine ⟨_, rfl, ?_⟩
 refine q_not rfl ?_
 refine q_as (v := bool (!y11)) rfl ?_
 refine nl ?_
 refine hK5 _ _ _ ?_
 refine wpc_ret ?_
 cases H
 exact ⟨.inr rfl, rfl, _, ⟨_, _, rfl, rfl, rfl⟩, _, hG8, hI10, rfl⟩
set_option maxHeartbeats 1000000 in
theorem text_Words_spec {a1 : ByteArray} {r1138 : Int} {r1139 : Int} {G : Gh} {L : List Itm} {w : World} (hI : Hp G (L) w) (H : text_Words a1 = some (r1138, r1139)) :
    Calls Tryz.prog 20 [string a1].toArray w fun e w' => ∃ (G' : Gh), G ≤ G' ∧ Hp G' (L) w' ∧ e = .returned (tuple [int .i64 r1138, int .i64 r1139].toArray) := by
 refine calls_intro (N := 32) Tryz.func20 rfl rfl (Nat.le_of_ble_eq_true rfl) ?_
 unfold text_Words at H
 refine sr fun K2 hK3 => ?_
 refine q_as (v := int .i64 0) rfl ?_
 refine q_as (v := int .i64 0) rfl ?_
 refine nl ?_
 refine hK3 _ _ _ ?_
 refine sQ fun K4 hK5 => ?_
 refine sr fun K6 hK7 => ?_
 refine q_mv (v := string a1) rfl ?_
 obtain ⟨y13, hy8, H⟩ := bS H
 refine q_cv (vs := [string a1]) bo37 rfl rfl (text_Valid_spec (a1 := a1) hI hy8) ?_
 rintro _ wd11 ⟨G9, hG10, hI12, rfl⟩
 refine ⟨_, rfl, ?_⟩
 refine q_not rfl ?_
 refine nl ?_
 refine hK7 _ _ _ ?_
 by_cases h14 : (!y13) = true
 replace H := iY h14 H
 refine wpc_true (bval_yes h14) ?_
 refine sr fun K15 hK16 => ?_
 refine q_as (v := int .i64 0) rfl ?_
 refine q_as (v := int .i64 1) rfl ?_
 refine nl ?_
 refine hK16 _ _ _ ?_
 refine wpc_ret ?_
 cases H
 exact ⟨.inr rfl, rfl, _, ⟨_, _, rfl, rfl, ⟨_, _, rfl, rfl, rfl⟩⟩, _, hG10, hI12, rfl⟩
 replace H := iN h14 H
 refine wpc_false (bval_no h14) ?_
 refine wpc_skip ?_
 refine hK5 _ _ _ ?_
 refine sr fun K17 hK18 => ?_
 refine q_as (v := int .i64 0) rfl ?_
 refine q_as (v := bool false) rfl ?_
 refine nl ?_
 refine hK18 _ _ _ ?_
 refine sQ fun K19 hK20 => ?_
 refine sr fun K21 hK22 => ?_
 refine q_mv (v := string a1) rfl ?_
 refine q_rgs hI12 so9 rfl (fun g24 wd25 hI26 => ?_)
 refine nl ?_
 refine hK22 _ _ _ ?_
 refine wpc_block ?_
 obtain ⟨⟨v42, v43⟩, hC, H⟩ := bS H
 refine wpc_mono (Q := fun e r ds w => e = .exit 0 ∧ ∃ (G44 : Gh), ds = [] ∧ G9 ≤ G44 ∧ Has [(4, int .i64 v42)] r ∧ Hp G44 (ob g24 (Obj.stringIter a1 v43) :: L) w ∧ True) ?_ ?_
 clear H
 refine wpc_loop fun I hLp => ?_
 refine text_Words_l41.partial_correctness a1 (fun v31 v32 v33 o => ∀ (G49 : Gh) (r : Rg) (w : World), G9 ≤ G49 → Has [(4, int .i64 v31), (5, bool v32), (12, pointer (some ⟨g24, 0, none⟩))] r → Hp G49 (ob g24 (Obj.stringIter a1 v33) :: L) w → o = (v42, v43) → I r [] w) ?_ 0 false 0 _ hC _ _ _ gR ⟨rfl, rfl, rfl, trivial⟩ hI26 rfl
 intro _ ih v31 v32 v33 o H G49 r wd51 hG50 hHas hI52 ho
 rw [ho] at H; clear ho
 rw [hHas.eq]; clear hHas
 refine hLp _ _ _ ?_
 refine sr fun K53 hK54 => ?_
 by_cases h55 : v33 < a1.size
 replace H := iY h55 H
 refine q_nxy hI52 0 rfl rfl h55 (fun wd56 hI57 => ?_)
 refine q_ex (v := bool true) rfl rfl ?_
 refine nl ?_
 refine hK54 _ _ _ ?_
 refine sQ fun K58 hK59 => ?_
 refine wpc_true rfl ?_
 refine wpc_skip ?_
 refine hK59 _ _ _ ?_
 refine wpc_block ?_
 refine sr fun K60 hK61 => ?_
 refine q_ex (v := int .i32 ((Utf8.decode a1 v33).1 : Int)) rfl rfl ?_
 refine q_as (v := int .i32 ((Utf8.decode a1 v33).1 : Int)) rfl ?_
 refine nl ?_
 refine hK61 _ _ _ ?_
 refine sr fun K62 hK63 => ?_
 refine q_mv (v := int .i32 ((Utf8.decode a1 v33).1 : Int)) rfl ?_
 refine q_cvi ik21 ik5 rfl ?_
 obtain ⟨y69, hy64, H⟩ := bS H
 refine q_cv (vs := [int .u8 (wu8 (((Utf8.decode a1 v33).1 : Int)))]) bo49 rfl rfl (text_Class_spec (a1 := wu8 (((Utf8.decode a1 v33).1 : Int))) hI57 hy64) ?_
 rintro _ wd67 ⟨G65, hG66, hI68, rfl⟩
 refine ⟨_, rfl, ?_⟩
 refine nl ?_
 refine hK63 _ _ _ ?_
 refine wpc_block ?_
 refine sQ fun K70 hK71 => ?_
 obtain ⟨o81, hC, H⟩ := bS H
 refine wpc_mono (Q := fun e r ds w => match (generalizing := false) o81 with | (Sum.inl _) => e = .normal ∧ ∃ (G73 : Gh), ds = [] ∧ G65 ≤ G73 ∧ Has [(4, int .i64 v31), (5, bool v32), (12, pointer (some ⟨g24, 0, none⟩))] r ∧ Hp G73 (ob g24 (Obj.stringIter a1 (v33 + (Utf8.decode a1 v33).2)) :: L) w ∧ True | (Sum.inr v72) => e = .exit 2 ∧ ∃ (G77 : Gh), ds = [] ∧ G65 ≤ G77 ∧ Has [(4, int .i64 v31), (5, bool v72), (12, pointer (some ⟨g24, 0, none⟩))] r ∧ Hp G77 (ob g24 (Obj.stringIter a1 (v33 + (Utf8.decode a1 v33).2)) :: L) w ∧ True) ?_ ?_
 replace H := hC
 refine wpc_block ?_
 refine wpc_block ?_
 refine sQ fun K82 hK83 => ?_
 refine wpc_block ?_
 refine sQ fun K84 hK85 => ?_
 obtain ⟨o102, hC, H⟩ := bS H
 refine wpc_mono (Q := fun e r ds w => match (generalizing := false) o102 with | (Sum.inl _) => e = .normal ∧ ∃ (G86 : Gh), ds = [] ∧ G65 ≤ G86 ∧ Has [(4, int .i64 v31), (5, bool v32), (12, pointer (some ⟨g24, 0, none⟩))] r ∧ Hp G86 (ob g24 (Obj.stringIter a1 (v33 + (Utf8.decode a1 v33).2)) :: L) w ∧ True | (Sum.inr (Sum.inl _)) => e = .exit 6 ∧ ∃ (G90 : Gh), ds = [] ∧ G65 ≤ G90 ∧ Has [(4, int .i64 v31), (5, bool v32), (12, pointer (some ⟨g24, 0, none⟩))] r ∧ Hp G90 (ob g24 (Obj.stringIter a1 (v33 + (Utf8.decode a1 v33).2)) :: L) w ∧ True | (Sum.inr (Sum.inr (Sum.inl _))) => e = .exit 5 ∧ ∃ (G94 : Gh), ds = [] ∧ G65 ≤ G94 ∧ Has [(4, int .i64 v31), (5, bool v32), (12, pointer (some ⟨g24, 0, none⟩))] r ∧ Hp G94 (ob g24 (Obj.stringIter a1 (v33 + (Utf8.decode a1 v33).2)) :: L) w ∧ True | (Sum.inr (Sum.inr (Sum.inr _))) => e = .exit 4 ∧ ∃ (G98 : Gh), ds = [] ∧ G65 ≤ G98 ∧ Has [(4, int .i64 v31), (12, pointer (some ⟨g24, 0, none⟩))] r ∧ Hp G98 (ob g24 (Obj.stringIter a1 (v33 + (Utf8.decode a1 v33).2)) :: L) w ∧ True) ?_ ?_
 replace H := hC
 refine wpc_block ?_
 refine sQ fun K103 hK104 => ?_
 refine sQ fun K105 hK106 => ?_
 refine sr fun K107 hK108 => ?_
 refine q_eql rfl rfl ?_
 refine q_as (v := bool (decide (y69 = 6))) rfl ?_
 refine nl ?_
 refine hK108 _ _ _ ?_
 by_cases h109 : y69 = 6
 replace H := iY h109 H
 refine wpc_true (bool_yes h109) ?_
 refine wpc_exit ?_
 cases H
 exact ⟨rfl, _, rfl, gR, ⟨rfl, rfl, rfl, trivial⟩, hI68, trivial⟩
 replace H := iN h109 H
 refine wpc_false (bool_no h109) ?_
 refine wpc_skip ?_
 refine hK106 _ _ _ ?_
 refine sQ fun K110 hK111 => ?_
 refine sr fun K112 hK113 => ?_
 refine q_eql rfl rfl ?_
 refine q_as (v := bool (decide (y69 = 4))) rfl ?_
 refine nl ?_
 refine hK113 _ _ _ ?_
 by_cases h114 : y69 = 4
 replace H := iY h114 H
 refine wpc_true (bool_yes h114) ?_
 refine wpc_exit ?_
 cases H
 exact ⟨rfl, _, rfl, gR, ⟨rfl, rfl, trivial⟩, hI68, trivial⟩
 replace H := iN h114 H
 refine wpc_false (bool_no h114) ?_
 refine wpc_skip ?_
 refine hK111 _ _ _ ?_
 refine sQ fun K115 hK116 => ?_
 refine sr fun K117 hK118 => ?_
 refine q_eql rfl rfl ?_
 refine q_as (v := bool (decide (y69 = 1))) rfl ?_
 refine nl ?_
 refine hK118 _ _ _ ?_
 by_cases h119 : y69 = 1
 replace H := iY h119 H
 refine wpc_true (bool_yes h119) ?_
 refine wpc_skip ?_
 refine hK116 _ _ _ ?_
 refine wpc_true (bool_yes h119) ?_
 refine wpc_exit ?_
 cases H
 exact ⟨rfl, _, rfl, gR, ⟨rfl, rfl, rfl, trivial⟩, hI68, trivial⟩
 replace H := iN h119 H
 refine wpc_false (bool_no h119) ?_
 refine sr fun K120 hK121 => ?_
 refine q_eql rfl rfl ?_
 refine q_as (v := bool (decide (y69 = 2))) rfl ?_
 refine nl ?_
 refine hK121 _ _ _ ?_
 by_cases h122 : y69 = 2
 replace H := iY h122 H
 refine wpc_true (bool_yes h122) ?_
 refine wpc_skip ?_
 refine hK116 _ _ _ ?_
 refine wpc_true (bool_yes h122) ?_
 refine wpc_exit ?_
 cases H
 exact ⟨rfl, _, rfl, gR, ⟨rfl, rfl, rfl, trivial⟩, hI68, trivial⟩
 replace H := iN h122 H
 refine wpc_false (bool_no h122) ?_
 refine wpc_region ?_
 refine q_eql rfl rfl ?_
 refine q_as (v := bool (decide (y69 = 3))) rfl ?_
 refine nl ?_
 refine hK116 _ _ _ ?_
 by_cases h123 : y69 = 3
 replace H := iY h123 H
 refine wpc_true (bool_yes h123) ?_
 refine wpc_exit ?_
 cases H
 exact ⟨rfl, _, rfl, gR, ⟨rfl, rfl, rfl, trivial⟩, hI68, trivial⟩
 replace H := iN h123 H
 refine wpc_false (bool_no h123) ?_
 refine wpc_skip ?_
 refine hK104 _ _ _ ?_
 refine wpc_exit ?_
 cases H
 exact ⟨rfl, _, rfl, gR, ⟨rfl, rfl, rfl, trivial⟩, hI68, trivial⟩
 clear hC
 rcases o102 with _ | _ | _ | _
 rintro e r ds wd88 ⟨rfl, G86, rfl, hG87, hHas, hI89, _⟩
 rw [hHas.eq]; clear hHas
 refine hK85 _ _ _ ?_
 refine wpc_exit ?_
 cases H
 exact ⟨rfl, _, rfl, hG87, ⟨rfl, rfl, rfl, trivial⟩, hI89, trivial⟩
 rintro e r ds wd92 ⟨rfl, G90, rfl, hG91, hHas, hI93, _⟩
 rw [hHas.eq]; clear hHas
 cases H
 exact ⟨rfl, _, rfl, hG91, ⟨rfl, rfl, rfl, trivial⟩, hI93, trivial⟩
 rintro e r ds wd96 ⟨rfl, G94, rfl, hG95, hHas, hI97, _⟩
 rw [hHas.eq]; clear hHas
 cases H
 exact ⟨rfl, _, rfl, hG95, ⟨rfl, rfl, rfl, trivial⟩, hI97, trivial⟩
 rintro e r ds wd100 ⟨rfl, G98, rfl, hG99, hHas, hI101, _⟩
 rw [hHas.eq]; clear hHas
 refine hK83 _ _ _ ?_
 refine sr fun K124 hK125 => ?_
 refine q_as (v := bool false) rfl ?_
 refine nl ?_
 refine hK125 _ _ _ ?_
 refine wpc_exit ?_
 cases H
 exact ⟨rfl, _, rfl, hG99, ⟨rfl, rfl, rfl, trivial⟩, hI101, trivial⟩
 clear hC
 rcases o81 with _ | v72
 rintro e r ds wd75 ⟨rfl, G73, rfl, hG74, hHas, hI76, _⟩
 rw [hHas.eq]; clear hHas
 refine hK71 _ _ _ ?_
 refine sQ fun K126 hK127 => ?_
 refine sQ fun K128 hK129 => ?_
 refine sr fun K130 hK131 => ?_
 refine q_mv (v := bool v32) rfl ?_
 refine q_not rfl ?_
 refine nl ?_
 refine hK131 _ _ _ ?_
 by_cases h132 : (!v32) = true
 replace H := iY h132 H
 refine wpc_true (bval_yes h132) ?_
 refine wpc_region ?_
 refine q_mv (v := int .i64 v31) rfl ?_
 refine q_add rfl rfl ?_
 refine q_as (v := int .i64 (w64 (v31 + 1))) rfl ?_
 refine nl ?_
 refine hK129 _ _ _ ?_
 refine wpc_region ?_
 refine q_as (v := bool true) rfl ?_
 refine nl ?_
 refine hK127 _ _ _ ?_
 refine wpc_exit ?_
 exact ih _ _ _ _ H _ _ _ (gT (gT hG50 hG66) hG74) ⟨rfl, rfl, rfl, trivial⟩ hI76 rfl
 replace H := iN h132 H
 refine wpc_false (bval_no h132) ?_
 refine wpc_skip ?_
 refine hK129 _ _ _ ?_
 refine wpc_region ?_
 refine q_as (v := bool true) rfl ?_
 refine nl ?_
 refine hK127 _ _ _ ?_
 refine wpc_exit ?_
 exact ih _ _ _ _ H _ _ _ (gT (gT hG50 hG66) hG74) ⟨rfl, rfl, rfl, trivial⟩ hI76 rfl
 rintro e r ds wd79 ⟨rfl, G77, rfl, hG78, hHas, hI80, _⟩
 rw [hHas.eq]; clear hHas
 exact ih _ _ _ _ H _ _ _ (gT (gT hG50 hG66) hG78) ⟨rfl, rfl, rfl, trivial⟩ hI80 rfl
 replace H := iN h55 H
 refine q_nxn hI52 0 rfl rfl h55 ?_
 refine q_ex (v := bool false) rfl rfl ?_
 refine nl ?_
 refine hK54 _ _ _ ?_
 refine sQ fun K133 hK134 => ?_
 refine wpc_false rfl ?_
 refine wpc_exit ?_
 cases H
 exact ⟨rfl, _, rfl, hG50, ⟨rfl, trivial⟩, hI52, trivial⟩
 clear hC
 rintro e r ds wd46 ⟨rfl, G44, rfl, hG45, hHas, hI47, _⟩
 rw [hHas.eq]; clear hHas
 refine hK20 _ _ _ ?_
 refine sr fun K135 hK136 => ?_
 refine q_mv (v := int .i64 v42) rfl ?_
 refine q_as (v := int .i64 v42) rfl ?_
 refine q_as (v := int .i64 0) rfl ?_
 refine nl ?_
 refine hK136 _ _ _ ?_
 refine wpc_ret ?_
 have hI137 := Hp.sub hI47 (sd se)
 cases H
 exact ⟨.inr rfl, rfl, _, ⟨_, _, rfl, rfl, ⟨_, _, rfl, rfl, rfl⟩⟩, _, (gT hG10 hG45), hI137, rfl⟩
set_option maxHeartbeats 1000000 in
theorem slices_IndexFunc_int_k1_spec {a1 : List Int} {A2 : Option Addr} {c3 : Nat} {r1066 : Int} {G : Gh} {L : List Itm} {w : World} (hI : Hp G (L) w) (hl4 : a1.length ≤ c3) (hD5 : Dat (Kd.int .i64) G A2 a1) (H : slices_IndexFunc_int_k1 a1 = some r1066) :
    Calls Tryz.prog 65 [slice A2 a1.length c3, func (.func 31) [].toArray [].toArray].toArray w fun e w' => ∃ (G' : Gh), G ≤ G' ∧ Hp G' (L) w' ∧ e = .returned (int .i64 r1066) := by
 refine calls_intro (N := 19) Tryz.func65 rfl rfl (Nat.le_of_ble_eq_true rfl) ?_
 unfold slices_IndexFunc_int_k1 at H
 refine sr fun K6 hK7 => ?_
 refine q_as (v := int .i64 0) rfl ?_
 refine nl ?_
 refine hK7 _ _ _ ?_
 refine sQ fun K8 hK9 => ?_
 refine sr fun K10 hK11 => ?_
 refine q_mv (v := slice A2 a1.length c3) rfl ?_
 refine q_len so29 rfl ?_
 refine q_mv (v := int .i64 0) rfl ?_
 refine nl ?_
 refine hK11 _ _ _ ?_
 refine wpc_block ?_
 obtain ⟨o32, hC, H⟩ := bS H
 refine wpc_mono (Q := fun e r ds w => match (generalizing := false) o32 with | (Sum.inl v23) => e = .ret ∧ ∃ (G24 : Gh), ds = [] ∧ G ≤ G24 ∧ Has [(4, int .i64 v23)] r ∧ Hp G24 (L) w ∧ True | (Sum.inr _) => e = .exit 0 ∧ ∃ (G28 : Gh), ds = [] ∧ G ≤ G28 ∧ Has [] r ∧ Hp G28 (L) w ∧ True) ?_ ?_
 clear H
 refine wpc_loop fun I hLp => ?_
 refine slices_IndexFunc_int_k1_l22.partial_correctness a1 (fun v16 o => ∀ (G33 : Gh) (r : Rg) (w : World), G ≤ G33 → Has [(0, slice A2 a1.length c3), (1, func (.func 31) [].toArray [].toArray), (7, int .i64 (a1.length : Int)), (8, int .i64 v16)] r → Hp G33 (L) w → o = o32 → I r [] w) ?_ 0 _ hC _ _ _ gR ⟨rfl, rfl, rfl, rfl, trivial⟩ hI rfl
 intro _ ih v16 o H G33 r wd35 hG34 hHas hI36 ho
 rw [ho] at H; clear ho
 rw [hHas.eq]; clear hHas
 refine hLp _ _ _ ?_
 refine sr fun K37 hK38 => ?_
 refine q_lss rfl rfl ?_
 refine nl ?_
 refine hK38 _ _ _ ?_
 refine sQ fun K39 hK40 => ?_
 by_cases h41 : v16 < (a1.length : Int)
 replace H := iY h41 H
 refine wpc_true (bool_yes h41) ?_
 refine wpc_skip ?_
 refine hK40 _ _ _ ?_
 refine sQ fun K42 hK43 => ?_
 refine wpc_block ?_
 refine sr fun K44 hK45 => ?_
 refine q_mv (v := int .i64 v16) rfl ?_
 refine q_as (v := int .i64 v16) rfl ?_
 refine nl ?_
 refine hK45 _ _ _ ?_
 refine sr fun K46 hK47 => ?_
 refine q_mv (v := func (.func 31) [].toArray [].toArray) rfl ?_
 refine q_mv (v := slice A2 a1.length c3) rfl ?_
 refine q_mv (v := int .i64 v16) rfl ?_
 obtain ⟨⟨h48, h48'⟩, H⟩ := iS H
 obtain ⟨ad49, cs50, hA51, hK52, hn53, hc54⟩ := Dat.get (Dat.mono hG34 hD5) (0 : Int) (v16) h48 h48'
 obtain rfl := hK52
 refine q_ia el29 rfl hA51 rfl h48 h48' ?_
 refine q_lf hI36 (v := int .i64 (a1.getD (Int.toNat v16) (0 : Int))) ag3 rfl (gR.cel _ _ (hc54 0 _ rfl)) ?_
 obtain ⟨y60, hy55, H⟩ := bS H
 refine q_cv (vs := [int .i64 (a1.getD (Int.toNat v16) (0 : Int))]) bo31 rfl rfl (inline_Lines_1_spec (a1 := a1.getD (Int.toNat v16) (0 : Int)) hI36 hy55) ?_
 rintro _ wd58 ⟨G56, hG57, hI59, rfl⟩
 refine ⟨_, rfl, ?_⟩
 refine nl ?_
 refine hK47 _ _ _ ?_
 by_cases h61 : y60 = true
 replace H := iY h61 H
 refine wpc_true (bval_yes h61) ?_
 refine sr fun K62 hK63 => ?_
 refine q_mv (v := int .i64 v16) rfl ?_
 refine q_as (v := int .i64 v16) rfl ?_
 refine nl ?_
 refine hK63 _ _ _ ?_
 refine wpc_ret ?_
 cases H
 exact ⟨rfl, _, rfl, (gT hG34 hG57), ⟨rfl, trivial⟩, hI59, trivial⟩
 replace H := iN h61 H
 refine wpc_false (bval_no h61) ?_
 refine wpc_skip ?_
 refine hK43 _ _ _ ?_
 refine wpc_region ?_
 refine q_add rfl rfl ?_
 refine q_mv (v := int .i64 (w64 (v16 + 1))) rfl ?_
 refine nl ?_
 exact ih _ _ H _ _ _ (gT hG34 hG57) ⟨rfl, rfl, rfl, rfl, trivial⟩ hI59 rfl
 replace H := iN h41 H
 refine wpc_false (bool_no h41) ?_
 refine wpc_exit ?_
 cases H
 exact ⟨rfl, _, rfl, hG34, trivial, hI36, trivial⟩
 clear hC
 rcases o32 with v23 | _
 rintro e r ds wd26 ⟨rfl, G24, rfl, hG25, hHas, hI27, _⟩
 rw [hHas.eq]; clear hHas
 cases H
 exact ⟨.inr rfl, rfl, _, ⟨_, _, rfl, rfl, rfl⟩, _, hG25, hI27, rfl⟩
 rintro e r ds wd30 ⟨rfl, G28, rfl, hG29, hHas, hI31, _⟩
 rw [hHas.eq]; clear hHas
 refine hK9 _ _ _ ?_
 refine sr fun K64 hK65 => ?_
 refine q_as (v := int .i64 (-1)) rfl ?_
 refine nl ?_
 refine hK65 _ _ _ ?_
 refine wpc_ret ?_
 cases H
 exact ⟨.inr rfl, rfl, _, ⟨_, _, rfl, rfl, rfl⟩, _, hG29, hI31, rfl⟩
set_option maxHeartbeats 1000000 in
theorem slices_ContainsFunc_int_k1_spec {a1 : List Int} {A2 : Option Addr} {c3 : Nat} {r1016 : Bool} {G : Gh} {L : List Itm} {w : World} (hI : Hp G (L) w) (hl4 : a1.length ≤ c3) (hD5 : Dat (Kd.int .i64) G A2 a1) (H : slices_ContainsFunc_int_k1 a1 = some r1016) :
    Calls Tryz.prog 32 [slice A2 a1.length c3, func (.func 31) [].toArray [].toArray].toArray w fun e w' => ∃ (G' : Gh), G ≤ G' ∧ Hp G' (L) w' ∧ e = .returned (bool r1016) := by
 refine calls_intro (N := 9) Tryz.func32 rfl rfl (Nat.le_of_ble_eq_true rfl) ?_
 unfold slices_ContainsFunc_int_k1 at H
 refine sr fun K6 hK7 => ?_
 refine q_as (v := bool false) rfl ?_
 refine nl ?_
 refine hK7 _ _ _ ?_
 refine sr fun K8 hK9 => ?_
 refine q_mv (v := slice A2 a1.length c3) rfl ?_
 refine q_mv (v := func (.func 31) [].toArray [].toArray) rfl ?_
 obtain ⟨y15, hy10, H⟩ := bS H
 refine q_cv (vs := [slice A2 a1.length c3, func (.func 31) [].toArray [].toArray]) bo65 rfl rfl (slices_IndexFunc_int_k1_spec (a1 := a1) hI hl4 hD5 hy10) ?_
 rintro _ wd13 ⟨G11, hG12, hI14, rfl⟩
 refine ⟨_, rfl, ?_⟩
 refine q_geq rfl rfl ?_
 refine q_as (v := bool (decide (0 ≤ y15))) rfl ?_
 refine nl ?_
 refine hK9 _ _ _ ?_
 refine wpc_ret ?_
 cases H
 exact ⟨.inr rfl, rfl, _, ⟨_, _, rfl, rfl, rfl⟩, _, hG12, hI14, rfl⟩
set_option maxHeartbeats 1000000 in
theorem inline_setter_lines_k1_spec {a1 : ByteArray} {a2 : List api_Break} {a9 : api_Font} {a20 : Int} {a21 : List Int} {A3 : Option Addr} {c4 : Nat} {g8 : Nat} {A10 : Option Addr} {c11 : Nat} {A14 : Option Addr} {c15 : Nat} {g19 : Nat} {A22 : Option Addr} {c23 : Nat} {r1044 : ByteArray} {r1045 : List api_Break} {r1052 : List Int} {G : Gh} {L : List Itm} {w : World} (hI : Hp G (bx g8 [slice A10 a9.Glyphs.length c11, slice A14 a9.Kerns.length c15] 25 :: bx g19 [int .i64 a20] 3 :: L) w) (hl5 : a2.length ≤ c4) (hD6 : Dat k_api_Break G A3 a2) (hl12 : a9.Glyphs.length ≤ c11) (hD13 : Dat k_api_Glyph G A10 a9.Glyphs) (hl16 : a9.Kerns.length ≤ c15) (hD17 : Dat k_api_Kern G A14 a9.Kerns) (hl24 : a21.length ≤ c23) (hD25 : Dat (Kd.int .i64) G A22 a21) (H : inline_setter_lines_k1 a1 a2 a9 a20 a21 = some (r1044, r1045, r1052)) :
    Calls Tryz.prog 34 [agg [string a1, slice A3 a2.length c4, func (.func 57) [].toArray [pointer (some ⟨g8, 0, none⟩), pointer (some ⟨g19, 0, none⟩)].toArray].toArray, slice A22 a21.length c23].toArray w fun e w' => ∃ (g1043 : Nat) (A1046 : Option Addr) (c1047 : Nat) (g1051 : Nat) (A1053 : Option Addr) (c1054 : Nat) (G' : Gh), G ≤ G' ∧ Hp G' (bx g1043 [string r1044, slice A1046 r1045.length c1047, func (.func 57) [].toArray [pointer (some ⟨g8, 0, none⟩), pointer (some ⟨g19, 0, none⟩)].toArray] 68 :: bx g1051 [slice A1053 r1052.length c1054] 29 :: bx g8 [slice A10 a9.Glyphs.length c11, slice A14 a9.Kerns.length c15] 25 :: bx g19 [int .i64 a20] 3 :: L) w' ∧ r1045.length ≤ c1047 ∧ Dat k_api_Break G' A1046 r1045 ∧ r1052.length ≤ c1054 ∧ Dat (Kd.int .i64) G' A1053 r1052 ∧ e = .returned (func (.func 67) [].toArray [pointer (some ⟨g1043, 0, none⟩), pointer (some ⟨g1051, 0, none⟩)].toArray) := by
 refine calls_intro (N := 6) Tryz.func34 rfl rfl (Nat.le_of_ble_eq_true rfl) ?_
 unfold inline_setter_lines_k1 at H
 refine sr fun K26 hK27 => ?_
 refine q_box hI (v := agg [string a1, slice A3 a2.length c4, func (.func 57) [].toArray [pointer (some ⟨g8, 0, none⟩), pointer (some ⟨g19, 0, none⟩)].toArray].toArray) (vs := [string a1, slice A3 a2.length c4, func (.func 57) [].toArray [pointer (some ⟨g8, 0, none⟩), pointer (some ⟨g19, 0, none⟩)].toArray]) rfl rfl (fun g29 wd30 hI31 => ?_)
 refine q_box hI31 (v := slice A22 a21.length c23) (vs := [slice A22 a21.length c23]) rfl rfl (fun g33 wd34 hI35 => ?_)
 refine q_as (v := Value.nilFunc) rfl ?_
 refine nl ?_
 refine hK27 _ _ _ ?_
 refine sr fun K36 hK37 => ?_
 refine q_fn (vs := []) (us := [pointer (some ⟨g29, 0, none⟩), pointer (some ⟨g33, 0, none⟩)]) rfl rfl ?_
 refine q_as (v := func (.func 67) [].toArray [pointer (some ⟨g29, 0, none⟩), pointer (some ⟨g33, 0, none⟩)].toArray) rfl ?_
 refine nl ?_
 refine hK37 _ _ _ ?_
 refine wpc_ret ?_
 have hI38 := Hp.front hI35 3 rfl
 have hI39 := Hp.front hI38 3 rfl
 have hI40 := Hp.front hI39 2 rfl
 have hI41 := Hp.front hI40 3 rfl
 cases H
 exact ⟨.inr rfl, rfl, _, ⟨_, _, rfl, rfl, rfl⟩, g29, A3, c4, g33, A22, c23, _, gR, hI41, hl5, hD6, hl24, hD25, rfl⟩
set_option maxHeartbeats 1000000 in
theorem inline_setter_lines_1_k1_spec {σ : Type} {St : σ → Gh → List Itm → Prop} {yl : Nat} {φ : σ → api_Line → Option (σ × Bool)} {sy : σ} {a3 : ByteArray} {a4 : List api_Break} {a11 : api_Font} {a22 : Int} {a25 : List Int} {g2 : Nat} {A5 : Option Addr} {c6 : Nat} {g10 : Nat} {A12 : Option Addr} {c13 : Nat} {A16 : Option Addr} {c17 : Nat} {g21 : Nat} {g24 : Nat} {A26 : Option Addr} {c27 : Nat} {ry : σ} {G : Gh} {T : List Itm} {w : World} (hI : Hp G (bx g2 [string a3, slice A5 a4.length c6, func (.func 57) [].toArray [pointer (some ⟨g10, 0, none⟩), pointer (some ⟨g21, 0, none⟩)].toArray] 68 :: bx g10 [slice A12 a11.Glyphs.length c13, slice A16 a11.Kerns.length c17] 25 :: bx g21 [int .i64 a22] 3 :: bx g24 [slice A26 a25.length c27] 29 :: T) w) (hl7 : a4.length ≤ c6) (hD8 : Dat k_api_Break G A5 a4) (hl14 : a11.Glyphs.length ≤ c13) (hD15 : Dat k_api_Glyph G A12 a11.Glyphs) (hl18 : a11.Kerns.length ≤ c17) (hD19 : Dat k_api_Kern G A16 a11.Kerns) (hl28 : a25.length ≤ c27) (hD29 : Dat (Kd.int .i64) G A26 a25) (hy : Yl Tryz.prog φ (encS k_api_Line) St yl) (hS : St sy G T) (hgl : Gl G) (H : inline_setter_lines_1_k1 φ sy a3 a4 a11 a22 a25 = some ry) :
    Calls Tryz.prog 67 [func (.yield yl) #[] #[], pointer (some ⟨g2, 0, none⟩), pointer (some ⟨g24, 0, none⟩)].toArray w fun e w' => ∃ (T' : List Itm) (G' : Gh), G ≤ G' ∧ Hp G' (bx g2 [string a3, slice A5 a4.length c6, func (.func 57) [].toArray [pointer (some ⟨g10, 0, none⟩), pointer (some ⟨g21, 0, none⟩)].toArray] 68 :: bx g10 [slice A12 a11.Glyphs.length c13, slice A16 a11.Kerns.length c17] 25 :: bx g21 [int .i64 a22] 3 :: bx g24 [slice A26 a25.length c27] 29 :: T') w' ∧ St ry G' T' ∧ e = .returned (tuple [].toArray) := by
 refine calls_intro (N := 38) Tryz.func67 rfl rfl (Nat.le_of_ble_eq_true rfl) ?_
 unfold inline_setter_lines_1_k1 at H
 refine sr fun K30 hK31 => ?_
 refine q_as (v := int .i64 0) rfl ?_
 refine q_as (v := int .i64 0) rfl ?_
 refine nl ?_
 refine hK31 _ _ _ ?_
 refine wpc_block ?_
 obtain ⟨v52, hC, H⟩ := bS H
 refine wpc_mono (Q := fun e r ds w => e = .ret ∧ ∃ (T51 : List Itm) (G54 : Gh), ds = [] ∧ G ≤ G54 ∧ Has [] r ∧ Hp G54 (bx g2 [string a3, slice A5 a4.length c6, func (.func 57) [].toArray [pointer (some ⟨g10, 0, none⟩), pointer (some ⟨g21, 0, none⟩)].toArray] 68 :: bx g10 [slice A12 a11.Glyphs.length c13, slice A16 a11.Kerns.length c17] 25 :: bx g21 [int .i64 a22] 3 :: bx g24 [slice A26 a25.length c27] 29 :: T51) w ∧ St v52 G54 T51 ∧ True) ?_ ?_
 clear H
 refine wpc_loop fun I hLp => ?_
 refine inline_setter_lines_1_k1_l50.partial_correctness φ a3 a4 a11 a22 a25 (fun v36 v37 v39 o => ∀ (T38 : List Itm) (G59 : Gh) (r : Rg) (w : World), G ≤ G59 → Has [(0, func (.yield yl) #[] #[]), (1, pointer (some ⟨g2, 0, none⟩)), (2, pointer (some ⟨g24, 0, none⟩)), (4, int .i64 v36), (5, int .i64 v37)] r → Hp G59 (bx g2 [string a3, slice A5 a4.length c6, func (.func 57) [].toArray [pointer (some ⟨g10, 0, none⟩), pointer (some ⟨g21, 0, none⟩)].toArray] 68 :: bx g10 [slice A12 a11.Glyphs.length c13, slice A16 a11.Kerns.length c17] 25 :: bx g21 [int .i64 a22] 3 :: bx g24 [slice A26 a25.length c27] 29 :: T38) w → St v39 G59 T38 → o = v52 → I r [] w) ?_ 0 0 sy _ hC T _ _ _ gR ⟨rfl, rfl, rfl, rfl, rfl, trivial⟩ hI hS rfl
 intro _ ih v36 v37 v39 o H T38 G59 r wd61 hG60 hHas hI62 hS40 ho
 rw [ho] at H; clear ho
 rw [hHas.eq]; clear hHas
 refine hLp _ _ _ ?_
 refine sQ fun K63 hK64 => ?_
 refine wpc_block ?_
 refine sr fun K65 hK66 => ?_
 refine q_fa (a' := ⟨g2, 0, none⟩) fl68_0 rfl (add_plain _ _ _) ?_
 refine q_ld hI62 0 (v := string a3) ag9 rfl rfl rfl ?_
 refine q_mv (v := int .i64 v36) rfl ?_
 obtain ⟨⟨h67, h68⟩, H⟩ := iS H
 refine q_ss (l := v36) (h := (a3.size : Int)) so9 rfl (.inr ⟨_, rfl, rfl⟩) (.inl ⟨rfl, rfl⟩) h67 h68 (Int.le_refl _) ?_
 obtain ⟨⟨y75, y76⟩, hy70, H⟩ := bS H
 refine q_cv (vs := [string (sub a3 v36 (a3.size : Int))]) bo20 rfl rfl (text_Words_spec (a1 := sub a3 v36 (a3.size : Int)) hI62 hy70) ?_
 rintro _ wd73 ⟨G71, hG72, hI74, rfl⟩
 refine ⟨_, rfl, ?_⟩
 refine q_mv (v := tuple [int .i64 y75, int .i64 y76].toArray) rfl ?_
 refine q_ex (v := int .i64 y75) rfl rfl ?_
 refine q_ex (v := int .i64 y76) rfl rfl ?_
 refine q_as (v := int .i64 y75) rfl ?_
 refine q_as (v := int .i64 y76) rfl ?_
 refine nl ?_
 refine hK66 _ _ _ ?_
 refine sQ fun K77 hK78 => ?_
 refine sr fun K79 hK80 => ?_
 refine q_mv (v := int .i64 y75) rfl ?_
 refine q_eql rfl rfl ?_
 refine nl ?_
 refine hK80 _ _ _ ?_
 by_cases h81 : y75 = 0
 replace H := iY h81 H
 refine wpc_true (bool_yes h81) ?_
 refine wpc_ret ?_
 cases H
 exact ⟨rfl, T38, _, rfl, (gT hG60 hG72), trivial, hI74, (hy.mono hG72 hS40), trivial⟩
 replace H := iN h81 H
 refine wpc_false (bool_no h81) ?_
 refine wpc_skip ?_
 refine hK78 _ _ _ ?_
 refine sQ fun K82 hK83 => ?_
 obtain ⟨⟨h102, h102'⟩, H⟩ := iS H
 obtain ⟨ad103, cs104, hA105, hK106, hn107, hc108⟩ := Dat.get (Dat.mono (gT hG60 hG72) hD29) (0 : Int) (min v37 (w64 ((a25.length : Int) - 1))) h102 h102'
 obtain rfl := hK106
 obtain ⟨y113, hy298, H⟩ := bS H
 refine wpc_drawL [0, 0, 0, 0, 0, 16, 48, 120, 252, 508, 1023, 0, 4095] (fun D r w => (D 10 = false ∧ D 11 = false ∧ D 12 = false ∧ ∃ (G' : Gh), G71 ≤ G' ∧ Regs [(0, func (.yield yl) #[] #[]), (1, pointer (some ⟨g2, 0, none⟩)), (2, pointer (some ⟨g24, 0, none⟩)), (4, int .i64 v36), (5, int .i64 v37)] [] [(0, 21, agg [string a3, slice A5 a4.length c6, func (.func 57) [].toArray [pointer (some ⟨g10, 0, none⟩), pointer (some ⟨g21, 0, none⟩)].toArray].toArray), (1, 22, int .i64 v36), (2, 23, slice A26 a25.length c27), (3, 24, int .i64 v37), (4, 25, slice A26 a25.length c27), (5, 26, int .i64 (a25.length : Int)), (6, 27, int .i64 (w64 ((a25.length : Int) - 1))), (7, 28, int .i64 (min v37 (w64 ((a25.length : Int) - 1)))), (8, 29, pointer (some (ad103.add (Int.toNat (min v37 (w64 ((a25.length : Int) - 1))) * 1)))), (9, 30, int .i64 (a25.getD (Int.toNat (min v37 (w64 ((a25.length : Int) - 1)))) (0 : Int)))] D r ∧ Hp G' (bx g2 [string a3, slice A5 a4.length c6, func (.func 57) [].toArray [pointer (some ⟨g10, 0, none⟩), pointer (some ⟨g21, 0, none⟩)].toArray] 68 :: bx g10 [slice A12 a11.Glyphs.length c13, slice A16 a11.Kerns.length c17] 25 :: bx g21 [int .i64 a22] 3 :: bx g24 [slice A26 a25.length c27] 29 :: T38) w) ∨ (D 10 = true ∧ D 11 = false ∧ D 12 = false ∧ ∃ (G' : Gh), G71 ≤ G' ∧ Regs [(0, func (.yield yl) #[] #[]), (1, pointer (some ⟨g2, 0, none⟩)), (2, pointer (some ⟨g24, 0, none⟩)), (4, int .i64 v36), (5, int .i64 v37)] [] [(0, 21, agg [string a3, slice A5 a4.length c6, func (.func 57) [].toArray [pointer (some ⟨g10, 0, none⟩), pointer (some ⟨g21, 0, none⟩)].toArray].toArray), (1, 22, int .i64 v36), (2, 23, slice A26 a25.length c27), (3, 24, int .i64 v37), (4, 25, slice A26 a25.length c27), (5, 26, int .i64 (a25.length : Int)), (6, 27, int .i64 (w64 ((a25.length : Int) - 1))), (7, 28, int .i64 (min v37 (w64 ((a25.length : Int) - 1)))), (8, 29, pointer (some (ad103.add (Int.toNat (min v37 (w64 ((a25.length : Int) - 1))) * 1)))), (9, 30, int .i64 (a25.getD (Int.toNat (min v37 (w64 ((a25.length : Int) - 1)))) (0 : Int))), (10, 31, agg [int .i64 y113.From, int .i64 y113.Until, int .i64 y113.Width, bool y113.Hyphen].toArray)] D r ∧ Hp G' (bx g2 [string a3, slice A5 a4.length c6, func (.func 57) [].toArray [pointer (some ⟨g10, 0, none⟩), pointer (some ⟨g21, 0, none⟩)].toArray] 68 :: bx g10 [slice A12 a11.Glyphs.length c13, slice A16 a11.Kerns.length c17] 25 :: bx g21 [int .i64 a22] 3 :: bx g24 [slice A26 a25.length c27] 29 :: T38) w) ∨ (D 10 = false ∧ D 11 = true ∧ D 12 = false ∧ ∃ (g314 : Nat) (G' : Gh), G71 ≤ G' ∧ Regs [(0, func (.yield yl) #[] #[]), (1, pointer (some ⟨g2, 0, none⟩)), (2, pointer (some ⟨g24, 0, none⟩)), (4, int .i64 v36), (5, int .i64 v37)] [] [(0, 21, agg [string a3, slice A5 a4.length c6, func (.func 57) [].toArray [pointer (some ⟨g10, 0, none⟩), pointer (some ⟨g21, 0, none⟩)].toArray].toArray), (1, 22, int .i64 v36), (2, 23, slice A26 a25.length c27), (3, 24, int .i64 v37), (4, 25, slice A26 a25.length c27), (5, 26, int .i64 (a25.length : Int)), (6, 27, int .i64 (w64 ((a25.length : Int) - 1))), (7, 28, int .i64 (min v37 (w64 ((a25.length : Int) - 1)))), (8, 29, pointer (some (ad103.add (Int.toNat (min v37 (w64 ((a25.length : Int) - 1))) * 1)))), (9, 30, int .i64 (a25.getD (Int.toNat (min v37 (w64 ((a25.length : Int) - 1)))) (0 : Int))), (11, 8, pointer (some ⟨g314, 0, none⟩))] D r ∧ Hp G' (bx g314 [int .i64 0, int .i64 0, int .i64 0, bool false] 31 :: bx g2 [string a3, slice A5 a4.length c6, func (.func 57) [].toArray [pointer (some ⟨g10, 0, none⟩), pointer (some ⟨g21, 0, none⟩)].toArray] 68 :: bx g10 [slice A12 a11.Glyphs.length c13, slice A16 a11.Kerns.length c17] 25 :: bx g21 [int .i64 a22] 3 :: bx g24 [slice A26 a25.length c27] 29 :: T38) w) ∨ (D 10 = true ∧ D 11 = true ∧ D 12 = false ∧ ∃ (g314 : Nat) (G' : Gh), G71 ≤ G' ∧ Regs [(0, func (.yield yl) #[] #[]), (1, pointer (some ⟨g2, 0, none⟩)), (2, pointer (some ⟨g24, 0, none⟩)), (4, int .i64 v36), (5, int .i64 v37)] [] [(0, 21, agg [string a3, slice A5 a4.length c6, func (.func 57) [].toArray [pointer (some ⟨g10, 0, none⟩), pointer (some ⟨g21, 0, none⟩)].toArray].toArray), (1, 22, int .i64 v36), (2, 23, slice A26 a25.length c27), (3, 24, int .i64 v37), (4, 25, slice A26 a25.length c27), (5, 26, int .i64 (a25.length : Int)), (6, 27, int .i64 (w64 ((a25.length : Int) - 1))), (7, 28, int .i64 (min v37 (w64 ((a25.length : Int) - 1)))), (8, 29, pointer (some (ad103.add (Int.toNat (min v37 (w64 ((a25.length : Int) - 1))) * 1)))), (9, 30, int .i64 (a25.getD (Int.toNat (min v37 (w64 ((a25.length : Int) - 1)))) (0 : Int))), (10, 31, agg [int .i64 y113.From, int .i64 y113.Until, int .i64 y113.Width, bool y113.Hyphen].toArray), (11, 8, pointer (some ⟨g314, 0, none⟩))] D r ∧ Hp G' (bx g314 [int .i64 0, int .i64 0, int .i64 0, bool false] 31 :: bx g2 [string a3, slice A5 a4.length c6, func (.func 57) [].toArray [pointer (some ⟨g10, 0, none⟩), pointer (some ⟨g21, 0, none⟩)].toArray] 68 :: bx g10 [slice A12 a11.Glyphs.length c13, slice A16 a11.Kerns.length c17] 25 :: bx g21 [int .i64 a22] 3 :: bx g24 [slice A26 a25.length c27] 29 :: T38) w) ∨ (D 10 = true ∧ D 11 = true ∧ D 12 = true ∧ ∃ (g314 : Nat) (G' : Gh), G71 ≤ G' ∧ Regs [(0, func (.yield yl) #[] #[]), (1, pointer (some ⟨g2, 0, none⟩)), (2, pointer (some ⟨g24, 0, none⟩)), (4, int .i64 v36), (5, int .i64 v37)] [] [(0, 21, agg [string a3, slice A5 a4.length c6, func (.func 57) [].toArray [pointer (some ⟨g10, 0, none⟩), pointer (some ⟨g21, 0, none⟩)].toArray].toArray), (1, 22, int .i64 v36), (2, 23, slice A26 a25.length c27), (3, 24, int .i64 v37), (4, 25, slice A26 a25.length c27), (5, 26, int .i64 (a25.length : Int)), (6, 27, int .i64 (w64 ((a25.length : Int) - 1))), (7, 28, int .i64 (min v37 (w64 ((a25.length : Int) - 1)))), (8, 29, pointer (some (ad103.add (Int.toNat (min v37 (w64 ((a25.length : Int) - 1))) * 1)))), (9, 30, int .i64 (a25.getD (Int.toNat (min v37 (w64 ((a25.length : Int) - 1)))) (0 : Int))), (10, 31, agg [int .i64 y113.From, int .i64 y113.Until, int .i64 y113.Width, bool y113.Hyphen].toArray), (11, 8, pointer (some ⟨g314, 0, none⟩))] D r ∧ Hp G' (bx g314 [int .i64 y113.From, int .i64 y113.Until, int .i64 y113.Width, bool y113.Hyphen] 31 :: bx g2 [string a3, slice A5 a4.length c6, func (.func 57) [].toArray [pointer (some ⟨g10, 0, none⟩), pointer (some ⟨g21, 0, none⟩)].toArray] 68 :: bx g10 [slice A12 a11.Glyphs.length c13, slice A16 a11.Kerns.length c17] 25 :: bx g21 [int .i64 a22] 3 :: bx g24 [slice A26 a25.length c27] 29 :: T38) w)) mixo rfl rfl ?_ ?_ ?_
 exact (.inl ⟨rfl, rfl, rfl, _, Gh.le_refl _, Regs.start ⟨rfl, rfl, rfl, rfl, rfl, trivial⟩ trivial, hI74.drew⟩)
 refine ⟨?_, ?_, ?_, ?_, ?_, ?_, ?_, ?_, ?_, ?_, ?_, ?_, ?_, trivial⟩
 rintro D r wd323 (⟨hd10, hd11, hd12, G319, hG320, hReg322, hI321⟩ | ⟨hd10, hd11, hd12, G319, hG320, hReg322, hI321⟩ | ⟨hd10, hd11, hd12, g314, G319, hG320, hReg322, hI321⟩ | ⟨hd10, hd11, hd12, g314, G319, hG320, hReg322, hI321⟩ | ⟨hd10, hd11, hd12, g314, G319, hG320, hReg322, hI321⟩) hDi hpre hpost
 obtain ⟨r0, rfl⟩ := Has.ex (cC (hReg322.ins.get 1 rfl) cN)
 refine q_ldA hI321 0 (cs := [string a3, slice A5 a4.length c6, func (.func 57) [].toArray [pointer (some ⟨g10, 0, none⟩), pointer (some ⟨g21, 0, none⟩)].toArray]) ag68 rfl rfl rfl rfl ?_
 exact nl ⟨rfl, (.inl ⟨hd10, hd11, hd12, _, hG320, (Regs.step hReg322 hDi rfl rfl rfl rfl), hI321⟩)⟩
 cases (hpost 10 rfl).symm.trans hd10
 obtain ⟨r0, rfl⟩ := Has.ex (cC (hReg322.ins.get 1 rfl) cN)
 refine q_ldA hI321 1 (cs := [string a3, slice A5 a4.length c6, func (.func 57) [].toArray [pointer (some ⟨g10, 0, none⟩), pointer (some ⟨g21, 0, none⟩)].toArray]) ag68 rfl rfl rfl rfl ?_
 exact nl ⟨rfl, (.inr (.inr (.inl ⟨hd10, hd11, hd12, g314, _, hG320, (Regs.step hReg322 hDi rfl rfl rfl rfl), hI321⟩)))⟩
 cases (hpost 10 rfl).symm.trans hd10
 cases (hpost 10 rfl).symm.trans hd10
 rintro D r wd323 (⟨hd10, hd11, hd12, G319, hG320, hReg322, hI321⟩ | ⟨hd10, hd11, hd12, G319, hG320, hReg322, hI321⟩ | ⟨hd10, hd11, hd12, g314, G319, hG320, hReg322, hI321⟩ | ⟨hd10, hd11, hd12, g314, G319, hG320, hReg322, hI321⟩ | ⟨hd10, hd11, hd12, g314, G319, hG320, hReg322, hI321⟩) hDi hpre hpost
 obtain ⟨r0, rfl⟩ := Has.ex (cC (hReg322.ins.get 3 rfl) cN)
 refine q_mv (v := int .i64 v36) rfl ?_
 exact nl ⟨rfl, (.inl ⟨hd10, hd11, hd12, _, hG320, (Regs.step hReg322 hDi rfl rfl rfl rfl), hI321⟩)⟩
 cases (hpost 10 rfl).symm.trans hd10
 obtain ⟨r0, rfl⟩ := Has.ex (cC (hReg322.ins.get 3 rfl) cN)
 refine q_mv (v := int .i64 v36) rfl ?_
 exact nl ⟨rfl, (.inr (.inr (.inl ⟨hd10, hd11, hd12, g314, _, hG320, (Regs.step hReg322 hDi rfl rfl rfl rfl), hI321⟩)))⟩
 cases (hpost 10 rfl).symm.trans hd10
 cases (hpost 10 rfl).symm.trans hd10
 rintro D r wd323 (⟨hd10, hd11, hd12, G319, hG320, hReg322, hI321⟩ | ⟨hd10, hd11, hd12, G319, hG320, hReg322, hI321⟩ | ⟨hd10, hd11, hd12, g314, G319, hG320, hReg322, hI321⟩ | ⟨hd10, hd11, hd12, g314, G319, hG320, hReg322, hI321⟩ | ⟨hd10, hd11, hd12, g314, G319, hG320, hReg322, hI321⟩) hDi hpre hpost
 obtain ⟨r0, rfl⟩ := Has.ex (cC (hReg322.ins.get 2 rfl) cN)
 refine q_ld hI321 3 (v := slice A26 a25.length c27) ag29 rfl rfl rfl ?_
 exact nl ⟨rfl, (.inl ⟨hd10, hd11, hd12, _, hG320, (Regs.step hReg322 hDi rfl rfl rfl rfl), hI321⟩)⟩
 cases (hpost 10 rfl).symm.trans hd10
 obtain ⟨r0, rfl⟩ := Has.ex (cC (hReg322.ins.get 2 rfl) cN)
 refine q_ld hI321 4 (v := slice A26 a25.length c27) ag29 rfl rfl rfl ?_
 exact nl ⟨rfl, (.inr (.inr (.inl ⟨hd10, hd11, hd12, g314, _, hG320, (Regs.step hReg322 hDi rfl rfl rfl rfl), hI321⟩)))⟩
 cases (hpost 10 rfl).symm.trans hd10
 cases (hpost 10 rfl).symm.trans hd10
 rintro D r wd323 (⟨hd10, hd11, hd12, G319, hG320, hReg322, hI321⟩ | ⟨hd10, hd11, hd12, G319, hG320, hReg322, hI321⟩ | ⟨hd10, hd11, hd12, g314, G319, hG320, hReg322, hI321⟩ | ⟨hd10, hd11, hd12, g314, G319, hG320, hReg322, hI321⟩ | ⟨hd10, hd11, hd12, g314, G319, hG320, hReg322, hI321⟩) hDi hpre hpost
 obtain ⟨r0, rfl⟩ := Has.ex (cC (hReg322.ins.get 4 rfl) cN)
 refine q_mv (v := int .i64 v37) rfl ?_
 exact nl ⟨rfl, (.inl ⟨hd10, hd11, hd12, _, hG320, (Regs.step hReg322 hDi rfl rfl rfl rfl), hI321⟩)⟩
 cases (hpost 10 rfl).symm.trans hd10
 obtain ⟨r0, rfl⟩ := Has.ex (cC (hReg322.ins.get 4 rfl) cN)
 refine q_mv (v := int .i64 v37) rfl ?_
 exact nl ⟨rfl, (.inr (.inr (.inl ⟨hd10, hd11, hd12, g314, _, hG320, (Regs.step hReg322 hDi rfl rfl rfl rfl), hI321⟩)))⟩
 cases (hpost 10 rfl).symm.trans hd10
 cases (hpost 10 rfl).symm.trans hd10
 rintro D r wd323 (⟨hd10, hd11, hd12, G319, hG320, hReg322, hI321⟩ | ⟨hd10, hd11, hd12, G319, hG320, hReg322, hI321⟩ | ⟨hd10, hd11, hd12, g314, G319, hG320, hReg322, hI321⟩ | ⟨hd10, hd11, hd12, g314, G319, hG320, hReg322, hI321⟩ | ⟨hd10, hd11, hd12, g314, G319, hG320, hReg322, hI321⟩) hDi hpre hpost
 obtain ⟨r0, rfl⟩ := Has.ex (cC (hReg322.ins.get 2 rfl) cN)
 refine q_ld hI321 3 (v := slice A26 a25.length c27) ag29 rfl rfl rfl ?_
 exact nl ⟨rfl, (.inl ⟨hd10, hd11, hd12, _, hG320, (Regs.step hReg322 hDi rfl rfl rfl rfl), hI321⟩)⟩
 cases (hpost 10 rfl).symm.trans hd10
 obtain ⟨r0, rfl⟩ := Has.ex (cC (hReg322.ins.get 2 rfl) cN)
 refine q_ld hI321 4 (v := slice A26 a25.length c27) ag29 rfl rfl rfl ?_
 exact nl ⟨rfl, (.inr (.inr (.inl ⟨hd10, hd11, hd12, g314, _, hG320, (Regs.step hReg322 hDi rfl rfl rfl rfl), hI321⟩)))⟩
 cases (hpost 10 rfl).symm.trans hd10
 cases (hpost 10 rfl).symm.trans hd10
 rintro D r wd323 (⟨hd10, hd11, hd12, G319, hG320, hReg322, hI321⟩ | ⟨hd10, hd11, hd12, G319, hG320, hReg322, hI321⟩ | ⟨hd10, hd11, hd12, g314, G319, hG320, hReg322, hI321⟩ | ⟨hd10, hd11, hd12, g314, G319, hG320, hReg322, hI321⟩ | ⟨hd10, hd11, hd12, g314, G319, hG320, hReg322, hI321⟩) hDi hpre hpost
 obtain ⟨r0, rfl⟩ := Has.ex (cC (hReg322.get 4 rfl (hpre 4 rfl)) cN)
 refine q_len so29 rfl ?_
 exact nl ⟨rfl, (.inl ⟨hd10, hd11, hd12, _, hG320, (Regs.step hReg322 hDi rfl rfl rfl rfl), hI321⟩)⟩
 cases (hpost 10 rfl).symm.trans hd10
 obtain ⟨r0, rfl⟩ := Has.ex (cC (hReg322.get 4 rfl (hpre 4 rfl)) cN)
 refine q_len so29 rfl ?_
 exact nl ⟨rfl, (.inr (.inr (.inl ⟨hd10, hd11, hd12, g314, _, hG320, (Regs.step hReg322 hDi rfl rfl rfl rfl), hI321⟩)))⟩
 cases (hpost 10 rfl).symm.trans hd10
 cases (hpost 10 rfl).symm.trans hd10
 rintro D r wd323 (⟨hd10, hd11, hd12, G319, hG320, hReg322, hI321⟩ | ⟨hd10, hd11, hd12, G319, hG320, hReg322, hI321⟩ | ⟨hd10, hd11, hd12, g314, G319, hG320, hReg322, hI321⟩ | ⟨hd10, hd11, hd12, g314, G319, hG320, hReg322, hI321⟩ | ⟨hd10, hd11, hd12, g314, G319, hG320, hReg322, hI321⟩) hDi hpre hpost
 obtain ⟨r0, rfl⟩ := Has.ex (cC (hReg322.get 5 rfl (hpre 5 rfl)) cN)
 refine q_sub rfl rfl ?_
 exact nl ⟨rfl, (.inl ⟨hd10, hd11, hd12, _, hG320, (Regs.step hReg322 hDi rfl rfl rfl rfl), hI321⟩)⟩
 cases (hpost 10 rfl).symm.trans hd10
 obtain ⟨r0, rfl⟩ := Has.ex (cC (hReg322.get 5 rfl (hpre 5 rfl)) cN)
 refine q_sub rfl rfl ?_
 exact nl ⟨rfl, (.inr (.inr (.inl ⟨hd10, hd11, hd12, g314, _, hG320, (Regs.step hReg322 hDi rfl rfl rfl rfl), hI321⟩)))⟩
 cases (hpost 10 rfl).symm.trans hd10
 cases (hpost 10 rfl).symm.trans hd10
 rintro D r wd323 (⟨hd10, hd11, hd12, G319, hG320, hReg322, hI321⟩ | ⟨hd10, hd11, hd12, G319, hG320, hReg322, hI321⟩ | ⟨hd10, hd11, hd12, g314, G319, hG320, hReg322, hI321⟩ | ⟨hd10, hd11, hd12, g314, G319, hG320, hReg322, hI321⟩ | ⟨hd10, hd11, hd12, g314, G319, hG320, hReg322, hI321⟩) hDi hpre hpost
 obtain ⟨r0, rfl⟩ := Has.ex (cC (hReg322.get 3 rfl (hpre 3 rfl)) (cC (hReg322.get 6 rfl (hpre 6 rfl)) cN))
 refine q_min rfl rfl ?_
 exact nl ⟨rfl, (.inl ⟨hd10, hd11, hd12, _, hG320, (Regs.step hReg322 hDi rfl rfl rfl rfl), hI321⟩)⟩
 cases (hpost 10 rfl).symm.trans hd10
 obtain ⟨r0, rfl⟩ := Has.ex (cC (hReg322.get 3 rfl (hpre 3 rfl)) (cC (hReg322.get 6 rfl (hpre 6 rfl)) cN))
 refine q_min rfl rfl ?_
 exact nl ⟨rfl, (.inr (.inr (.inl ⟨hd10, hd11, hd12, g314, _, hG320, (Regs.step hReg322 hDi rfl rfl rfl rfl), hI321⟩)))⟩
 cases (hpost 10 rfl).symm.trans hd10
 cases (hpost 10 rfl).symm.trans hd10
 rintro D r wd323 (⟨hd10, hd11, hd12, G319, hG320, hReg322, hI321⟩ | ⟨hd10, hd11, hd12, G319, hG320, hReg322, hI321⟩ | ⟨hd10, hd11, hd12, g314, G319, hG320, hReg322, hI321⟩ | ⟨hd10, hd11, hd12, g314, G319, hG320, hReg322, hI321⟩ | ⟨hd10, hd11, hd12, g314, G319, hG320, hReg322, hI321⟩) hDi hpre hpost
 obtain ⟨r0, rfl⟩ := Has.ex (cC (hReg322.get 2 rfl (hpre 2 rfl)) (cC (hReg322.get 7 rfl (hpre 7 rfl)) cN))
 refine q_ia el29 rfl hA105 rfl h102 h102' ?_
 exact nl ⟨rfl, (.inl ⟨hd10, hd11, hd12, _, hG320, (Regs.step hReg322 hDi rfl rfl rfl rfl), hI321⟩)⟩
 cases (hpost 10 rfl).symm.trans hd10
 obtain ⟨r0, rfl⟩ := Has.ex (cC (hReg322.get 2 rfl (hpre 2 rfl)) (cC (hReg322.get 7 rfl (hpre 7 rfl)) cN))
 refine q_ia el29 rfl hA105 rfl h102 h102' ?_
 exact nl ⟨rfl, (.inr (.inr (.inl ⟨hd10, hd11, hd12, g314, _, hG320, (Regs.step hReg322 hDi rfl rfl rfl rfl), hI321⟩)))⟩
 cases (hpost 10 rfl).symm.trans hd10
 cases (hpost 10 rfl).symm.trans hd10
 rintro D r wd323 (⟨hd10, hd11, hd12, G319, hG320, hReg322, hI321⟩ | ⟨hd10, hd11, hd12, G319, hG320, hReg322, hI321⟩ | ⟨hd10, hd11, hd12, g314, G319, hG320, hReg322, hI321⟩ | ⟨hd10, hd11, hd12, g314, G319, hG320, hReg322, hI321⟩ | ⟨hd10, hd11, hd12, g314, G319, hG320, hReg322, hI321⟩) hDi hpre hpost
 obtain ⟨r0, rfl⟩ := Has.ex (cC (hReg322.get 8 rfl (hpre 8 rfl)) cN)
 refine q_lf hI321 (v := int .i64 (a25.getD (Int.toNat (min v37 (w64 ((a25.length : Int) - 1)))) (0 : Int))) ag3 rfl (hG320.cel _ _ (hc108 0 _ rfl)) ?_
 exact nl ⟨rfl, (.inl ⟨hd10, hd11, hd12, _, hG320, (Regs.step hReg322 hDi rfl rfl rfl rfl), hI321⟩)⟩
 cases (hpost 10 rfl).symm.trans hd10
 obtain ⟨r0, rfl⟩ := Has.ex (cC (hReg322.get 8 rfl (hpre 8 rfl)) cN)
 refine q_lf hI321 (v := int .i64 (a25.getD (Int.toNat (min v37 (w64 ((a25.length : Int) - 1)))) (0 : Int))) ag3 rfl (hG320.cel _ _ (hc108 0 _ rfl)) ?_
 exact nl ⟨rfl, (.inr (.inr (.inl ⟨hd10, hd11, hd12, g314, _, hG320, (Regs.step hReg322 hDi rfl rfl rfl rfl), hI321⟩)))⟩
 cases (hpost 10 rfl).symm.trans hd10
 cases (hpost 10 rfl).symm.trans hd10
 rintro D r wd323 (⟨hd10, hd11, hd12, G319, hG320, hReg322, hI321⟩ | ⟨hd10, hd11, hd12, G319, hG320, hReg322, hI321⟩ | ⟨hd10, hd11, hd12, g314, G319, hG320, hReg322, hI321⟩ | ⟨hd10, hd11, hd12, g314, G319, hG320, hReg322, hI321⟩ | ⟨hd10, hd11, hd12, g314, G319, hG320, hReg322, hI321⟩) hDi hpre hpost
 obtain ⟨r0, rfl⟩ := Has.ex (cC (hReg322.get 0 rfl (hpre 0 rfl)) (cC (hReg322.get 1 rfl (hpre 1 rfl)) (cC (hReg322.get 9 rfl (hpre 9 rfl)) cN)))
 have hI309 := Hp.front hI321 3 rfl
 have hI310 := Hp.front hI309 1 rfl
 have hI311 := Hp.front hI310 3 rfl
 have hI312 := Hp.front hI311 3 rfl
 refine q_cv (vs := [agg [string a3, slice A5 a4.length c6, func (.func 57) [].toArray [pointer (some ⟨g10, 0, none⟩), pointer (some ⟨g21, 0, none⟩)].toArray].toArray, int .i64 v36, int .i64 (a25.getD (Int.toNat (min v37 (w64 ((a25.length : Int) - 1)))) (0 : Int))]) bo27 rfl rfl (inline_setter_next_k1_spec (a1 := a3) (a2 := a4) (a9 := a11) (a20 := a22) (a21 := v36) (a22 := a25.getD (Int.toNat (min v37 (w64 ((a25.length : Int) - 1)))) (0 : Int)) hI312 hl7 (Dat.mono (gT (gT hG60 hG72) hG320) hD8) hl14 (Dat.mono (gT (gT hG60 hG72) hG320) hD15) hl18 (Dat.mono (gT (gT hG60 hG72) hG320) hD19) (hgl.mono (gT (gT hG60 hG72) hG320)) hy298) ?_
 rintro _ wd111 ⟨G109, hG110, hI112, rfl⟩
 refine ⟨_, rfl, ?_⟩
 have hI324 := Hp.front hI112 3 rfl
 have hI325 := Hp.front hI324 2 rfl
 have hI326 := Hp.front hI325 2 rfl
 have hI327 := Hp.front hI326 3 rfl
 exact nl ⟨rfl, (.inr (.inl ⟨rfl, hd11, hd12, _, (gT hG320 hG110), (Regs.step (Regs.re (vals' := [(0, 21, agg [string a3, slice A5 a4.length c6, func (.func 57) [].toArray [pointer (some ⟨g10, 0, none⟩), pointer (some ⟨g21, 0, none⟩)].toArray].toArray), (1, 22, int .i64 v36), (2, 23, slice A26 a25.length c27), (3, 24, int .i64 v37), (4, 25, slice A26 a25.length c27), (5, 26, int .i64 (a25.length : Int)), (6, 27, int .i64 (w64 ((a25.length : Int) - 1))), (7, 28, int .i64 (min v37 (w64 ((a25.length : Int) - 1)))), (8, 29, pointer (some (ad103.add (Int.toNat (min v37 (w64 ((a25.length : Int) - 1))) * 1)))), (9, 30, int .i64 (a25.getD (Int.toNat (min v37 (w64 ((a25.length : Int) - 1)))) (0 : Int))), (10, 31, agg [int .i64 y113.From, int .i64 y113.Until, int .i64 y113.Width, bool y113.Hyphen].toArray)]) hReg322 (List.forall_mem_cons.2 ⟨.inl (List.mem_of_getElem? (i := 0) rfl), (List.forall_mem_cons.2 ⟨.inl (List.mem_of_getElem? (i := 1) rfl), (List.forall_mem_cons.2 ⟨.inl (List.mem_of_getElem? (i := 2) rfl), (List.forall_mem_cons.2 ⟨.inl (List.mem_of_getElem? (i := 3) rfl), (List.forall_mem_cons.2 ⟨.inl (List.mem_of_getElem? (i := 4) rfl), (List.forall_mem_cons.2 ⟨.inl (List.mem_of_getElem? (i := 5) rfl), (List.forall_mem_cons.2 ⟨.inl (List.mem_of_getElem? (i := 6) rfl), (List.forall_mem_cons.2 ⟨.inl (List.mem_of_getElem? (i := 7) rfl), (List.forall_mem_cons.2 ⟨.inl (List.mem_of_getElem? (i := 8) rfl), (List.forall_mem_cons.2 ⟨.inl (List.mem_of_getElem? (i := 9) rfl), (List.forall_mem_cons.2 ⟨.inr hDi, (fun _ h => nomatch h)⟩)⟩)⟩)⟩)⟩)⟩)⟩)⟩)⟩)⟩)⟩)) hDi rfl rfl rfl rfl), hI327⟩))⟩
 cases hDi.symm.trans hd10
 obtain ⟨r0, rfl⟩ := Has.ex (cC (hReg322.get 0 rfl (hpre 0 rfl)) (cC (hReg322.get 1 rfl (hpre 1 rfl)) (cC (hReg322.get 9 rfl (hpre 9 rfl)) cN)))
 have hI309 := Hp.front hI321 4 rfl
 have hI310 := Hp.front hI309 2 rfl
 have hI311 := Hp.front hI310 2 rfl
 have hI312 := Hp.front hI311 4 rfl
 have hI313 := Hp.front hI312 4 rfl
 refine q_cv (vs := [agg [string a3, slice A5 a4.length c6, func (.func 57) [].toArray [pointer (some ⟨g10, 0, none⟩), pointer (some ⟨g21, 0, none⟩)].toArray].toArray, int .i64 v36, int .i64 (a25.getD (Int.toNat (min v37 (w64 ((a25.length : Int) - 1)))) (0 : Int))]) bo27 rfl rfl (inline_setter_next_k1_spec (a1 := a3) (a2 := a4) (a9 := a11) (a20 := a22) (a21 := v36) (a22 := a25.getD (Int.toNat (min v37 (w64 ((a25.length : Int) - 1)))) (0 : Int)) hI313 hl7 (Dat.mono (gT (gT hG60 hG72) hG320) hD8) hl14 (Dat.mono (gT (gT hG60 hG72) hG320) hD15) hl18 (Dat.mono (gT (gT hG60 hG72) hG320) hD19) (hgl.mono (gT (gT hG60 hG72) hG320)) hy298) ?_
 rintro _ wd111 ⟨G109, hG110, hI112, rfl⟩
 refine ⟨_, rfl, ?_⟩
 have hI328 := Hp.front hI112 4 rfl
 have hI329 := Hp.front hI328 2 rfl
 have hI330 := Hp.front hI329 2 rfl
 have hI331 := Hp.front hI330 4 rfl
 have hI332 := Hp.front hI331 4 rfl
 exact nl ⟨rfl, (.inr (.inr (.inr (.inl ⟨rfl, hd11, hd12, g314, _, (gT hG320 hG110), (Regs.step (Regs.re (vals' := [(0, 21, agg [string a3, slice A5 a4.length c6, func (.func 57) [].toArray [pointer (some ⟨g10, 0, none⟩), pointer (some ⟨g21, 0, none⟩)].toArray].toArray), (1, 22, int .i64 v36), (2, 23, slice A26 a25.length c27), (3, 24, int .i64 v37), (4, 25, slice A26 a25.length c27), (5, 26, int .i64 (a25.length : Int)), (6, 27, int .i64 (w64 ((a25.length : Int) - 1))), (7, 28, int .i64 (min v37 (w64 ((a25.length : Int) - 1)))), (8, 29, pointer (some (ad103.add (Int.toNat (min v37 (w64 ((a25.length : Int) - 1))) * 1)))), (9, 30, int .i64 (a25.getD (Int.toNat (min v37 (w64 ((a25.length : Int) - 1)))) (0 : Int))), (10, 31, agg [int .i64 y113.From, int .i64 y113.Until, int .i64 y113.Width, bool y113.Hyphen].toArray), (11, 8, pointer (some ⟨g314, 0, none⟩))]) hReg322 (List.forall_mem_cons.2 ⟨.inl (List.mem_of_getElem? (i := 0) rfl), (List.forall_mem_cons.2 ⟨.inl (List.mem_of_getElem? (i := 1) rfl), (List.forall_mem_cons.2 ⟨.inl (List.mem_of_getElem? (i := 2) rfl), (List.forall_mem_cons.2 ⟨.inl (List.mem_of_getElem? (i := 3) rfl), (List.forall_mem_cons.2 ⟨.inl (List.mem_of_getElem? (i := 4) rfl), (List.forall_mem_cons.2 ⟨.inl (List.mem_of_getElem? (i := 5) rfl), (List.forall_mem_cons.2 ⟨.inl (List.mem_of_getElem? (i := 6) rfl), (List.forall_mem_cons.2 ⟨.inl (List.mem_of_getElem? (i := 7) rfl), (List.forall_mem_cons.2 ⟨.inl (List.mem_of_getElem? (i := 8) rfl), (List.forall_mem_cons.2 ⟨.inl (List.mem_of_getElem? (i := 9) rfl), (List.forall_mem_cons.2 ⟨.inr hDi, (List.forall_mem_cons.2 ⟨.inl (List.mem_of_getElem? (i := 10) rfl), (fun _ h => nomatch h)⟩)⟩)⟩)⟩)⟩)⟩)⟩)⟩)⟩)⟩)⟩)⟩)) hDi rfl rfl rfl rfl), hI332⟩))))⟩
 cases hDi.symm.trans hd10
 cases hDi.symm.trans hd10
 rintro D r wd323 (⟨hd10, hd11, hd12, G319, hG320, hReg322, hI321⟩ | ⟨hd10, hd11, hd12, G319, hG320, hReg322, hI321⟩ | ⟨hd10, hd11, hd12, g314, G319, hG320, hReg322, hI321⟩ | ⟨hd10, hd11, hd12, g314, G319, hG320, hReg322, hI321⟩ | ⟨hd10, hd11, hd12, g314, G319, hG320, hReg322, hI321⟩) hDi hpre hpost
 obtain ⟨r0, rfl⟩ := Has.ex (r := r) cN
 refine q_alloc hI321 ze31 (fun g314 wd315 hI316 => ?_)
 exact nl ⟨rfl, (.inr (.inr (.inl ⟨hd10, rfl, hd12, g314, _, hG320, (Regs.step (Regs.re (vals' := [(0, 21, agg [string a3, slice A5 a4.length c6, func (.func 57) [].toArray [pointer (some ⟨g10, 0, none⟩), pointer (some ⟨g21, 0, none⟩)].toArray].toArray), (1, 22, int .i64 v36), (2, 23, slice A26 a25.length c27), (3, 24, int .i64 v37), (4, 25, slice A26 a25.length c27), (5, 26, int .i64 (a25.length : Int)), (6, 27, int .i64 (w64 ((a25.length : Int) - 1))), (7, 28, int .i64 (min v37 (w64 ((a25.length : Int) - 1)))), (8, 29, pointer (some (ad103.add (Int.toNat (min v37 (w64 ((a25.length : Int) - 1))) * 1)))), (9, 30, int .i64 (a25.getD (Int.toNat (min v37 (w64 ((a25.length : Int) - 1)))) (0 : Int))), (11, 8, pointer (some ⟨g314, 0, none⟩))]) hReg322 (List.forall_mem_cons.2 ⟨.inl (List.mem_of_getElem? (i := 0) rfl), (List.forall_mem_cons.2 ⟨.inl (List.mem_of_getElem? (i := 1) rfl), (List.forall_mem_cons.2 ⟨.inl (List.mem_of_getElem? (i := 2) rfl), (List.forall_mem_cons.2 ⟨.inl (List.mem_of_getElem? (i := 3) rfl), (List.forall_mem_cons.2 ⟨.inl (List.mem_of_getElem? (i := 4) rfl), (List.forall_mem_cons.2 ⟨.inl (List.mem_of_getElem? (i := 5) rfl), (List.forall_mem_cons.2 ⟨.inl (List.mem_of_getElem? (i := 6) rfl), (List.forall_mem_cons.2 ⟨.inl (List.mem_of_getElem? (i := 7) rfl), (List.forall_mem_cons.2 ⟨.inl (List.mem_of_getElem? (i := 8) rfl), (List.forall_mem_cons.2 ⟨.inl (List.mem_of_getElem? (i := 9) rfl), (List.forall_mem_cons.2 ⟨.inr hDi, (fun _ h => nomatch h)⟩)⟩)⟩)⟩)⟩)⟩)⟩)⟩)⟩)⟩)⟩)) hDi rfl rfl rfl rfl), hI316⟩)))⟩
 obtain ⟨r0, rfl⟩ := Has.ex (r := r) cN
 refine q_alloc hI321 ze31 (fun g314 wd315 hI316 => ?_)
 exact nl ⟨rfl, (.inr (.inr (.inr (.inl ⟨hd10, rfl, hd12, g314, _, hG320, (Regs.step (Regs.re (vals' := [(0, 21, agg [string a3, slice A5 a4.length c6, func (.func 57) [].toArray [pointer (some ⟨g10, 0, none⟩), pointer (some ⟨g21, 0, none⟩)].toArray].toArray), (1, 22, int .i64 v36), (2, 23, slice A26 a25.length c27), (3, 24, int .i64 v37), (4, 25, slice A26 a25.length c27), (5, 26, int .i64 (a25.length : Int)), (6, 27, int .i64 (w64 ((a25.length : Int) - 1))), (7, 28, int .i64 (min v37 (w64 ((a25.length : Int) - 1)))), (8, 29, pointer (some (ad103.add (Int.toNat (min v37 (w64 ((a25.length : Int) - 1))) * 1)))), (9, 30, int .i64 (a25.getD (Int.toNat (min v37 (w64 ((a25.length : Int) - 1)))) (0 : Int))), (10, 31, agg [int .i64 y113.From, int .i64 y113.Until, int .i64 y113.Width, bool y113.Hyphen].toArray), (11, 8, pointer (some ⟨g314, 0, none⟩))]) hReg322 (List.forall_mem_cons.2 ⟨.inl (List.mem_of_getElem? (i := 0) rfl), (List.forall_mem_cons.2 ⟨.inl (List.mem_of_getElem? (i := 1) rfl), (List.forall_mem_cons.2 ⟨.inl (List.mem_of_getElem? (i := 2) rfl), (List.forall_mem_cons.2 ⟨.inl (List.mem_of_getElem? (i := 3) rfl), (List.forall_mem_cons.2 ⟨.inl (List.mem_of_getElem? (i := 4) rfl), (List.forall_mem_cons.2 ⟨.inl (List.mem_of_getElem? (i := 5) rfl), (List.forall_mem_cons.2 ⟨.inl (List.mem_of_getElem? (i := 6) rfl), (List.forall_mem_cons.2 ⟨.inl (List.mem_of_getElem? (i := 7) rfl), (List.forall_mem_cons.2 ⟨.inl (List.mem_of_getElem? (i := 8) rfl), (List.forall_mem_cons.2 ⟨.inl (List.mem_of_getElem? (i := 9) rfl), (List.forall_mem_cons.2 ⟨.inl (List.mem_of_getElem? (i := 10) rfl), (List.forall_mem_cons.2 ⟨.inr hDi, (fun _ h => nomatch h)⟩)⟩)⟩)⟩)⟩)⟩)⟩)⟩)⟩)⟩)⟩)⟩)) hDi rfl rfl rfl rfl), hI316⟩))))⟩
 cases hDi.symm.trans hd11
 cases hDi.symm.trans hd11
 cases hDi.symm.trans hd11
 rintro D r wd323 (⟨hd10, hd11, hd12, G319, hG320, hReg322, hI321⟩ | ⟨hd10, hd11, hd12, G319, hG320, hReg322, hI321⟩ | ⟨hd10, hd11, hd12, g314, G319, hG320, hReg322, hI321⟩ | ⟨hd10, hd11, hd12, g314, G319, hG320, hReg322, hI321⟩ | ⟨hd10, hd11, hd12, g314, G319, hG320, hReg322, hI321⟩) hDi hpre hpost
 cases (hpre 10 rfl).symm.trans hd10
 cases (hpre 11 rfl).symm.trans hd11
 cases (hpre 10 rfl).symm.trans hd10
 obtain ⟨r0, rfl⟩ := Has.ex (cC (hReg322.get 11 rfl (hpre 11 rfl)) (cC (hReg322.get 10 rfl (hpre 10 rfl)) cN))
 refine q_stA hI321 0 (v := agg [int .i64 y113.From, int .i64 y113.Until, int .i64 y113.Width, bool y113.Hyphen].toArray) (cs := [int .i64 y113.From, int .i64 y113.Until, int .i64 y113.Width, bool y113.Hyphen]) (vs' := [int .i64 y113.From, int .i64 y113.Until, int .i64 y113.Width, bool y113.Hyphen]) ag31 rfl rfl rfl rfl rfl rfl (Nat.le_of_ble_eq_true rfl) rfl (fun wd317 hI318 => ?_)
 exact nl ⟨rfl, (.inr (.inr (.inr (.inr ⟨hd10, hd11, rfl, g314, _, hG320, (Regs.stepN (Regs.re (vals' := [(0, 21, agg [string a3, slice A5 a4.length c6, func (.func 57) [].toArray [pointer (some ⟨g10, 0, none⟩), pointer (some ⟨g21, 0, none⟩)].toArray].toArray), (1, 22, int .i64 v36), (2, 23, slice A26 a25.length c27), (3, 24, int .i64 v37), (4, 25, slice A26 a25.length c27), (5, 26, int .i64 (a25.length : Int)), (6, 27, int .i64 (w64 ((a25.length : Int) - 1))), (7, 28, int .i64 (min v37 (w64 ((a25.length : Int) - 1)))), (8, 29, pointer (some (ad103.add (Int.toNat (min v37 (w64 ((a25.length : Int) - 1))) * 1)))), (9, 30, int .i64 (a25.getD (Int.toNat (min v37 (w64 ((a25.length : Int) - 1)))) (0 : Int))), (10, 31, agg [int .i64 y113.From, int .i64 y113.Until, int .i64 y113.Width, bool y113.Hyphen].toArray), (11, 8, pointer (some ⟨g314, 0, none⟩))]) hReg322 (List.forall_mem_cons.2 ⟨.inl (List.mem_of_getElem? (i := 0) rfl), (List.forall_mem_cons.2 ⟨.inl (List.mem_of_getElem? (i := 1) rfl), (List.forall_mem_cons.2 ⟨.inl (List.mem_of_getElem? (i := 2) rfl), (List.forall_mem_cons.2 ⟨.inl (List.mem_of_getElem? (i := 3) rfl), (List.forall_mem_cons.2 ⟨.inl (List.mem_of_getElem? (i := 4) rfl), (List.forall_mem_cons.2 ⟨.inl (List.mem_of_getElem? (i := 5) rfl), (List.forall_mem_cons.2 ⟨.inl (List.mem_of_getElem? (i := 6) rfl), (List.forall_mem_cons.2 ⟨.inl (List.mem_of_getElem? (i := 7) rfl), (List.forall_mem_cons.2 ⟨.inl (List.mem_of_getElem? (i := 8) rfl), (List.forall_mem_cons.2 ⟨.inl (List.mem_of_getElem? (i := 9) rfl), (List.forall_mem_cons.2 ⟨.inl (List.mem_of_getElem? (i := 10) rfl), (List.forall_mem_cons.2 ⟨.inl (List.mem_of_getElem? (i := 11) rfl), (fun _ h => nomatch h)⟩)⟩)⟩)⟩)⟩)⟩)⟩)⟩)⟩)⟩)⟩)⟩)) rfl rfl), hI318⟩))))⟩
 cases hDi.symm.trans hd12
 intro D r wd323 hall hR
 rcases hR with ⟨hd10, hd11, hd12, G319, hG320, hReg322, hI321⟩ | ⟨hd10, hd11, hd12, G319, hG320, hReg322, hI321⟩ | ⟨hd10, hd11, hd12, g314, G319, hG320, hReg322, hI321⟩ | ⟨hd10, hd11, hd12, g314, G319, hG320, hReg322, hI321⟩ | ⟨hd10, hd11, hd12, g314, G319, hG320, hReg322, hI321⟩
 cases (hall 10 (Nat.le_of_ble_eq_true rfl)).symm.trans hd10
 cases (hall 11 (Nat.le_of_ble_eq_true rfl)).symm.trans hd11
 cases (hall 10 (Nat.le_of_ble_eq_true rfl)).symm.trans hd10
 cases (hall 12 (Nat.le_of_ble_eq_true rfl)).symm.trans hd12
 obtain ⟨r0, rfl⟩ := Has.ex (cC (hReg322.ins.get 0 rfl) (cC (hReg322.ins.get 1 rfl) (cC (hReg322.ins.get 2 rfl) (cC (hReg322.ins.get 4 rfl) (cC (hReg322.get 11 rfl (hall 11 (Nat.le_of_ble_eq_true rfl))) cN)))))
 refine hK83 _ _ _ ?_
 refine sQ fun K333 hK334 => ?_
 refine sr fun K335 hK336 => ?_
 refine q_mv (v := func (.yield yl) #[] #[]) rfl ?_
 refine q_ldA hI321 0 (cs := [int .i64 y113.From, int .i64 y113.Until, int .i64 y113.Width, bool y113.Hyphen]) ag31 rfl rfl rfl rfl ?_
 obtain ⟨⟨s337, b338⟩, hx339, H⟩ := bS H
 refine q_yl hy [bx g314 [int .i64 y113.From, int .i64 y113.Until, int .i64 y113.Width, bool y113.Hyphen] 31, bx g2 [string a3, slice A5 a4.length c6, func (.func 57) [].toArray [pointer (some ⟨g10, 0, none⟩), pointer (some ⟨g21, 0, none⟩)].toArray] 68, bx g10 [slice A12 a11.Glyphs.length c13, slice A16 a11.Kerns.length c17] 25, bx g21 [int .i64 a22] 3, bx g24 [slice A26 a25.length c27] 29] hI321 (hy.mono (gT hG72 hG320) hS40) rfl rfl ⟨_, rfl, (mk_api_Line (x := y113))⟩ hx339 (fun wd340 G341 T342 hG343 hS344 hI345 => ?_)
 refine q_not rfl ?_
 refine nl ?_
 refine hK336 _ _ _ ?_
 by_cases h346 : (!b338) = true
 replace H := iY h346 H
 refine wpc_true (bval_yes h346) ?_
 refine wpc_ret ?_
 have hI347 := Hp.front hI345 4 rfl
 have hI348 := Hp.front hI347 4 rfl
 have hI349 := Hp.front hI348 4 rfl
 have hI350 := Hp.front hI349 4 rfl
 have hI351 := Hp.sub hI350 (sk (sk (sk (sk (sd se)))))
 cases H
 exact ⟨rfl, T342, _, rfl, (gT (gT (gT hG60 hG72) hG320) hG343), trivial, hI351, hS344, trivial⟩
 replace H := iN h346 H
 refine wpc_false (bval_no h346) ?_
 refine wpc_skip ?_
 refine hK334 _ _ _ ?_
 refine wpc_region ?_
 refine q_fa (a' := ⟨g314, 1, none⟩) fl31_1 rfl (add_plain _ _ _) ?_
 refine q_ld hI345 0 (v := int .i64 y113.Until) ag3 rfl rfl rfl ?_
 refine q_as (v := int .i64 y113.Until) rfl ?_
 refine nl ?_
 refine hK64 _ _ _ ?_
 refine wpc_region ?_
 refine q_mv (v := int .i64 v37) rfl ?_
 refine q_add rfl rfl ?_
 refine q_as (v := int .i64 (w64 (v37 + 1))) rfl ?_
 refine nl ?_
 have hI352 := Hp.front hI345 4 rfl
 have hI353 := Hp.front hI352 4 rfl
 have hI354 := Hp.front hI353 4 rfl
 have hI355 := Hp.front hI354 4 rfl
 have hI356 := Hp.sub hI355 (sk (sk (sk (sk (sd se)))))
 exact ih _ _ _ _ H T342 _ _ _ (gT (gT (gT hG60 hG72) hG320) hG343) ⟨rfl, rfl, rfl, rfl, rfl, trivial⟩ hI356 hS344 rfl
 clear hC
 rintro e r ds wd56 ⟨rfl, T51, G54, rfl, hG55, hHas, hI57, hS53, _⟩
 rw [hHas.eq]; clear hHas
 cases H
 exact ⟨.inr rfl, rfl, _, rfl, T51, _, hG55, hI57, hS53, rfl⟩
set_option maxHeartbeats 1000000 in
theorem slices_AppendSeq_api_Line_k2_spec {a3 : ByteArray} {a4 : List api_Break} {a11 : api_Font} {a22 : Int} {a25 : List Int} {g2 : Nat} {A5 : Option Addr} {c6 : Nat} {g10 : Nat} {A12 : Option Addr} {c13 : Nat} {A16 : Option Addr} {c17 : Nat} {g21 : Nat} {g24 : Nat} {A26 : Option Addr} {c27 : Nat} {r1135 : List api_Line} {G : Gh} {L : List Itm} {w : World} (hI : Hp G (bx g2 [string a3, slice A5 a4.length c6, func (.func 57) [].toArray [pointer (some ⟨g10, 0, none⟩), pointer (some ⟨g21, 0, none⟩)].toArray] 68 :: bx g10 [slice A12 a11.Glyphs.length c13, slice A16 a11.Kerns.length c17] 25 :: bx g21 [int .i64 a22] 3 :: bx g24 [slice A26 a25.length c27] 29 :: L) w) (hl7 : a4.length ≤ c6) (hD8 : Dat k_api_Break G A5 a4) (hl14 : a11.Glyphs.length ≤ c13) (hD15 : Dat k_api_Glyph G A12 a11.Glyphs) (hl18 : a11.Kerns.length ≤ c17) (hD19 : Dat k_api_Kern G A16 a11.Kerns) (hl28 : a25.length ≤ c27) (hD29 : Dat (Kd.int .i64) G A26 a25) (hgl : Gl G) (H : slices_AppendSeq_api_Line_k2 a3 a4 a11 a22 a25 = some r1135) :
    Calls Tryz.prog 66 [slice none 0 0, func (.func 67) [].toArray [pointer (some ⟨g2, 0, none⟩), pointer (some ⟨g24, 0, none⟩)].toArray].toArray w fun e w' => ∃ (A1136 : Option Addr) (c1137 : Nat) (G' : Gh), G ≤ G' ∧ Hp G' (tk (slice A1136 r1135.length c1137) 4 31 :: bx g2 [string a3, slice A5 a4.length c6, func (.func 57) [].toArray [pointer (some ⟨g10, 0, none⟩), pointer (some ⟨g21, 0, none⟩)].toArray] 68 :: bx g10 [slice A12 a11.Glyphs.length c13, slice A16 a11.Kerns.length c17] 25 :: bx g21 [int .i64 a22] 3 :: bx g24 [slice A26 a25.length c27] 29 :: L) w' ∧ r1135.length ≤ c1137 ∧ Dat k_api_Line G' A1136 r1135 ∧ Own A1136 c1137 ∧ e = .returned (slice A1136 r1135.length c1137) := by
 refine calls_intro_m (N := 13) Tryz.func66 rfl rfl (Nat.le_of_ble_eq_true rfl) ?_
 unfold slices_AppendSeq_api_Line_k2 at H
 refine sr fun K30 hK31 => ?_
 refine q_box hI (v := slice none 0 0) (vs := [slice none 0 0]) rfl rfl (fun g33 wd34 hI35 => ?_)
 refine q_as (v := slice none 0 0) rfl ?_
 refine nl ?_
 refine hK31 _ _ _ ?_
 refine sQ fun K36 hK37 => ?_
 refine sr fun K38 hK39 => ?_
 refine q_mv (v := func (.func 67) [].toArray [pointer (some ⟨g2, 0, none⟩), pointer (some ⟨g24, 0, none⟩)].toArray) rfl ?_
 refine nl ?_
 refine hK39 _ _ _ ?_
 refine wpc_block ?_
 have hI40 := Hp.emp hI35
 have hI58 := Hp.front hI40 1 rfl
 have hI59 := Hp.front hI58 5 rfl
 have hI60 := Hp.front hI59 5 rfl
 have hI61 := Hp.front hI60 5 rfl
 have hI62 := Hp.front hI61 5 rfl
 obtain ⟨⟨v43, jo65⟩, hr109, H⟩ := bS H
 refine wpc_range hI62 bo67 rfl (fun fn tmps gl gd42 wd133 hA106 hI107 => ?_)
 have hY108 : Yl Tryz.prog (rnd (fun (u : (List api_Line)) (x : api_Line) => slices_AppendSeq_api_Line_k2_r63 u x)) (encS k_api_Line) _ gl := yl_intro (pp := [7]) (gdd := gd42) hI107 (fun (u : (List api_Line)) (x : api_Line) => slices_AppendSeq_api_Line_k2_r63 u x) [] (fun (u : (List api_Line)) (G' : Gh) (K : List Itm) => ∃ (A44 : Option Addr) (c45 : Nat) (_ : G ≤ G'), K = bx g33 [slice A44 u.length c45] 37 :: tk (slice A44 u.length c45) 4 31 :: (List.map mkI (gd42 :: ([] : List Nat)) ++ L) ∧ u.length ≤ c45 ∧ Dat k_api_Line G' A44 u ∧ Own A44 c45 ∧ True) hA106 (fun _ _ _ h => (fun h => encS_len h) h) (fun hG' ⟨A44, c45, h0', hK', hl46, hD47, ho48, _⟩ => ⟨A44, c45, gT h0' hG', hK', hl46, (Dat.mono hG' hD47), ho48, trivial⟩) (by
 rintro Rd Bs v43 u' x71 jo' G67 K M wd69 vs ⟨A44, c45, hG68, rfl, hl46, hD47, ho48, _⟩ ⟨_, rfl, hK72⟩ H hI73
 obtain ⟨rfl⟩ := open_api_Line hK72
 replace H : slices_AppendSeq_api_Line_k2_r63 v43 x71 = some (u', jo') := H
 unfold slices_AppendSeq_api_Line_k2_r63 at H
 refine wpc_region ?_
 refine q_alloc hI73 ze31 (fun g75 wd76 hI77 => ?_)
 refine q_stA hI77 0 (v := agg [int .i64 x71.From, int .i64 x71.Until, int .i64 x71.Width, bool x71.Hyphen].toArray) (cs := [int .i64 x71.From, int .i64 x71.Until, int .i64 x71.Width, bool x71.Hyphen]) (vs' := [int .i64 x71.From, int .i64 x71.Until, int .i64 x71.Width, bool x71.Hyphen]) ag31 rfl rfl rfl rfl rfl rfl (Nat.le_of_ble_eq_true rfl) rfl (fun wd78 hI79 => ?_)
 refine nl ?_
 have hI82 := Hp.front hI79 3 rfl
 have hI83 := Hp.front hI82 3 rfl
 have hI84 := Hp.front hI83 2 rfl
 have hI85 := Hp.front hI84 3 rfl
 refine ⟨rfl, rfl, _, _, gR, hI85, fun wd81 hI80 => ?_⟩
 refine wpc_block ?_
 refine wpc_region ?_
 refine q_ld hI80 2 (v := slice A44 v43.length c45) ag37 rfl rfl rfl ?_
 refine q_ldA hI80 1 (cs := [int .i64 x71.From, int .i64 x71.Until, int .i64 x71.Width, bool x71.Hyphen]) ag31 rfl rfl rfl rfl ?_
 refine q_bs hI80 (vs := [(0, agg [int .i64 x71.From, int .i64 x71.Until, int .i64 x71.Width, bool x71.Hyphen].toArray)]) (cs := [int .i64 x71.From, int .i64 x71.Until, int .i64 x71.Width, bool x71.Hyphen]) el37 ze31 rfl (by decide) rfl rfl (fun g87 wd88 hI89 => ?_)
 obtain ⟨h99, H⟩ := iS H
 refine q_app (xs := v43) (ys := [x71]) k_api_Line hI89 4 el37 ze31 rfl rfl rfl rfl ho48 hl46 hD47 (src_bx hI89 0 so37 rfl rfl) ⟨[int .i64 x71.From, int .i64 x71.Until, int .i64 x71.Width, bool x71.Hyphen], _, rfl, (mk_api_Line (x := x71)), rfl⟩ rfl (by simp only [List.length_cons, List.length_nil]; omega) (by simp only [List.length_cons, List.length_nil]; omega) (fun A90 c91 G92 wd93 hG94 ho95 hl96 hD97 hI98 => ?_)
 refine q_stA hI98 3 (v := slice A90 (v43 ++ [x71]).length c91) (cs := [slice A90 (v43 ++ [x71]).length c91]) (vs' := [slice A90 (v43 ++ [x71]).length c91]) ag37 rfl rfl rfl rfl rfl rfl (Nat.le_of_ble_eq_true rfl) rfl (fun wd100 hI101 => ?_)
 refine nl ?_
 have hI102 := Hp.front hI101 4 rfl
 have hI103 := Hp.front hI102 4 rfl
 have hI104 := Hp.front hI103 3 rfl
 have hI105 := Hp.sub hI104 (sk (sk (sk (sd (sd se)))))
 cases H
 exact ⟨rfl, _, _, hG94, ⟨A90, c91, (gT hG68 hG94), rfl, hl96, hD97, ho95, trivial⟩, hI105⟩)
 have hI134 := Hp.sink (A := [bx g2 [string a3, slice A5 a4.length c6, func (.func 57) [].toArray [pointer (some ⟨g10, 0, none⟩), pointer (some ⟨g21, 0, none⟩)].toArray] 68, bx g10 [slice A12 a11.Glyphs.length c13, slice A16 a11.Kerns.length c17] 25, bx g21 [int .i64 a22] 3, bx g24 [slice A26 a25.length c27] 29]) (K := [bx g33 [slice none 0 0] 37, tk (slice none 0 0) 4 31]) hI107
 refine (inline_setter_lines_1_k1_spec (sy := (([] : List api_Line), none)) hI134 hl7 hD8 hl14 hD15 hl18 hD19 hl28 hD29 hY108 ⟨_, rfl, none, 0, Gh.le_refl _, rfl, (show ([] : List api_Line).length ≤ 0 from Nat.le_refl 0), (Dat.nil _ _ _), Own.nil, trivial⟩ (hgl.mono gR) hr109).mono ?_
 rintro _ wd112 ⟨T116, G110, hG1110, hI113, ⟨K, rfl, A44, c45, hG111, rfl, hl46, hD47, ho48, _⟩, rfl⟩
 have hH118 := Hp.front hI113 4 rfl
 rcases jo65 with _ | j
 refine ⟨_, rfl, LoopState.ready, none, G110, _, (fun h => nomatch h), hH118, fun wd114 hI115 => ?_⟩
 refine hK37 _ _ _ ?_
 refine sr fun K123 hK124 => ?_
 refine q_ld hI115 4 (v := slice A44 v43.length c45) ag37 rfl rfl rfl ?_
 refine q_as (v := slice A44 v43.length c45) rfl ?_
 refine nl ?_
 refine hK124 _ _ _ ?_
 refine wpc_ret ?_
 refine ⟨.inr rfl, (gd42 :: ([] : List Nat)), _, _, rfl, Hp.marks (K := [bx g2 [string a3, slice A5 a4.length c6, func (.func 57) [].toArray [pointer (some ⟨g10, 0, none⟩), pointer (some ⟨g21, 0, none⟩)].toArray] 68, bx g10 [slice A12 a11.Glyphs.length c13, slice A16 a11.Kerns.length c17] 25, bx g21 [int .i64 a22] 3, bx g24 [slice A26 a25.length c27] 29, bx g33 [slice A44 v43.length c45] 37, tk (slice A44 v43.length c45) 4 31]) hI115, fun wd126 hI125 => ?_⟩
 have hI127 := Hp.front hI125 3 rfl
 have hI128 := Hp.front hI127 3 rfl
 have hI129 := Hp.front hI128 3 rfl
 have hI130 := Hp.front hI129 3 rfl
 have hI131 := Hp.front hI130 5 rfl
 have hI132 := Hp.sub hI131 (sk (sk (sk (sk (sk (sd se))))))
 cases H
 exact ⟨_, ⟨_, _, rfl, rfl, rfl⟩, A44, c45, _, hG111, hI132, hl46, hD47, ho48, rfl⟩
 cases H
set_option maxHeartbeats 1000000 in
theorem slices_Collect_api_Line_k1_spec {a3 : ByteArray} {a4 : List api_Break} {a11 : api_Font} {a22 : Int} {a25 : List Int} {g2 : Nat} {A5 : Option Addr} {c6 : Nat} {g10 : Nat} {A12 : Option Addr} {c13 : Nat} {A16 : Option Addr} {c17 : Nat} {g21 : Nat} {g24 : Nat} {A26 : Option Addr} {c27 : Nat} {r1046 : List api_Line} {G : Gh} {L : List Itm} {w : World} (hI : Hp G (bx g2 [string a3, slice A5 a4.length c6, func (.func 57) [].toArray [pointer (some ⟨g10, 0, none⟩), pointer (some ⟨g21, 0, none⟩)].toArray] 68 :: bx g10 [slice A12 a11.Glyphs.length c13, slice A16 a11.Kerns.length c17] 25 :: bx g21 [int .i64 a22] 3 :: bx g24 [slice A26 a25.length c27] 29 :: L) w) (hl7 : a4.length ≤ c6) (hD8 : Dat k_api_Break G A5 a4) (hl14 : a11.Glyphs.length ≤ c13) (hD15 : Dat k_api_Glyph G A12 a11.Glyphs) (hl18 : a11.Kerns.length ≤ c17) (hD19 : Dat k_api_Kern G A16 a11.Kerns) (hl28 : a25.length ≤ c27) (hD29 : Dat (Kd.int .i64) G A26 a25) (hgl : Gl G) (H : slices_Collect_api_Line_k1 a3 a4 a11 a22 a25 = some r1046) :
    Calls Tryz.prog 33 [func (.func 67) [].toArray [pointer (some ⟨g2, 0, none⟩), pointer (some ⟨g24, 0, none⟩)].toArray].toArray w fun e w' => ∃ (A1047 : Option Addr) (c1048 : Nat) (G' : Gh), G ≤ G' ∧ Hp G' (tk (slice A1047 r1046.length c1048) 4 31 :: bx g2 [string a3, slice A5 a4.length c6, func (.func 57) [].toArray [pointer (some ⟨g10, 0, none⟩), pointer (some ⟨g21, 0, none⟩)].toArray] 68 :: bx g10 [slice A12 a11.Glyphs.length c13, slice A16 a11.Kerns.length c17] 25 :: bx g21 [int .i64 a22] 3 :: bx g24 [slice A26 a25.length c27] 29 :: L) w' ∧ r1046.length ≤ c1048 ∧ Dat k_api_Line G' A1047 r1046 ∧ Own A1047 c1048 ∧ e = .returned (slice A1047 r1046.length c1048) := by
 refine calls_intro (N := 5) Tryz.func33 rfl rfl (Nat.le_of_ble_eq_true rfl) ?_
 unfold slices_Collect_api_Line_k1 at H
 refine sr fun K30 hK31 => ?_
 refine q_as (v := slice none 0 0) rfl ?_
 refine nl ?_
 refine hK31 _ _ _ ?_
 refine sr fun K32 hK33 => ?_
 refine q_mv (v := func (.func 67) [].toArray [pointer (some ⟨g2, 0, none⟩), pointer (some ⟨g24, 0, none⟩)].toArray) rfl ?_
 obtain ⟨y39, hy34, H⟩ := bS H
 refine q_cv (vs := [slice none 0 0, func (.func 67) [].toArray [pointer (some ⟨g2, 0, none⟩), pointer (some ⟨g24, 0, none⟩)].toArray]) bo66 rfl rfl (slices_AppendSeq_api_Line_k2_spec (a3 := a3) (a4 := a4) (a11 := a11) (a22 := a22) (a25 := a25) hI hl7 hD8 hl14 hD15 hl18 hD19 hl28 hD29 (hgl.mono gR) hy34) ?_
 rintro _ wd37 ⟨A40, c41, G35, hG36, hI38, hl42, hD43, ho44, rfl⟩
 refine ⟨_, rfl, ?_⟩
 refine q_as (v := slice A40 y39.length c41) rfl ?_
 refine nl ?_
 refine hK33 _ _ _ ?_
 refine wpc_ret ?_
 cases H
 exact ⟨.inr rfl, rfl, _, ⟨_, _, rfl, rfl, rfl⟩, A40, c41, _, hG36, hI38, hl42, hD43, ho44, rfl⟩
set_option maxHeartbeats 1000000 in
theorem inline_Lines_spec {a1 : api_Font} {a10 : api_Breaks} {a15 : ByteArray} {a16 : Int} {a17 : List Int} {A2 : Option Addr} {c3 : Nat} {A6 : Option Addr} {c7 : Nat} {A11 : Option Addr} {c12 : Nat} {A18 : Option Addr} {c19 : Nat} {r1200 : List api_Line} {r1207 : Int} {G : Gh} {L : List Itm} {w : World} (hI : Hp G (L) w) (hl4 : a1.Glyphs.length ≤ c3) (hD5 : Dat k_api_Glyph G A2 a1.Glyphs) (hl8 : a1.Kerns.length ≤ c7) (hD9 : Dat k_api_Kern G A6 a1.Kerns) (hl13 : a10.Keep.length ≤ c12) (hD14 : Dat Kd.str G A11 a10.Keep) (hl20 : a17.length ≤ c19) (hD21 : Dat (Kd.int .i64) G A18 a17) (hgl : Gl G) (H : inline_Lines a1 a10 a15 a16 a17 = some (r1200, r1207)) :
    Calls Tryz.prog 13 [agg [slice A2 a1.Glyphs.length c3, slice A6 a1.Kerns.length c7].toArray, agg [int .i64 a10.Before, int .i64 a10.Behind, slice A11 a10.Keep.length c12].toArray, string a15, int .i64 a16, slice A18 a17.length c19].toArray w fun e w' => ∃ (A1201 : Option Addr) (c1202 : Nat) (G' : Gh), G ≤ G' ∧ Hp G' (tk (slice A1201 r1200.length c1202) 4 31 :: L) w' ∧ r1200.length ≤ c1202 ∧ Dat k_api_Line G' A1201 r1200 ∧ Own A1201 c1202 ∧ e = .returned (tuple [slice A1201 r1200.length c1202, int .i64 r1207].toArray) := by
 refine calls_intro (N := 38) Tryz.func13 rfl rfl (Nat.le_of_ble_eq_true rfl) ?_
 unfold inline_Lines at H
 refine sr fun K22 hK23 => ?_
 refine q_box hI (v := agg [slice A2 a1.Glyphs.length c3, slice A6 a1.Kerns.length c7].toArray) (vs := [slice A2 a1.Glyphs.length c3, slice A6 a1.Kerns.length c7]) rfl rfl (fun g25 wd26 hI27 => ?_)
 refine q_box hI27 (v := agg [int .i64 a10.Before, int .i64 a10.Behind, slice A11 a10.Keep.length c12].toArray) (vs := [int .i64 a10.Before, int .i64 a10.Behind, slice A11 a10.Keep.length c12]) rfl rfl (fun g29 wd30 hI31 => ?_)
 refine q_as (v := slice none 0 0) rfl ?_
 refine q_as (v := int .i64 0) rfl ?_
 refine nl ?_
 refine hK23 _ _ _ ?_
 refine sr fun K32 hK33 => ?_
 refine q_as (v := func (.func 31) [].toArray [].toArray) rfl ?_
 refine nl ?_
 refine hK33 _ _ _ ?_
 refine sQ fun K34 hK35 => ?_
 refine sr fun K36 hK37 => ?_
 refine q_mv (v := slice A18 a17.length c19) rfl ?_
 refine q_len so29 rfl ?_
 refine q_eql rfl rfl ?_
 refine q_mv (v := bool (decide ((a17.length : Int) = 0))) rfl ?_
 obtain ⟨v38, hC, H⟩ := bS H
 refine wpq_split 4 (K := fun e r ds w => e = .normal ∧ ∃ (G39 : Gh), ds = [] ∧ G ≤ G39 ∧ Has [(2, string a15), (3, int .i64 a16), (4, slice A18 a17.length c19), (5, pointer (some ⟨g25, 0, none⟩)), (6, pointer (some ⟨g29, 0, none⟩)), (22, bool v38)] r ∧ Hp G39 (bx g29 [int .i64 a10.Before, int .i64 a10.Behind, slice A11 a10.Keep.length c12] 28 :: bx g25 [slice A2 a1.Glyphs.length c3, slice A6 a1.Kerns.length c7] 25 :: L) w ∧ True) ?_ ?_
 replace H := hC
 by_cases h44 : (a17.length : Int) = 0
 replace H := iY h44 H
 refine wN (gN rfl rfl rfl (bool_yes h44) rfl) ?_
 refine wN (gN rfl rfl rfl (bool_yes h44) rfl) ?_
 refine wN (gN rfl rfl rfl (bool_yes h44) rfl) ?_
 refine q_pick true (v := bool true) (bool_yes h44) rfl ?_
 refine nl ?_
 cases H
 exact ⟨rfl, _, rfl, gR, ⟨rfl, rfl, rfl, rfl, rfl, rfl, trivial⟩, hI31, trivial⟩
 replace H := iN h44 H
 refine q_mv (v := slice A18 a17.length c19) rfl ?_ (hw := gY rfl rfl rfl (bool_no h44))
 refine q_mv (v := func (.func 31) [].toArray [].toArray) rfl ?_ (hw := gY rfl rfl rfl (bool_no h44))
 obtain ⟨y50, hy45, H⟩ := bS H
 refine q_cv (vs := [slice A18 a17.length c19, func (.func 31) [].toArray [].toArray]) bo32 rfl rfl (slices_ContainsFunc_int_k1_spec (a1 := a17) hI31 hl20 hD21 hy45) ?_ (hw := gY rfl rfl rfl (bool_no h44))
 rintro _ wd48 ⟨G46, hG47, hI49, rfl⟩
 refine ⟨_, rfl, ?_⟩
 refine q_pick false (v := bool y50) (bool_no h44) rfl ?_
 refine nl ?_
 cases H
 exact ⟨rfl, _, rfl, hG47, ⟨rfl, rfl, rfl, rfl, rfl, rfl, trivial⟩, hI49, trivial⟩
 clear hC
 rintro e r ds wd41 ⟨rfl, G39, rfl, hG40, hHas, hI42, _⟩
 rw [hHas.eq]; clear hHas
 refine nl ?_
 refine hK37 _ _ _ ?_
 by_cases h51 : v38 = true
 replace H := iY h51 H
 refine wpc_true (bval_yes h51) ?_
 refine sr fun K52 hK53 => ?_
 refine q_as (v := slice none 0 0) rfl ?_
 refine q_as (v := int .i64 1) rfl ?_
 refine nl ?_
 refine hK53 _ _ _ ?_
 refine wpc_ret ?_
 have hI54 := Hp.emp hI42
 have hI56 := Hp.sub hI54 (sk (sd (sd se)))
 cases H
 exact ⟨.inr rfl, rfl, _, ⟨_, _, rfl, rfl, ⟨_, _, rfl, rfl, rfl⟩⟩, none, 0, _, hG40, hI56, (show ([] : List api_Line).length ≤ 0 from Nat.le_refl 0), (Dat.nil _ _ _), Own.nil, rfl⟩
 replace H := iN h51 H
 refine wpc_false (bval_no h51) ?_
 refine wpc_skip ?_
 refine hK35 _ _ _ ?_
 refine sr fun K57 hK58 => ?_
 refine q_ldA hI42 1 (cs := [slice A2 a1.Glyphs.length c3, slice A6 a1.Kerns.length c7]) ag25 rfl rfl rfl rfl ?_
 refine q_ldA hI42 0 (cs := [int .i64 a10.Before, int .i64 a10.Behind, slice A11 a10.Keep.length c12]) ag28 rfl rfl rfl rfl ?_
 refine q_mv (v := string a15) rfl ?_
 refine q_mv (v := int .i64 a16) rfl ?_
 obtain ⟨o60, hy59, H⟩ := bS H
 rcases o60 with ⟨y65, y66⟩ | ⟨y92, y93⟩ | ⟨y119, y120, y129, y140⟩
 refine q_cv (vs := [agg [slice A2 a1.Glyphs.length c3, slice A6 a1.Kerns.length c7].toArray, agg [int .i64 a10.Before, int .i64 a10.Behind, slice A11 a10.Keep.length c12].toArray, string a15, int .i64 a16]) bo26 rfl rfl (inline_prepare_spec (a1 := a1) (a10 := a10) (a15 := a15) (a16 := a16) hI42 hl4 (Dat.mono hG40 hD5) hl8 (Dat.mono hG40 hD9) hl13 (Dat.mono hG40 hD14) hy59) ?_
 rintro _ wd63 ⟨A67, c68, G61, hG62, hI64, hl69, hD70, ho71, rfl⟩
 refine ⟨_, rfl, ?_⟩
 refine q_mv (v := tuple [agg [string y65, slice A67 y66.length c68, Value.nilFunc].toArray, int .i64 1].toArray) rfl ?_
 refine q_ex (v := agg [string y65, slice A67 y66.length c68, Value.nilFunc].toArray) rfl rfl ?_
 refine q_ex (v := int .i64 1) rfl rfl ?_
 refine q_alloc hI64 ze68 (fun g74 wd75 hI76 => ?_)
 refine q_stA hI76 0 (v := agg [string y65, slice A67 y66.length c68, Value.nilFunc].toArray) (cs := [string y65, slice A67 y66.length c68, Value.nilFunc]) (vs' := [string y65, slice A67 y66.length c68, Value.nilFunc]) ag68 rfl rfl rfl rfl rfl rfl (Nat.le_of_ble_eq_true rfl) rfl (fun wd77 hI78 => ?_)
 refine q_as (v := int .i64 1) rfl ?_
 refine nl ?_
 refine hK58 _ _ _ ?_
 refine sQ fun K79 hK80 => ?_
 refine sr fun K81 hK82 => ?_
 refine q_mv (v := int .i64 1) rfl ?_
 refine q_neq rfl rfl ?_
 refine nl ?_
 refine hK82 _ _ _ ?_
 refine wpc_true (bool_yes (p := ¬ (1 : Int) = 0) (by decide)) ?_
 refine sr fun K83 hK84 => ?_
 refine q_mv (v := int .i64 1) rfl ?_
 refine q_as (v := slice none 0 0) rfl ?_
 refine q_as (v := int .i64 1) rfl ?_
 refine nl ?_
 refine hK84 _ _ _ ?_
 refine wpc_ret ?_
 have hI85 := Hp.emp hI78
 have hI87 := Hp.sub hI85 (sk (sd (sd (sd (sd se)))))
 cases H
 exact ⟨.inr rfl, rfl, _, ⟨_, _, rfl, rfl, ⟨_, _, rfl, rfl, rfl⟩⟩, none, 0, _, (gT hG40 hG62), hI87, (show ([] : List api_Line).length ≤ 0 from Nat.le_refl 0), (Dat.nil _ _ _), Own.nil, rfl⟩
 refine q_cv (vs := [agg [slice A2 a1.Glyphs.length c3, slice A6 a1.Kerns.length c7].toArray, agg [int .i64 a10.Before, int .i64 a10.Behind, slice A11 a10.Keep.length c12].toArray, string a15, int .i64 a16]) bo26 rfl rfl (inline_prepare_spec (a1 := a1) (a10 := a10) (a15 := a15) (a16 := a16) hI42 hl4 (Dat.mono hG40 hD5) hl8 (Dat.mono hG40 hD9) hl13 (Dat.mono hG40 hD14) hy59) ?_
 rintro _ wd90 ⟨A94, c95, G88, hG89, hI91, hl96, hD97, ho98, rfl⟩
 refine ⟨_, rfl, ?_⟩
 refine q_mv (v := tuple [agg [string y92, slice A94 y93.length c95, Value.nilFunc].toArray, int .i64 20].toArray) rfl ?_
 refine q_ex (v := agg [string y92, slice A94 y93.length c95, Value.nilFunc].toArray) rfl rfl ?_
 refine q_ex (v := int .i64 20) rfl rfl ?_
 refine q_alloc hI91 ze68 (fun g101 wd102 hI103 => ?_)
 refine q_stA hI103 0 (v := agg [string y92, slice A94 y93.length c95, Value.nilFunc].toArray) (cs := [string y92, slice A94 y93.length c95, Value.nilFunc]) (vs' := [string y92, slice A94 y93.length c95, Value.nilFunc]) ag68 rfl rfl rfl rfl rfl rfl (Nat.le_of_ble_eq_true rfl) rfl (fun wd104 hI105 => ?_)
 refine q_as (v := int .i64 20) rfl ?_
 refine nl ?_
 refine hK58 _ _ _ ?_
 refine sQ fun K106 hK107 => ?_
 refine sr fun K108 hK109 => ?_
 refine q_mv (v := int .i64 20) rfl ?_
 refine q_neq rfl rfl ?_
 refine nl ?_
 refine hK109 _ _ _ ?_
 refine wpc_true (bool_yes (p := ¬ (20 : Int) = 0) (by decide)) ?_
 refine sr fun K110 hK111 => ?_
 refine q_mv (v := int .i64 20) rfl ?_
 refine q_as (v := slice none 0 0) rfl ?_
 refine q_as (v := int .i64 20) rfl ?_
 refine nl ?_
 refine hK111 _ _ _ ?_
 refine wpc_ret ?_
 have hI112 := Hp.emp hI105
 have hI114 := Hp.sub hI112 (sk (sd (sd (sd (sd se)))))
 cases H
 exact ⟨.inr rfl, rfl, _, ⟨_, _, rfl, rfl, ⟨_, _, rfl, rfl, rfl⟩⟩, none, 0, _, (gT hG40 hG89), hI114, (show ([] : List api_Line).length ≤ 0 from Nat.le_refl 0), (Dat.nil _ _ _), Own.nil, rfl⟩
 refine q_cv (vs := [agg [slice A2 a1.Glyphs.length c3, slice A6 a1.Kerns.length c7].toArray, agg [int .i64 a10.Before, int .i64 a10.Behind, slice A11 a10.Keep.length c12].toArray, string a15, int .i64 a16]) bo26 rfl rfl (inline_prepare_spec (a1 := a1) (a10 := a10) (a15 := a15) (a16 := a16) hI42 hl4 (Dat.mono hG40 hD5) hl8 (Dat.mono hG40 hD9) hl13 (Dat.mono hG40 hD14) hy59) ?_
 rintro _ wd117 ⟨A121, c122, g128, A130, c131, A134, c135, g139, G115, hG116, hI118, hl123, hD124, ho125, hl132, hD133, hl136, hD137, rfl⟩
 refine ⟨_, rfl, ?_⟩
 refine q_mv (v := tuple [agg [string y119, slice A121 y120.length c122, func (.func 57) [].toArray [pointer (some ⟨g128, 0, none⟩), pointer (some ⟨g139, 0, none⟩)].toArray].toArray, int .i64 0].toArray) rfl ?_
 refine q_ex (v := agg [string y119, slice A121 y120.length c122, func (.func 57) [].toArray [pointer (some ⟨g128, 0, none⟩), pointer (some ⟨g139, 0, none⟩)].toArray].toArray) rfl rfl ?_
 refine q_ex (v := int .i64 0) rfl rfl ?_
 refine q_alloc hI118 ze68 (fun g142 wd143 hI144 => ?_)
 refine q_stA hI144 0 (v := agg [string y119, slice A121 y120.length c122, func (.func 57) [].toArray [pointer (some ⟨g128, 0, none⟩), pointer (some ⟨g139, 0, none⟩)].toArray].toArray) (cs := [string y119, slice A121 y120.length c122, func (.func 57) [].toArray [pointer (some ⟨g128, 0, none⟩), pointer (some ⟨g139, 0, none⟩)].toArray]) (vs' := [string y119, slice A121 y120.length c122, func (.func 57) [].toArray [pointer (some ⟨g128, 0, none⟩), pointer (some ⟨g139, 0, none⟩)].toArray]) ag68 rfl rfl rfl rfl rfl rfl (Nat.le_of_ble_eq_true rfl) rfl (fun wd145 hI146 => ?_)
 refine q_as (v := int .i64 0) rfl ?_
 refine nl ?_
 refine hK58 _ _ _ ?_
 refine sQ fun K147 hK148 => ?_
 refine sr fun K149 hK150 => ?_
 refine q_mv (v := int .i64 0) rfl ?_
 refine q_neq rfl rfl ?_
 refine nl ?_
 refine hK150 _ _ _ ?_
 refine wpc_false (bool_no (p := ¬ (0 : Int) = 0) (by decide)) ?_
 refine wpc_skip ?_
 refine hK148 _ _ _ ?_
 refine sr fun K151 hK152 => ?_
 refine q_ldA hI146 0 (cs := [string y119, slice A121 y120.length c122, func (.func 57) [].toArray [pointer (some ⟨g128, 0, none⟩), pointer (some ⟨g139, 0, none⟩)].toArray]) ag68 rfl rfl rfl rfl ?_
 refine q_mv (v := slice A18 a17.length c19) rfl ?_
 have hI153 := Hp.front hI146 5 rfl
 have hI154 := Hp.front hI153 5 rfl
 have hI155 := Hp.front hI154 3 rfl
 have hI156 := Hp.front hI155 3 rfl
 have hI157 := Hp.front hI156 5 rfl
 have hI158 := Hp.front hI157 5 rfl
 obtain ⟨⟨y166, y167, y174⟩, hy159, H⟩ := bS H
 refine q_cv (vs := [agg [string y119, slice A121 y120.length c122, func (.func 57) [].toArray [pointer (some ⟨g128, 0, none⟩), pointer (some ⟨g139, 0, none⟩)].toArray].toArray, slice A18 a17.length c19]) bo34 rfl rfl (inline_setter_lines_k1_spec (a1 := y119) (a2 := y120) (a9 := y129) (a20 := y140) (a21 := a17) hI158 hl123 hD124 hl132 hD133 hl136 hD137 hl20 (Dat.mono (gT hG40 hG116) hD21) hy159) ?_
 rintro _ wd162 ⟨g165, A168, c169, g173, A175, c176, G160, hG161, hI163, hl170, hD171, hl177, hD178, rfl⟩
 refine ⟨_, rfl, ?_⟩
 have hI179 := Hp.front hI163 7 rfl
 have hI180 := Hp.front hI179 7 rfl
 have hI181 := Hp.front hI180 7 rfl
 have hI182 := Hp.front hI181 7 rfl
 have hI183 := Hp.front hI182 5 rfl
 have hI184 := Hp.front hI183 7 rfl
 have hI185 := Hp.front hI184 7 rfl
 have hI186 := Hp.front hI185 7 rfl
 obtain ⟨y192, hy187, H⟩ := bS H
 refine q_cv (vs := [func (.func 67) [].toArray [pointer (some ⟨g165, 0, none⟩), pointer (some ⟨g173, 0, none⟩)].toArray]) bo33 rfl rfl (slices_Collect_api_Line_k1_spec (a3 := y166) (a4 := y167) (a11 := y129) (a22 := y140) (a25 := y174) hI186 hl170 hD171 hl132 (Dat.mono hG161 hD133) hl136 (Dat.mono hG161 hD137) hl177 hD178 (hgl.mono (gT (gT hG40 hG116) hG161)) hy187) ?_
 rintro _ wd190 ⟨A193, c194, G188, hG189, hI191, hl195, hD196, ho197, rfl⟩
 refine ⟨_, rfl, ?_⟩
 refine q_as (v := slice A193 y192.length c194) rfl ?_
 refine q_as (v := int .i64 0) rfl ?_
 refine nl ?_
 refine hK152 _ _ _ ?_
 refine wpc_ret ?_
 have hI199 := Hp.sub hI191 (sk (sd (sd (sd (sd (sd (sd (sd (sd se)))))))))
 cases H
 exact ⟨.inr rfl, rfl, _, ⟨_, _, rfl, rfl, ⟨_, _, rfl, rfl, rfl⟩⟩, A193, c194, _, (gT (gT (gT hG40 hG116) hG161) hG189), hI199, hl195, hD196, ho197, rfl⟩
set_option maxHeartbeats 1000000 in
theorem formeref17_Same_spec {a1 : List api_Line} {a6 : List api_Line} {A2 : Option Addr} {c3 : Nat} {A7 : Option Addr} {c8 : Nat} {r1077 : Bool} {G : Gh} {L : List Itm} {w : World} (hI : Hp G (L) w) (hl4 : a1.length ≤ c3) (hD5 : Dat k_api_Line G A2 a1) (hl9 : a6.length ≤ c8) (hD10 : Dat k_api_Line G A7 a6) (H : formeref17_Same a1 a6 = some r1077) :
    Calls Tryz.prog 15 [slice A2 a1.length c3, slice A7 a6.length c8].toArray w fun e w' => ∃ (G' : Gh), G ≤ G' ∧ Hp G' (L) w' ∧ e = .returned (bool r1077) := by
 refine calls_intro (N := 26) Tryz.func15 rfl rfl (Nat.le_of_ble_eq_true rfl) ?_
 unfold formeref17_Same at H
 refine sr fun K11 hK12 => ?_
 refine q_as (v := bool false) rfl ?_
 refine nl ?_
 refine hK12 _ _ _ ?_
 refine sQ fun K13 hK14 => ?_
 refine sr fun K15 hK16 => ?_
 refine q_mv (v := slice A2 a1.length c3) rfl ?_
 refine q_len so37 rfl ?_
 refine q_mv (v := slice A7 a6.length c8) rfl ?_
 refine q_len so37 rfl ?_
 refine q_neq rfl rfl ?_
 refine nl ?_
 refine hK16 _ _ _ ?_
 by_cases h17 : ¬ (a1.length : Int) = (a6.length : Int)
 replace H := iY h17 H
 refine wpc_true (bool_yes h17) ?_
 refine sr fun K18 hK19 => ?_
 refine q_as (v := bool false) rfl ?_
 refine nl ?_
 refine hK19 _ _ _ ?_
 refine wpc_ret ?_
 cases H
 exact ⟨.inr rfl, rfl, _, ⟨_, _, rfl, rfl, rfl⟩, _, gR, hI, rfl⟩
 replace H := iN h17 H
 refine wpc_false (bool_no h17) ?_
 refine wpc_skip ?_
 refine hK14 _ _ _ ?_
 refine sQ fun K20 hK21 => ?_
 refine sr fun K22 hK23 => ?_
 refine q_as (v := int .i64 0) rfl ?_
 refine nl ?_
 refine hK23 _ _ _ ?_
 refine wpc_block ?_
 obtain ⟨o43, hC, H⟩ := bS H
 refine wpc_mono (Q := fun e r ds w => match (generalizing := false) o43 with | (Sum.inl _) => e = .ret ∧ ∃ (G35 : Gh), ds = [] ∧ G ≤ G35 ∧ Has [(4, bool false)] r ∧ Hp G35 (L) w ∧ True | (Sum.inr _) => e = .exit 0 ∧ ∃ (G39 : Gh), ds = [] ∧ G ≤ G39 ∧ Has [] r ∧ Hp G39 (L) w ∧ True) ?_ ?_
 clear H
 refine wpc_loop fun I hLp => ?_
 refine formeref17_Same_l34.partial_correctness a1 a6 (fun v28 o => ∀ (G44 : Gh) (r : Rg) (w : World), G ≤ G44 → Has [(0, slice A2 a1.length c3), (1, slice A7 a6.length c8), (5, int .i64 v28)] r → Hp G44 (L) w → o = o43 → I r [] w) ?_ 0 _ hC _ _ _ gR ⟨rfl, rfl, rfl, trivial⟩ hI rfl
 intro _ ih v28 o H G44 r wd46 hG45 hHas hI47 ho
 rw [ho] at H; clear ho
 rw [hHas.eq]; clear hHas
 refine hLp _ _ _ ?_
 refine sQ fun K48 hK49 => ?_
 refine sr fun K50 hK51 => ?_
 refine q_mv (v := int .i64 v28) rfl ?_
 refine q_mv (v := slice A2 a1.length c3) rfl ?_
 refine q_len so37 rfl ?_
 refine q_lss rfl rfl ?_
 refine nl ?_
 refine hK51 _ _ _ ?_
 by_cases h52 : v28 < (a1.length : Int)
 replace H := iY h52 H
 refine wpc_true (bool_yes h52) ?_
 refine wpc_skip ?_
 refine hK49 _ _ _ ?_
 refine sQ fun K53 hK54 => ?_
 refine wpc_block ?_
 refine sQ fun K55 hK56 => ?_
 refine wpc_quiet mixo (by kernel_rfl) ?_
 have hI57 := hI47.drew
 refine wq (q_mv (v := slice A2 a1.length c3) rfl wqd) rfl ?_
 refine wq (q_mv (v := int .i64 v28) rfl wqd) rfl ?_
 obtain ⟨⟨h58, h58'⟩, H⟩ := iS H
 obtain ⟨ad59, cs60, hA61, hK62, hn63, hc64⟩ := Dat.get (Dat.mono hG45 hD5) z_api_Line (v28) h58 h58'
 obtain ⟨rfl⟩ := open_api_Line hK62
 refine wq (q_ia el37 rfl hA61 rfl h58 h58' wqd) rfl ?_
 refine wq (q_lfA hI57 ag31 rfl (cs := [int .i64 ((a1.getD (Int.toNat v28) z_api_Line).From), int .i64 ((a1.getD (Int.toNat v28) z_api_Line).Until), int .i64 ((a1.getD (Int.toNat v28) z_api_Line).Width), bool ((a1.getD (Int.toNat v28) z_api_Line).Hyphen)]) rfl (fun j v hv => gR.cel _ _ (hc64 j v hv)) wqd) rfl ?_
 refine wq (q_mv (v := slice A7 a6.length c8) rfl wqd) rfl ?_
 refine wq (q_mv (v := int .i64 v28) rfl wqd) rfl ?_
 obtain ⟨⟨h65, h65'⟩, H⟩ := iS H
 obtain ⟨ad66, cs67, hA68, hK69, hn70, hc71⟩ := Dat.get (Dat.mono hG45 hD10) z_api_Line (v28) h65 h65'
 obtain ⟨rfl⟩ := open_api_Line hK69
 refine wq (q_ia el37 rfl hA68 rfl h65 h65' wqd) rfl ?_
 refine wq (q_lfA hI57 ag31 rfl (cs := [int .i64 ((a6.getD (Int.toNat v28) z_api_Line).From), int .i64 ((a6.getD (Int.toNat v28) z_api_Line).Until), int .i64 ((a6.getD (Int.toNat v28) z_api_Line).Width), bool ((a6.getD (Int.toNat v28) z_api_Line).Hyphen)]) rfl (fun j v hv => gR.cel _ _ (hc71 j v hv)) wqd) rfl ?_
 refine wq (q_st_neq (q := (a1.getD (Int.toNat v28) z_api_Line) = (a6.getD (Int.toNat v28) z_api_Line)) rfl rfl eqg_api_Line (eqs_api_Line (a1.getD (Int.toNat v28) z_api_Line) (a6.getD (Int.toNat v28) z_api_Line)) (eqd_api_Line _ _) wqd) rfl ?_
 refine wqq_nil ?_
 refine hK56 _ _ _ ?_
 by_cases h72 : ¬ (a1.getD (Int.toNat v28) z_api_Line) = (a6.getD (Int.toNat v28) z_api_Line)
 replace H := iY h72 H
 refine wpc_true (bool_yes h72) ?_
 refine sr fun K73 hK74 => ?_
 refine q_as (v := bool false) rfl ?_
 refine nl ?_
 refine hK74 _ _ _ ?_
 refine wpc_ret ?_
 cases H
 exact ⟨rfl, _, rfl, hG45, ⟨rfl, trivial⟩, hI57, trivial⟩
 replace H := iN h72 H
 refine wpc_false (bool_no h72) ?_
 refine wpc_skip ?_
 refine hK54 _ _ _ ?_
 refine wpc_region ?_
 refine q_mv (v := int .i64 v28) rfl ?_
 refine q_add rfl rfl ?_
 refine q_as (v := int .i64 (w64 (v28 + 1))) rfl ?_
 refine nl ?_
 exact ih _ _ H _ _ _ hG45 ⟨rfl, rfl, rfl, trivial⟩ hI57 rfl
 replace H := iN h52 H
 refine wpc_false (bool_no h52) ?_
 refine wpc_exit ?_
 cases H
 exact ⟨rfl, _, rfl, hG45, trivial, hI47, trivial⟩
 clear hC
 rcases o43 with _ | _
 rintro e r ds wd37 ⟨rfl, G35, rfl, hG36, hHas, hI38, _⟩
 rw [hHas.eq]; clear hHas
 cases H
 exact ⟨.inr rfl, rfl, _, ⟨_, _, rfl, rfl, rfl⟩, _, hG36, hI38, rfl⟩
 rintro e r ds wd41 ⟨rfl, G39, rfl, hG40, hHas, hI42, _⟩
 rw [hHas.eq]; clear hHas
 refine hK21 _ _ _ ?_
 refine sr fun K75 hK76 => ?_
 refine q_as (v := bool true) rfl ?_
 refine nl ?_
 refine hK76 _ _ _ ?_
 refine wpc_ret ?_
 cases H
 exact ⟨.inr rfl, rfl, _, ⟨_, _, rfl, rfl, rfl⟩, _, hG40, hI42, rfl⟩
set_option maxHeartbeats 1000000 in
theorem bidi_isLine_spec {a1 : ByteArray} {a2 : Int} {r1027 : Bool} {G : Gh} {L : List Itm} {w : World} (hI : Hp G (L) w) (H : bidi_isLine a1 a2 = some r1027) :
    Calls Tryz.prog 127 [string a1, int .i64 a2].toArray w fun e w' => ∃ (G' : Gh), G ≤ G' ∧ Hp G' (L) w' ∧ e = .returned (bool r1027) := by
 refine calls_intro (N := 15) Tryz.func127 rfl rfl (Nat.le_of_ble_eq_true rfl) ?_
 unfold bidi_isLine at H
 refine sr fun K3 hK4 => ?_
 refine q_as (v := bool false) rfl ?_
 refine nl ?_
 refine hK4 _ _ _ ?_
 refine sr fun K5 hK6 => ?_
 refine q_mv (v := string a1) rfl ?_
 obtain ⟨y12, hy7, H⟩ := bS H
 refine q_cv (vs := [string a1]) bo37 rfl rfl (text_Valid_spec (a1 := a1) hI hy7) ?_
 rintro _ wd10 ⟨G8, hG9, hI11, rfl⟩
 refine ⟨_, rfl, ?_⟩
 refine q_mv (v := bool y12) rfl ?_
 obtain ⟨v13, hC, H⟩ := bS H
 refine wpq_split 7 (K := fun e r ds w => e = .normal ∧ ∃ (G14 : Gh), ds = [] ∧ G8 ≤ G14 ∧ Has [(14, bool v13)] r ∧ Hp G14 (L) w ∧ True) ?_ ?_
 replace H := hC
 by_cases h19 : y12 = true
 replace H := iY h19 H
 refine q_mv (v := int .i64 a2) rfl ?_ (hw := gY rfl rfl rfl (bval_yes h19))
 refine q_eql rfl rfl ?_ (hw := gY rfl rfl rfl (bval_yes h19))
 refine q_mv (v := bool (decide (a2 = 0))) rfl ?_ (hw := gY rfl rfl rfl (bval_yes h19))
 obtain ⟨v20, hC, H⟩ := bS H
 refine wpq_split 3 (K := fun e r ds w => e = .normal ∧ ∃ (G21 : Gh), ds = [] ∧ G8 ≤ G21 ∧ Has [(7, bool y12), (13, bool v20)] r ∧ Hp G21 (L) w ∧ True) ?_ ?_
 replace H := hC
 by_cases h26 : a2 = 0
 replace H := iY h26 H
 refine wN (gN rfl rfl rfl (bool_yes h26) rfl) ?_
 refine wN (gN rfl rfl rfl (bool_yes h26) rfl) ?_
 refine q_pick true (v := bool true) (bool_yes h26) rfl ?_ (hw := gY rfl rfl rfl (bval_yes h19))
 refine nl ?_
 cases H
 exact ⟨rfl, _, rfl, gR, ⟨rfl, rfl, trivial⟩, hI11, trivial⟩
 replace H := iN h26 H
 refine q_mv (v := int .i64 a2) rfl ?_ (hw := gY rfl rfl rfl (bool_no h26))
 refine q_eql rfl rfl ?_ (hw := gY rfl rfl rfl (bool_no h26))
 refine q_pick false (v := bool (decide (a2 = 1))) (bool_no h26) rfl ?_ (hw := gY rfl rfl rfl (bval_yes h19))
 refine nl ?_
 cases H
 exact ⟨rfl, _, rfl, gR, ⟨rfl, rfl, trivial⟩, hI11, trivial⟩
 clear hC
 rintro e r ds wd23 ⟨rfl, G21, rfl, hG22, hHas, hI24, _⟩
 rw [hHas.eq]; clear hHas
 refine q_pick true (v := bool v20) (bval_yes h19) rfl ?_
 refine nl ?_
 cases H
 exact ⟨rfl, _, rfl, hG22, ⟨rfl, trivial⟩, hI24, trivial⟩
 replace H := iN h19 H
 refine wN (gN rfl rfl rfl (bval_no h19) rfl) ?_
 refine wN (gN rfl rfl rfl (bval_no h19) rfl) ?_
 refine wN (gN rfl rfl rfl (bval_no h19) rfl) ?_
 refine wN (gN rfl rfl rfl rfl rfl) ?_
 refine wN (gN rfl rfl rfl rfl rfl) ?_
 refine wN (gN rfl rfl rfl (bval_no h19) rfl) ?_
 refine q_pick false (v := bool false) (bval_no h19) rfl ?_
 refine nl ?_
 cases H
 exact ⟨rfl, _, rfl, gR, ⟨rfl, trivial⟩, hI11, trivial⟩
 clear hC
 rintro e r ds wd16 ⟨rfl, G14, rfl, hG15, hHas, hI17, _⟩
 rw [hHas.eq]; clear hHas
 refine q_as (v := bool v13) rfl ?_
 refine nl ?_
 refine hK6 _ _ _ ?_
 refine wpc_ret ?_
 cases H
 exact ⟨.inr rfl, rfl, _, ⟨_, _, rfl, rfl, rfl⟩, _, (gT hG9 hG15), hI17, rfl⟩
set_option maxHeartbeats 1000000 in
theorem bidi_directions_2_spec {a1 : Int} {r1012 : Bool} {G : Gh} {L : List Itm} {w : World} (hI : Hp G (L) w) (H : bidi_directions_2 a1 = some r1012) :
    Calls Tryz.prog 146 [int .u8 a1].toArray w fun e w' => ∃ (G' : Gh), G ≤ G' ∧ Hp G' (L) w' ∧ e = .returned (bool r1012) := by
 refine calls_intro (N := 6) Tryz.func146 rfl rfl (Nat.le_of_ble_eq_true rfl) ?_
 unfold bidi_directions_2 at H
 refine sr fun K2 hK3 => ?_
 refine q_as (v := bool false) rfl ?_
 refine nl ?_
 refine hK3 _ _ _ ?_
 refine sr fun K4 hK5 => ?_
 refine q_mv (v := int .u8 a1) rfl ?_
 obtain ⟨y11, hy6, H⟩ := bS H
 refine q_cv (vs := [int .u8 a1]) bo49 rfl rfl (text_Class_spec (a1 := a1) hI hy6) ?_
 rintro _ wd9 ⟨G7, hG8, hI10, rfl⟩
 refine ⟨_, rfl, ?_⟩
 refine q_gtr rfl rfl ?_
 refine q_as (v := bool (decide (3 < y11))) rfl ?_
 refine nl ?_
 refine hK5 _ _ _ ?_
 refine wpc_ret ?_
 cases H
 exact ⟨.inr rfl, rfl, _, ⟨_, _, rfl, rfl, rfl⟩, _, hG8, hI10, rfl⟩
set_option maxHeartbeats 1000000 in
theorem bidi_runs_byte_k1_spec {a1 : List Int} {A2 : Option Addr} {c3 : Nat} {r1021 : List Int} {G : Gh} {L : List Itm} {w : World} (hI : Hp G (L) w) (hl4 : a1.length ≤ c3) (hD5 : Dat (Kd.int .u8) G A2 a1) (H : bidi_runs_byte_k1 a1 = some r1021) :
    Calls Tryz.prog 145 [slice A2 a1.length c3, func (.func 146) [].toArray [].toArray].toArray w fun e w' => ∃ (g1020 : Nat) (A1022 : Option Addr) (c1023 : Nat) (g1027 : Nat) (G' : Gh), G ≤ G' ∧ Hp G' (bx g1020 [slice A1022 r1021.length c1023] 124 :: bx g1027 [func (.func 146) [].toArray [].toArray] 126 :: L) w' ∧ r1021.length ≤ c1023 ∧ Dat (Kd.int .u8) G' A1022 r1021 ∧ e = .returned (func (.func 158) [].toArray [pointer (some ⟨g1020, 0, none⟩), pointer (some ⟨g1027, 0, none⟩)].toArray) := by
 refine calls_intro (N := 6) Tryz.func145 rfl rfl (Nat.le_of_ble_eq_true rfl) ?_
 unfold bidi_runs_byte_k1 at H
 refine sr fun K6 hK7 => ?_
 refine q_box hI (v := slice A2 a1.length c3) (vs := [slice A2 a1.length c3]) rfl rfl (fun g9 wd10 hI11 => ?_)
 refine q_box hI11 (v := func (.func 146) [].toArray [].toArray) (vs := [func (.func 146) [].toArray [].toArray]) rfl rfl (fun g13 wd14 hI15 => ?_)
 refine q_as (v := Value.nilFunc) rfl ?_
 refine nl ?_
 refine hK7 _ _ _ ?_
 refine sr fun K16 hK17 => ?_
 refine q_fn (vs := []) (us := [pointer (some ⟨g9, 0, none⟩), pointer (some ⟨g13, 0, none⟩)]) rfl rfl ?_
 refine q_as (v := func (.func 158) [].toArray [pointer (some ⟨g9, 0, none⟩), pointer (some ⟨g13, 0, none⟩)].toArray) rfl ?_
 refine nl ?_
 refine hK17 _ _ _ ?_
 refine wpc_ret ?_
 have hI18 := Hp.front hI15 1 rfl
 cases H
 exact ⟨.inr rfl, rfl, _, ⟨_, _, rfl, rfl, rfl⟩, g9, A2, c3, g13, _, gR, hI18, hl4, hD5, rfl⟩
set_option maxHeartbeats 1000000 in
theorem bidi_runs_1_byte_k1_spec {σ : Type} {St : σ → Gh → List Itm → Prop} {yl : Nat} {φ : σ → (Int × Int) → Option (σ × Bool)} {sy : σ} {a3 : List Int} {g2 : Nat} {A4 : Option Addr} {c5 : Nat} {g9 : Nat} {ry : σ} {G : Gh} {T : List Itm} {w : World} (hI : Hp G (bx g2 [slice A4 a3.length c5] 124 :: bx g9 [func (.func 146) [].toArray [].toArray] 126 :: T) w) (hl6 : a3.length ≤ c5) (hD7 : Dat (Kd.int .u8) G A4 a3) (hy : Yl Tryz.prog φ (encP (enc1 (Kd.int .i64)) (enc1 (Kd.int .i64))) St yl) (hS : St sy G T) (H : bidi_runs_1_byte_k1 φ sy a3 = some ry) :
    Calls Tryz.prog 158 [func (.yield yl) #[] #[], pointer (some ⟨g2, 0, none⟩), pointer (some ⟨g9, 0, none⟩)].toArray w fun e w' => ∃ (T' : List Itm) (G' : Gh), G ≤ G' ∧ Hp G' (bx g2 [slice A4 a3.length c5] 124 :: bx g9 [func (.func 146) [].toArray [].toArray] 126 :: T') w' ∧ St ry G' T' ∧ e = .returned (tuple [].toArray) := by
 refine calls_intro (N := 40) Tryz.func158 rfl rfl (Nat.le_of_ble_eq_true rfl) ?_
 unfold bidi_runs_1_byte_k1 at H
 refine sr fun K10 hK11 => ?_
 refine q_as (v := int .i64 0) rfl ?_
 refine nl ?_
 refine hK11 _ _ _ ?_
 refine wpc_block ?_
 obtain ⟨o43, hC, H⟩ := bS H
 refine wpc_mono (Q := fun e r ds w => match (generalizing := false) o43 with | (Sum.inl v30) => e = .ret ∧ ∃ (T29 : List Itm) (G35 : Gh), ds = [] ∧ G ≤ G35 ∧ Has [] r ∧ Hp G35 (bx g2 [slice A4 a3.length c5] 124 :: bx g9 [func (.func 146) [].toArray [].toArray] 126 :: T29) w ∧ St v30 G35 T29 ∧ True | (Sum.inr v33) => e = .exit 0 ∧ ∃ (T32 : List Itm) (G39 : Gh), ds = [] ∧ G ≤ G39 ∧ Has [] r ∧ Hp G39 (bx g2 [slice A4 a3.length c5] 124 :: bx g9 [func (.func 146) [].toArray [].toArray] 126 :: T32) w ∧ St v33 G39 T32 ∧ True) ?_ ?_
 clear H
 refine wpc_loop fun I hLp => ?_
 refine bidi_runs_1_byte_k1_l28.partial_correctness φ a3 (fun v16 v18 o => ∀ (T17 : List Itm) (G44 : Gh) (r : Rg) (w : World), G ≤ G44 → Has [(0, func (.yield yl) #[] #[]), (1, pointer (some ⟨g2, 0, none⟩)), (2, pointer (some ⟨g9, 0, none⟩)), (4, int .i64 v16)] r → Hp G44 (bx g2 [slice A4 a3.length c5] 124 :: bx g9 [func (.func 146) [].toArray [].toArray] 126 :: T17) w → St v18 G44 T17 → o = o43 → I r [] w) ?_ 0 sy _ hC T _ _ _ gR ⟨rfl, rfl, rfl, rfl, trivial⟩ hI hS rfl
 intro _ ih v16 v18 o H T17 G44 r wd46 hG45 hHas hI47 hS19 ho
 rw [ho] at H; clear ho
 rw [hHas.eq]; clear hHas
 refine hLp _ _ _ ?_
 refine sQ fun K48 hK49 => ?_
 refine sr fun K50 hK51 => ?_
 refine q_mv (v := int .i64 v16) rfl ?_
 refine q_ld hI47 0 (v := slice A4 a3.length c5) ag124 rfl rfl rfl ?_
 refine q_len so124 rfl ?_
 refine q_lss rfl rfl ?_
 refine nl ?_
 refine hK51 _ _ _ ?_
 by_cases h52 : v16 < (a3.length : Int)
 replace H := iY h52 H
 refine wpc_true (bool_yes h52) ?_
 refine wpc_skip ?_
 refine hK49 _ _ _ ?_
 refine sQ fun K53 hK54 => ?_
 refine wpc_block ?_
 refine sr fun K55 hK56 => ?_
 refine q_mv (v := int .i64 v16) rfl ?_
 refine q_as (v := int .i64 v16) rfl ?_
 refine nl ?_
 refine hK56 _ _ _ ?_
 refine sQ fun K57 hK58 => ?_
 refine wpc_block ?_
 obtain ⟨v70, hC, H⟩ := bS H
 refine wpc_mono (Q := fun e r ds w => e = .exit 2 ∧ ∃ (G71 : Gh), ds = [] ∧ G44 ≤ G71 ∧ Has [(0, func (.yield yl) #[] #[]), (1, pointer (some ⟨g2, 0, none⟩)), (2, pointer (some ⟨g9, 0, none⟩)), (4, int .i64 v16), (5, int .i64 v70)] r ∧ Hp G71 (bx g2 [slice A4 a3.length c5] 124 :: bx g9 [func (.func 146) [].toArray [].toArray] 126 :: T17) w ∧ True) ?_ ?_
 clear H
 refine wpc_loop fun I hLp => ?_
 refine bidi_runs_1_byte_k1_l69.partial_correctness a3 (fun v63 o => ∀ (G76 : Gh) (r : Rg) (w : World), G44 ≤ G76 → Has [(0, func (.yield yl) #[] #[]), (1, pointer (some ⟨g2, 0, none⟩)), (2, pointer (some ⟨g9, 0, none⟩)), (4, int .i64 v16), (5, int .i64 v63)] r → Hp G76 (bx g2 [slice A4 a3.length c5] 124 :: bx g9 [func (.func 146) [].toArray [].toArray] 126 :: T17) w → o = v70 → I r [] w) ?_ v16 _ hC _ _ _ gR ⟨rfl, rfl, rfl, rfl, rfl, trivial⟩ hI47 rfl
 intro _ ih v63 o H G76 r wd78 hG77 hHas hI79 ho
 rw [ho] at H; clear ho
 rw [hHas.eq]; clear hHas
 refine hLp _ _ _ ?_
 refine sQ fun K80 hK81 => ?_
 refine sQ fun K82 hK83 => ?_
 obtain ⟨v99, hC, H⟩ := bS H
 refine wpc_mono (Q := fun e r ds w => e = .normal ∧ ∃ (G100 : Gh), ds = [] ∧ G76 ≤ G100 ∧ Has [(0, func (.yield yl) #[] #[]), (1, pointer (some ⟨g2, 0, none⟩)), (2, pointer (some ⟨g9, 0, none⟩)), (4, int .i64 v16), (5, int .i64 v63), (24, bool v99)] r ∧ Hp G100 (bx g2 [slice A4 a3.length c5] 124 :: bx g9 [func (.func 146) [].toArray [].toArray] 126 :: T17) w ∧ True) ?_ ?_
 replace H := hC
 by_cases h105 : v63 < (a3.length : Int)
 replace H := iY h105 H
 obtain ⟨⟨h106, h106'⟩, H⟩ := iS H
 obtain ⟨ad107, cs108, hA109, hK110, hn111, hc112⟩ := Dat.get (Dat.mono (gT hG45 hG77) hD7) (0 : Int) (v63) h106 h106'
 obtain rfl := hK110
 obtain ⟨y117, hy302, H⟩ := bS H
 refine wpc_drawL [0, 0, 2, 7, 15, 31, 31, 31, 223, 479, 1023, 2047] (fun D r w => (∃ (G' : Gh), G76 ≤ G' ∧ Regs [(0, func (.yield yl) #[] #[]), (1, pointer (some ⟨g2, 0, none⟩)), (2, pointer (some ⟨g9, 0, none⟩)), (4, int .i64 v16), (5, int .i64 v63)] [] [(0, 13, int .i64 v63), (1, 14, slice A4 a3.length c5), (2, 15, int .i64 (a3.length : Int)), (3, 16, bool (decide (v63 < (a3.length : Int)))), (4, 17, bool (decide (v63 < (a3.length : Int)))), (5, 18, func (.func 146) [].toArray [].toArray), (6, 19, slice A4 a3.length c5), (7, 20, int .i64 v63), (8, 21, pointer (some (ad107.add (Int.toNat v63 * 1)))), (9, 22, int .u8 (a3.getD (Int.toNat v63) (0 : Int))), (10, 23, bool y117), (11, 24, bool y117)] D r ∧ Hp G' (bx g2 [slice A4 a3.length c5] 124 :: bx g9 [func (.func 146) [].toArray [].toArray] 126 :: T17) w)) mixo rfl rfl ?_ ?_ ?_
 exact ⟨_, Gh.le_refl _, Regs.start ⟨rfl, rfl, rfl, rfl, rfl, trivial⟩ trivial, hI79.drew⟩
 refine ⟨?_, ?_, ?_, ?_, ?_, ?_, ?_, ?_, ?_, ?_, ?_, ?_, trivial⟩
 rintro D r wd317 ⟨G313, hG314, hReg316, hI315⟩ hDi hpre hpost
 obtain ⟨r0, rfl⟩ := Has.ex (cC (hReg316.ins.get 4 rfl) cN)
 refine q_mv (v := int .i64 v63) rfl ?_
 exact nl ⟨rfl, ⟨_, hG314, (Regs.step hReg316 hDi rfl rfl rfl rfl), hI315⟩⟩
 rintro D r wd317 ⟨G313, hG314, hReg316, hI315⟩ hDi hpre hpost
 obtain ⟨r0, rfl⟩ := Has.ex (cC (hReg316.ins.get 1 rfl) cN)
 refine q_ld hI315 0 (v := slice A4 a3.length c5) ag124 rfl rfl rfl ?_
 exact nl ⟨rfl, ⟨_, hG314, (Regs.step hReg316 hDi rfl rfl rfl rfl), hI315⟩⟩
 rintro D r wd317 ⟨G313, hG314, hReg316, hI315⟩ hDi hpre hpost
 obtain ⟨r0, rfl⟩ := Has.ex (cC (hReg316.get 1 rfl (hpre 1 rfl)) cN)
 refine q_len so124 rfl ?_
 exact nl ⟨rfl, ⟨_, hG314, (Regs.step hReg316 hDi rfl rfl rfl rfl), hI315⟩⟩
 rintro D r wd317 ⟨G313, hG314, hReg316, hI315⟩ hDi hpre hpost
 obtain ⟨r0, rfl⟩ := Has.ex (cC (hReg316.get 0 rfl (hpre 0 rfl)) (cC (hReg316.get 2 rfl (hpre 2 rfl)) cN))
 refine q_lss rfl rfl ?_
 exact nl ⟨rfl, ⟨_, hG314, (Regs.step hReg316 hDi rfl rfl rfl rfl), hI315⟩⟩
 rintro D r wd317 ⟨G313, hG314, hReg316, hI315⟩ hDi hpre hpost
 obtain ⟨r0, rfl⟩ := Has.ex (cC (hReg316.get 3 rfl (hpre 3 rfl)) cN)
 refine q_mv (v := bool (decide (v63 < (a3.length : Int)))) rfl ?_
 exact nl ⟨rfl, ⟨_, hG314, (Regs.step hReg316 hDi rfl rfl rfl rfl), hI315⟩⟩
 rintro D r wd317 ⟨G313, hG314, hReg316, hI315⟩ hDi hpre hpost
 obtain ⟨r0, rfl⟩ := Has.ex (cC (hReg316.ins.get 2 rfl) (cC (hReg316.get 4 rfl (hpre 4 rfl)) cN))
 refine q_ld hI315 1 (v := func (.func 146) [].toArray [].toArray) ag126 rfl rfl rfl ?_ (hw := gY rfl rfl rfl (bool_yes h105))
 exact nl ⟨rfl, ⟨_, hG314, (Regs.step hReg316 hDi rfl rfl rfl rfl), hI315⟩⟩
 rintro D r wd317 ⟨G313, hG314, hReg316, hI315⟩ hDi hpre hpost
 obtain ⟨r0, rfl⟩ := Has.ex (cC (hReg316.ins.get 1 rfl) (cC (hReg316.get 4 rfl (hpre 4 rfl)) cN))
 refine q_ld hI315 0 (v := slice A4 a3.length c5) ag124 rfl rfl rfl ?_ (hw := gY rfl rfl rfl (bool_yes h105))
 exact nl ⟨rfl, ⟨_, hG314, (Regs.step hReg316 hDi rfl rfl rfl rfl), hI315⟩⟩
 rintro D r wd317 ⟨G313, hG314, hReg316, hI315⟩ hDi hpre hpost
 obtain ⟨r0, rfl⟩ := Has.ex (cC (hReg316.ins.get 4 rfl) (cC (hReg316.get 4 rfl (hpre 4 rfl)) cN))
 refine q_mv (v := int .i64 v63) rfl ?_ (hw := gY rfl rfl rfl (bool_yes h105))
 exact nl ⟨rfl, ⟨_, hG314, (Regs.step hReg316 hDi rfl rfl rfl rfl), hI315⟩⟩
 rintro D r wd317 ⟨G313, hG314, hReg316, hI315⟩ hDi hpre hpost
 obtain ⟨r0, rfl⟩ := Has.ex (cC (hReg316.get 4 rfl (hpre 4 rfl)) (cC (hReg316.get 6 rfl (hpre 6 rfl)) (cC (hReg316.get 7 rfl (hpre 7 rfl)) cN)))
 refine q_ia el124 rfl hA109 rfl h106 h106' ?_ (hw := gY rfl rfl rfl (bool_yes h105))
 exact nl ⟨rfl, ⟨_, hG314, (Regs.step hReg316 hDi rfl rfl rfl rfl), hI315⟩⟩
 rintro D r wd317 ⟨G313, hG314, hReg316, hI315⟩ hDi hpre hpost
 obtain ⟨r0, rfl⟩ := Has.ex (cC (hReg316.get 4 rfl (hpre 4 rfl)) (cC (hReg316.get 8 rfl (hpre 8 rfl)) cN))
 refine q_lf hI315 (v := int .u8 (a3.getD (Int.toNat v63) (0 : Int))) ag5 rfl (hG314.cel _ _ (hc112 0 _ rfl)) ?_ (hw := gY rfl rfl rfl (bool_yes h105))
 exact nl ⟨rfl, ⟨_, hG314, (Regs.step hReg316 hDi rfl rfl rfl rfl), hI315⟩⟩
 rintro D r wd317 ⟨G313, hG314, hReg316, hI315⟩ hDi hpre hpost
 obtain ⟨r0, rfl⟩ := Has.ex (cC (hReg316.get 4 rfl (hpre 4 rfl)) (cC (hReg316.get 5 rfl (hpre 5 rfl)) (cC (hReg316.get 9 rfl (hpre 9 rfl)) cN)))
 refine q_cv (vs := [int .u8 (a3.getD (Int.toNat v63) (0 : Int))]) bo146 rfl rfl (bidi_directions_2_spec (a1 := a3.getD (Int.toNat v63) (0 : Int)) hI315 hy302) ?_ (hw := gY rfl rfl rfl (bool_yes h105))
 rintro _ wd115 ⟨G113, hG114, hI116, rfl⟩
 refine ⟨_, rfl, ?_⟩
 exact nl ⟨rfl, ⟨_, (gT hG314 hG114), (Regs.step hReg316 hDi rfl rfl rfl rfl), hI116⟩⟩
 rintro D r wd317 ⟨G313, hG314, hReg316, hI315⟩ hDi hpre hpost
 obtain ⟨r0, rfl⟩ := Has.ex (cC (hReg316.get 4 rfl (hpre 4 rfl)) (cC (hReg316.get 10 rfl (hpre 10 rfl)) cN))
 refine q_pick true (v := bool y117) (bool_yes h105) rfl ?_
 exact nl ⟨rfl, ⟨_, hG314, (Regs.step hReg316 hDi rfl rfl rfl rfl), hI315⟩⟩
 intro D r wd317 hall hR
 obtain ⟨G313, hG314, hReg316, hI315⟩ := hR
 obtain ⟨r0, rfl⟩ := Has.ex (cC (hReg316.ins.get 0 rfl) (cC (hReg316.ins.get 1 rfl) (cC (hReg316.ins.get 2 rfl) (cC (hReg316.ins.get 3 rfl) (cC (hReg316.ins.get 4 rfl) (cC (hReg316.get 5 rfl (hall 5 (Nat.le_of_ble_eq_true rfl))) (cC (hReg316.get 6 rfl (hall 6 (Nat.le_of_ble_eq_true rfl))) (cC (hReg316.get 7 rfl (hall 7 (Nat.le_of_ble_eq_true rfl))) (cC (hReg316.get 8 rfl (hall 8 (Nat.le_of_ble_eq_true rfl))) (cC (hReg316.get 9 rfl (hall 9 (Nat.le_of_ble_eq_true rfl))) (cC (hReg316.get 10 rfl (hall 10 (Nat.le_of_ble_eq_true rfl))) (cC (hReg316.get 11 rfl (hall 11 (Nat.le_of_ble_eq_true rfl))) cN))))))))))))
 cases H
 exact ⟨rfl, _, rfl, hG314, ⟨rfl, rfl, rfl, rfl, rfl, rfl, trivial⟩, hI315, trivial⟩
 replace H := iN h105 H
 refine wpc_drawL [0, 0, 2, 7, 15, 31, 31, 31, 223, 479, 1023, 2047] (fun D r w => (∃ (G' : Gh), G76 ≤ G' ∧ Regs [(0, func (.yield yl) #[] #[]), (1, pointer (some ⟨g2, 0, none⟩)), (2, pointer (some ⟨g9, 0, none⟩)), (4, int .i64 v16), (5, int .i64 v63)] [] [(0, 13, int .i64 v63), (1, 14, slice A4 a3.length c5), (2, 15, int .i64 (a3.length : Int)), (3, 16, bool (decide (v63 < (a3.length : Int)))), (4, 17, bool (decide (v63 < (a3.length : Int)))), (5, 18, undef), (6, 19, undef), (7, 20, undef), (8, 21, undef), (9, 22, undef), (10, 23, undef), (11, 24, bool false)] D r ∧ Hp G' (bx g2 [slice A4 a3.length c5] 124 :: bx g9 [func (.func 146) [].toArray [].toArray] 126 :: T17) w)) mixo rfl rfl ?_ ?_ ?_
 exact ⟨_, Gh.le_refl _, Regs.start ⟨rfl, rfl, rfl, rfl, rfl, trivial⟩ trivial, hI79.drew⟩
 refine ⟨?_, ?_, ?_, ?_, ?_, ?_, ?_, ?_, ?_, ?_, ?_, ?_, trivial⟩
 rintro D r wd322 ⟨G318, hG319, hReg321, hI320⟩ hDi hpre hpost
 obtain ⟨r0, rfl⟩ := Has.ex (cC (hReg321.ins.get 4 rfl) cN)
 refine q_mv (v := int .i64 v63) rfl ?_
 exact nl ⟨rfl, ⟨_, hG319, (Regs.step hReg321 hDi rfl rfl rfl rfl), hI320⟩⟩
 rintro D r wd322 ⟨G318, hG319, hReg321, hI320⟩ hDi hpre hpost
 obtain ⟨r0, rfl⟩ := Has.ex (cC (hReg321.ins.get 1 rfl) cN)
 refine q_ld hI320 0 (v := slice A4 a3.length c5) ag124 rfl rfl rfl ?_
 exact nl ⟨rfl, ⟨_, hG319, (Regs.step hReg321 hDi rfl rfl rfl rfl), hI320⟩⟩
 rintro D r wd322 ⟨G318, hG319, hReg321, hI320⟩ hDi hpre hpost
 obtain ⟨r0, rfl⟩ := Has.ex (cC (hReg321.get 1 rfl (hpre 1 rfl)) cN)
 refine q_len so124 rfl ?_
 exact nl ⟨rfl, ⟨_, hG319, (Regs.step hReg321 hDi rfl rfl rfl rfl), hI320⟩⟩
 rintro D r wd322 ⟨G318, hG319, hReg321, hI320⟩ hDi hpre hpost
 obtain ⟨r0, rfl⟩ := Has.ex (cC (hReg321.get 0 rfl (hpre 0 rfl)) (cC (hReg321.get 2 rfl (hpre 2 rfl)) cN))
 refine q_lss rfl rfl ?_
 exact nl ⟨rfl, ⟨_, hG319, (Regs.step hReg321 hDi rfl rfl rfl rfl), hI320⟩⟩
 rintro D r wd322 ⟨G318, hG319, hReg321, hI320⟩ hDi hpre hpost
 obtain ⟨r0, rfl⟩ := Has.ex (cC (hReg321.get 3 rfl (hpre 3 rfl)) cN)
 refine q_mv (v := bool (decide (v63 < (a3.length : Int)))) rfl ?_
 exact nl ⟨rfl, ⟨_, hG319, (Regs.step hReg321 hDi rfl rfl rfl rfl), hI320⟩⟩
 rintro D r wd322 ⟨G318, hG319, hReg321, hI320⟩ hDi hpre hpost
 obtain ⟨r0, rfl⟩ := Has.ex (cC (hReg321.get 4 rfl (hpre 4 rfl)) cN)
 refine wN (gN rfl rfl rfl (bool_no h105) rfl) ?_
 exact nl ⟨rfl, ⟨_, hG319, (Regs.step hReg321 hDi rfl rfl rfl rfl), hI320⟩⟩
 rintro D r wd322 ⟨G318, hG319, hReg321, hI320⟩ hDi hpre hpost
 obtain ⟨r0, rfl⟩ := Has.ex (cC (hReg321.get 4 rfl (hpre 4 rfl)) cN)
 refine wN (gN rfl rfl rfl (bool_no h105) rfl) ?_
 exact nl ⟨rfl, ⟨_, hG319, (Regs.step hReg321 hDi rfl rfl rfl rfl), hI320⟩⟩
 rintro D r wd322 ⟨G318, hG319, hReg321, hI320⟩ hDi hpre hpost
 obtain ⟨r0, rfl⟩ := Has.ex (cC (hReg321.get 4 rfl (hpre 4 rfl)) cN)
 refine wN (gN rfl rfl rfl (bool_no h105) rfl) ?_
 exact nl ⟨rfl, ⟨_, hG319, (Regs.step hReg321 hDi rfl rfl rfl rfl), hI320⟩⟩
 rintro D r wd322 ⟨G318, hG319, hReg321, hI320⟩ hDi hpre hpost
 obtain ⟨r0, rfl⟩ := Has.ex (cC (hReg321.get 4 rfl (hpre 4 rfl)) cN)
 refine wN (gN rfl rfl rfl (bool_no h105) rfl) ?_
 exact nl ⟨rfl, ⟨_, hG319, (Regs.step hReg321 hDi rfl rfl rfl rfl), hI320⟩⟩
 rintro D r wd322 ⟨G318, hG319, hReg321, hI320⟩ hDi hpre hpost
 obtain ⟨r0, rfl⟩ := Has.ex (cC (hReg321.get 4 rfl (hpre 4 rfl)) cN)
 refine wN (gN rfl rfl rfl (bool_no h105) rfl) ?_
 exact nl ⟨rfl, ⟨_, hG319, (Regs.step hReg321 hDi rfl rfl rfl rfl), hI320⟩⟩
 rintro D r wd322 ⟨G318, hG319, hReg321, hI320⟩ hDi hpre hpost
 obtain ⟨r0, rfl⟩ := Has.ex (cC (hReg321.get 4 rfl (hpre 4 rfl)) cN)
 refine wN (gN rfl rfl rfl (bool_no h105) rfl) ?_
 exact nl ⟨rfl, ⟨_, hG319, (Regs.step hReg321 hDi rfl rfl rfl rfl), hI320⟩⟩
 rintro D r wd322 ⟨G318, hG319, hReg321, hI320⟩ hDi hpre hpost
 obtain ⟨r0, rfl⟩ := Has.ex (cC (hReg321.get 4 rfl (hpre 4 rfl)) (cC (hReg321.get 10 rfl (hpre 10 rfl)) cN))
 refine q_pick false (v := bool false) (bool_no h105) rfl ?_
 exact nl ⟨rfl, ⟨_, hG319, (Regs.step hReg321 hDi rfl rfl rfl rfl), hI320⟩⟩
 intro D r wd322 hall hR
 obtain ⟨G318, hG319, hReg321, hI320⟩ := hR
 obtain ⟨r0, rfl⟩ := Has.ex (cC (hReg321.ins.get 0 rfl) (cC (hReg321.ins.get 1 rfl) (cC (hReg321.ins.get 2 rfl) (cC (hReg321.ins.get 3 rfl) (cC (hReg321.ins.get 4 rfl) (cC (hReg321.get 11 rfl (hall 11 (Nat.le_of_ble_eq_true rfl))) cN))))))
 cases H
 exact ⟨rfl, _, rfl, hG319, ⟨rfl, rfl, rfl, rfl, rfl, rfl, trivial⟩, hI320, trivial⟩
 clear hC
 rintro e r ds wd102 ⟨rfl, G100, rfl, hG101, hHas, hI103, _⟩
 rw [hHas.eq]; clear hHas
 refine hK83 _ _ _ ?_
 by_cases h323 : v99 = true
 replace H := iY h323 H
 refine wpc_true (bval_yes h323) ?_
 refine wpc_skip ?_
 refine hK81 _ _ _ ?_
 refine wpc_block ?_
 refine wpc_region ?_
 refine q_mv (v := int .i64 v63) rfl ?_
 refine q_add rfl rfl ?_
 refine q_as (v := int .i64 (w64 (v63 + 1))) rfl ?_
 refine nl ?_
 exact ih _ _ H _ _ _ (gT hG77 hG101) ⟨rfl, rfl, rfl, rfl, rfl, trivial⟩ hI103 rfl
 replace H := iN h323 H
 refine wpc_false (bval_no h323) ?_
 refine wpc_exit ?_
 cases H
 exact ⟨rfl, _, rfl, (gT hG77 hG101), ⟨rfl, rfl, rfl, rfl, rfl, trivial⟩, hI103, trivial⟩
 clear hC
 rintro e r ds wd73 ⟨rfl, G71, rfl, hG72, hHas, hI74, _⟩
 rw [hHas.eq]; clear hHas
 refine hK58 _ _ _ ?_
 refine sQ fun K324 hK325 => ?_
 refine sr fun K326 hK327 => ?_
 refine q_mv (v := int .i64 v70) rfl ?_
 refine q_mv (v := int .i64 v16) rfl ?_
 refine q_gtr rfl rfl ?_
 refine q_mv (v := bool (decide (v16 < v70))) rfl ?_
 obtain ⟨⟨v328, v330⟩, hC, H⟩ := bS H
 refine wpq_split 6 (K := fun e r ds w => e = .normal ∧ ∃ (T329 : List Itm) (G332 : Gh), ds = [] ∧ G71 ≤ G332 ∧ Has [(0, func (.yield yl) #[] #[]), (1, pointer (some ⟨g2, 0, none⟩)), (2, pointer (some ⟨g9, 0, none⟩)), (4, int .i64 v16), (5, int .i64 v70), (36, bool v328)] r ∧ Hp G332 (bx g2 [slice A4 a3.length c5] 124 :: bx g9 [func (.func 146) [].toArray [].toArray] 126 :: T329) w ∧ St v330 G332 T329 ∧ True) ?_ ?_
 replace H := hC
 by_cases h337 : v16 < v70
 replace H := iY h337 H
 refine q_mv (v := func (.yield yl) #[] #[]) rfl ?_ (hw := gY rfl rfl rfl (bool_yes h337))
 refine q_mv (v := int .i64 v16) rfl ?_ (hw := gY rfl rfl rfl (bool_yes h337))
 refine q_mv (v := int .i64 v70) rfl ?_ (hw := gY rfl rfl rfl (bool_yes h337))
 obtain ⟨⟨s338, b339⟩, hx340, H⟩ := bS H
 refine q_yl hy [bx g2 [slice A4 a3.length c5] 124, bx g9 [func (.func 146) [].toArray [].toArray] 126] hI74 (hy.mono hG72 hS19) rfl rfl ⟨_, _, rfl, ⟨_, rfl, rfl⟩, ⟨_, rfl, rfl⟩⟩ hx340 (fun wd341 G342 T343 hG344 hS345 hI346 => ?_) (hw := gY rfl rfl rfl (bool_yes h337))
 refine q_not rfl ?_ (hw := gY rfl rfl rfl (bool_yes h337))
 refine q_pick true (v := bool (!b339)) (bool_yes h337) rfl ?_
 refine nl ?_
 cases H
 exact ⟨rfl, T343, _, rfl, hG344, ⟨rfl, rfl, rfl, rfl, rfl, rfl, trivial⟩, hI346, hS345, trivial⟩
 replace H := iN h337 H
 refine wN (gN rfl rfl rfl (bool_no h337) rfl) ?_
 refine wN (gN rfl rfl rfl (bool_no h337) rfl) ?_
 refine wN (gN rfl rfl rfl (bool_no h337) rfl) ?_
 refine wN (gN rfl rfl rfl (bool_no h337) rfl) ?_
 refine wN (gN rfl rfl rfl (bool_no h337) rfl) ?_
 refine q_pick false (v := bool false) (bool_no h337) rfl ?_
 refine nl ?_
 cases H
 exact ⟨rfl, T17, _, rfl, gR, ⟨rfl, rfl, rfl, rfl, rfl, rfl, trivial⟩, hI74, (hy.mono hG72 hS19), trivial⟩
 clear hC
 rintro e r ds wd334 ⟨rfl, T329, G332, rfl, hG333, hHas, hI335, hS331, _⟩
 rw [hHas.eq]; clear hHas
 refine nl ?_
 refine hK327 _ _ _ ?_
 by_cases h347 : v328 = true
 replace H := iY h347 H
 refine wpc_true (bval_yes h347) ?_
 refine wpc_ret ?_
 cases H
 exact ⟨rfl, T329, _, rfl, (gT (gT hG45 hG72) hG333), trivial, hI335, hS331, trivial⟩
 replace H := iN h347 H
 refine wpc_false (bval_no h347) ?_
 refine wpc_skip ?_
 refine hK325 _ _ _ ?_
 refine wpc_region ?_
 refine q_mv (v := int .i64 v16) rfl ?_
 refine q_mv (v := int .i64 v70) rfl ?_
 refine q_max rfl rfl ?_
 refine q_as (v := int .i64 (max v16 v70)) rfl ?_
 refine nl ?_
 refine hK54 _ _ _ ?_
 refine wpc_region ?_
 refine q_mv (v := int .i64 (max v16 v70)) rfl ?_
 refine q_add rfl rfl ?_
 refine q_as (v := int .i64 (w64 ((max v16 v70) + 1))) rfl ?_
 refine nl ?_
 exact ih _ _ _ H T329 _ _ _ (gT (gT hG45 hG72) hG333) ⟨rfl, rfl, rfl, rfl, trivial⟩ hI335 hS331 rfl
 replace H := iN h52 H
 refine wpc_false (bool_no h52) ?_
 refine wpc_exit ?_
 cases H
 exact ⟨rfl, T17, _, rfl, hG45, trivial, hI47, hS19, trivial⟩
 clear hC
 rcases o43 with v30 | v33
 rintro e r ds wd37 ⟨rfl, T29, G35, rfl, hG36, hHas, hI38, hS31, _⟩
 rw [hHas.eq]; clear hHas
 cases H
 exact ⟨.inr rfl, rfl, _, rfl, T29, _, hG36, hI38, hS31, rfl⟩
 rintro e r ds wd41 ⟨rfl, T32, G39, rfl, hG40, hHas, hI42, hS34, _⟩
 rw [hHas.eq]; clear hHas
 cases H
 exact ⟨.inl rfl, rfl, _, rfl, T32, _, hG40, hI42, hS34, rfl⟩
set_option maxHeartbeats 1000000 in
theorem bidi_directions_1_k1_spec {a1 : Int} {a4 : List Int} {a17 : Int} {g3 : Nat} {A9 : Option Addr} {n10 : Nat} {c11 : Nat} {g16 : Nat} {r1056 : Int} {G : Gh} {L : List Itm} {w : World} (hI : Hp G (bx g3 [slice A9 n10 c11] 29 :: rwI G (Kd.int .i64) A9 [] a4 [] c11 3 :: bx g16 [int .i64 a17] 3 :: L) w) (hn12 : a4.length = n10) (hM13 : Mw A9 A9 ([] : List Int).length n10 c11 c11 1) (H : bidi_directions_1_k1 a1 a4 a17 = some r1056) :
    Calls Tryz.prog 144 [int .i64 a1, pointer (some ⟨g3, 0, none⟩), pointer (some ⟨g16, 0, none⟩)].toArray w fun e w' => ∃ (G' : Gh), G ≤ G' ∧ Hp G' (bx g3 [slice A9 n10 c11] 29 :: rwI G' (Kd.int .i64) A9 [] a4 [] c11 3 :: bx g16 [int .i64 a17] 3 :: L) w' ∧ e = .returned (int .i64 r1056) := by
 refine calls_intro (N := 18) Tryz.func144 rfl rfl (Nat.le_of_ble_eq_true rfl) ?_
 unfold bidi_directions_1_k1 at H
 refine sr fun K18 hK19 => ?_
 refine q_as (v := int .i64 0) rfl ?_
 refine nl ?_
 refine hK19 _ _ _ ?_
 refine sQ fun K20 hK21 => ?_
 refine sr fun K22 hK23 => ?_
 refine q_mv (v := int .i64 a1) rfl ?_
 refine q_lss rfl rfl ?_
 refine q_mv (v := bool (decide (a1 < 0))) rfl ?_
 obtain ⟨v24, hC, H⟩ := bS H
 refine wpq_split 5 (K := fun e r ds w => e = .normal ∧ ∃ (G25 : Gh), ds = [] ∧ G ≤ G25 ∧ Has [(0, int .i64 a1), (1, pointer (some ⟨g3, 0, none⟩)), (2, pointer (some ⟨g16, 0, none⟩)), (12, bool v24)] r ∧ Hp G25 (bx g3 [slice A9 n10 c11] 29 :: bx g16 [int .i64 a17] 3 :: rwI G (Kd.int .i64) A9 [] a4 [] c11 3 :: L) w ∧ True) ?_ ?_
 replace H := hC
 by_cases h30 : a1 < 0
 replace H := iY h30 H
 refine wN (gN rfl rfl rfl (bool_yes h30) rfl) ?_
 refine wN (gN rfl rfl rfl (bool_yes h30) rfl) ?_
 refine wN (gN rfl rfl rfl (bool_yes h30) rfl) ?_
 refine wN (gN rfl rfl rfl (bool_yes h30) rfl) ?_
 refine q_pick true (v := bool true) (bool_yes h30) rfl ?_
 refine nl ?_
 have hI31 := Hp.front hI 1 rfl
 have hI32 := Hp.front hI31 2 rfl
 have hI33 := Hp.front hI32 2 rfl
 cases H
 exact ⟨rfl, _, rfl, gR, ⟨rfl, rfl, rfl, rfl, trivial⟩, hI33, trivial⟩
 replace H := iN h30 H
 refine q_mv (v := int .i64 a1) rfl ?_ (hw := gY rfl rfl rfl (bool_no h30))
 refine q_ld hI 0 (v := slice A9 n10 c11) ag29 rfl rfl rfl ?_ (hw := gY rfl rfl rfl (bool_no h30))
 refine q_lenm so29 rfl hn12 ?_ (hw := gY rfl rfl rfl (bool_no h30))
 refine q_geq rfl rfl ?_ (hw := gY rfl rfl rfl (bool_no h30))
 refine q_pick false (v := bool (decide ((a4.length : Int) ≤ a1))) (bool_no h30) rfl ?_
 refine nl ?_
 have hI34 := Hp.front hI 1 rfl
 have hI35 := Hp.front hI34 2 rfl
 have hI36 := Hp.front hI35 2 rfl
 cases H
 exact ⟨rfl, _, rfl, gR, ⟨rfl, rfl, rfl, rfl, trivial⟩, hI36, trivial⟩
 clear hC
 rintro e r ds wd27 ⟨rfl, G25, rfl, hG26, hHas, hI28, _⟩
 rw [hHas.eq]; clear hHas
 refine nl ?_
 refine hK23 _ _ _ ?_
 by_cases h37 : v24 = true
 replace H := iY h37 H
 refine wpc_true (bval_yes h37) ?_
 refine sr fun K38 hK39 => ?_
 refine q_ld hI28 1 (v := int .i64 a17) ag3 rfl rfl rfl ?_
 refine q_as (v := int .i64 a17) rfl ?_
 refine nl ?_
 refine hK39 _ _ _ ?_
 refine wpc_ret ?_
 have hI40 := Hp.rwUp hI28 2 rfl hG26
 have hI41 := Hp.front hI40 1 rfl
 have hI42 := Hp.front hI41 2 rfl
 have hI43 := Hp.front hI42 2 rfl
 cases H
 exact ⟨.inr rfl, rfl, _, ⟨_, _, rfl, rfl, rfl⟩, _, hG26, hI43, rfl⟩
 replace H := iN h37 H
 refine wpc_false (bval_no h37) ?_
 refine wpc_skip ?_
 refine hK21 _ _ _ ?_
 refine sr fun K44 hK45 => ?_
 refine q_ld hI28 0 (v := slice A9 n10 c11) ag29 rfl rfl rfl ?_
 refine q_mv (v := int .i64 a1) rfl ?_
 obtain ⟨⟨h46, h46'⟩, H⟩ := iS H
 have hb47 := lt_n hn12 h46'
 obtain ⟨ad48, hA49⟩ := Mw.ad hM13 h46 hb47
 refine q_ia el29 rfl hA49 rfl h46 hb47 ?_
 obtain ⟨_, rfl, _, hc51⟩ := Hp.rwGet hI28 2 rfl hM13 hn12 hA49 (0 : Int) h46 hb47
 refine q_load1 (v := int .i64 (a4.getD (Int.toNat a1) (0 : Int))) ag3 rfl (cell0 (hc51 0 _ rfl)) ?_
 refine q_as (v := int .i64 (a4.getD (Int.toNat a1) (0 : Int))) rfl ?_
 refine nl ?_
 refine hK45 _ _ _ ?_
 refine wpc_ret ?_
 have hI52 := Hp.rwUp hI28 2 rfl hG26
 have hI53 := Hp.front hI52 1 rfl
 have hI54 := Hp.front hI53 2 rfl
 have hI55 := Hp.front hI54 2 rfl
 cases H
 exact ⟨.inr rfl, rfl, _, ⟨_, _, rfl, rfl, rfl⟩, _, hG26, hI55, rfl⟩
set_option maxHeartbeats 1000000 in
theorem bidi_fill_k1_spec {a1 : List Int} {a12 : Int} {A2 : Option Addr} {pre3 : List Int} {post4 : List Int} {A5 : Option Addr} {n6 : Nat} {c7 : Nat} {lim8 : Nat} {q1065 : List Int} {G : Gh} {L : List Itm} {w : World} (hI : Hp G (rwI G (Kd.int .i64) A2 pre3 a1 post4 lim8 3 :: L) w) (hn9 : a1.length = n6) (hM10 : Mw A2 A5 pre3.length n6 c7 lim8 1) (H : bidi_fill_k1 a1 a12 = some q1065) :
    Calls Tryz.prog 147 [slice A5 n6 c7, int .i64 a12].toArray w fun e w' => ∃ (G' : Gh), G ≤ G' ∧ Hp G' (rwI G' (Kd.int .i64) A2 pre3 q1065 post4 lim8 3 :: L) w' ∧ q1065.length = n6 ∧ e = .returned (tuple [].toArray) := by
 refine calls_intro (N := 15) Tryz.func147 rfl rfl (Nat.le_of_ble_eq_true rfl) ?_
 unfold bidi_fill_k1 at H
 refine sr fun K13 hK14 => ?_
 refine q_mv (v := slice A5 n6 c7) rfl ?_
 refine q_lenm so29 rfl hn9 ?_
 refine q_mv (v := int .i64 0) rfl ?_
 refine nl ?_
 refine hK14 _ _ _ ?_
 refine wpc_block ?_
 obtain ⟨v34, hC, H⟩ := bS H
 refine wpc_mono (Q := fun e r ds w => e = .exit 0 ∧ ∃ (Gr36 : Gh) (G38 : Gh), ds = [] ∧ G ≤ G38 ∧ Has [] r ∧ Hp G38 (rwI Gr36 (Kd.int .i64) A2 pre3 v34 post4 lim8 3 :: L) w ∧ v34.length = n6 ∧ Gr36 ≤ G38 ∧ True) ?_ ?_
 clear H
 refine wpc_loop fun I hLp => ?_
 refine bidi_fill_k1_l33.partial_correctness a1 a12 (fun v19 v21 o => ∀ (Gr22 : Gh) (G43 : Gh) (r : Rg) (w : World), G ≤ G43 → Has [(0, slice A5 n6 c7), (1, int .i64 a12), (6, int .i64 (a1.length : Int)), (7, int .i64 v21)] r → Hp G43 (rwI Gr22 (Kd.int .i64) A2 pre3 v19 post4 lim8 3 :: L) w → v19.length = n6 → Gr22 ≤ G43 → o = v34 → I r [] w) ?_ a1 0 _ hC G _ _ _ gR ⟨rfl, rfl, rfl, rfl, trivial⟩ hI hn9 gR rfl
 intro _ ih v19 v21 o H Gr22 G43 r wd45 hG44 hHas hI46 hn20 hGr23 ho
 rw [ho] at H; clear ho
 rw [hHas.eq]; clear hHas
 refine hLp _ _ _ ?_
 refine sr fun K47 hK48 => ?_
 refine q_lss rfl rfl ?_
 refine nl ?_
 refine hK48 _ _ _ ?_
 refine sQ fun K49 hK50 => ?_
 by_cases h51 : v21 < (a1.length : Int)
 replace H := iY h51 H
 refine wpc_true (bool_yes h51) ?_
 refine wpc_skip ?_
 refine hK50 _ _ _ ?_
 refine sQ fun K52 hK53 => ?_
 refine wpc_block ?_
 refine sr fun K54 hK55 => ?_
 refine q_mv (v := int .i64 v21) rfl ?_
 refine q_as (v := int .i64 v21) rfl ?_
 refine nl ?_
 refine hK55 _ _ _ ?_
 refine wpc_region ?_
 refine q_mv (v := slice A5 n6 c7) rfl ?_
 refine q_mv (v := int .i64 v21) rfl ?_
 refine q_mv (v := int .i64 a12) rfl ?_
 obtain ⟨⟨h56, h56'⟩, H⟩ := iS H
 have hb57 := lt_n hn9 h56'
 obtain ⟨ad58, hA59⟩ := Mw.ad hM10 h56 hb57
 refine q_ia el29 rfl hA59 rfl h56 hb57 ?_
 refine q_stm (kd := (Kd.int .i64)) hI46 0 (v := int .i64 a12) (news := [int .i64 a12]) (0 : Int) a12 ag3 rfl hM10 hn20 hA59 h56 hb57 (add_zero' _) rfl rfl rfl rfl rfl (Nat.le_of_ble_eq_true rfl) gR (fun _ ho => setAll_K ho rfl rfl) (fun wd60 hI61 => ?_)
 refine nl ?_
 refine hK53 _ _ _ ?_
 refine wpc_region ?_
 refine q_add rfl rfl ?_
 refine q_mv (v := int .i64 (w64 (v21 + 1))) rfl ?_
 refine nl ?_
 have hI62 := Hp.rwUp hI61 0 rfl hGr23
 exact ih _ _ _ H G43 _ _ _ hG44 ⟨rfl, rfl, rfl, rfl, trivial⟩ hI62 (set_len hn20) gR rfl
 replace H := iN h51 H
 refine wpc_false (bool_no h51) ?_
 refine wpc_exit ?_
 have hI63 := Hp.rwUp hI46 0 rfl hGr23
 cases H
 exact ⟨rfl, G43, _, rfl, hG44, trivial, hI63, hn20, gR, trivial⟩
 clear hC
 rintro e r ds wd40 ⟨rfl, Gr36, G38, rfl, hG39, hHas, hI41, hn35, hGr37, _⟩
 rw [hHas.eq]; clear hHas
 have hI64 := Hp.rwUp hI41 0 rfl hGr37
 cases H
 exact ⟨.inl rfl, rfl, _, rfl, _, hG39, hI64, hn35, rfl⟩
set_option maxHeartbeats 1000000 in
theorem bidi_directions_spec {a1 : ByteArray} {a2 : Int} {r1282 : List Int} {G : Gh} {L : List Itm} {w : World} (hI : Hp G (L) w) (H : bidi_directions a1 a2 = some r1282) :
    Calls Tryz.prog 128 [string a1, int .i64 a2].toArray w fun e w' => ∃ (A1283 : Option Addr) (n1284 : Nat) (c1285 : Nat) (G' : Gh), G ≤ G' ∧ Hp G' (rwI G' (Kd.int .i64) A1283 [] r1282 [] c1285 3 :: L) w' ∧ r1282.length = n1284 ∧ Mw A1283 A1283 ([] : List Int).length n1284 c1285 c1285 1 ∧ e = .returned (slice A1283 n1284 c1285) := by
 refine calls_intro_m (N := 59) Tryz.func128 rfl rfl (Nat.le_of_ble_eq_true rfl) ?_
 unfold bidi_directions at H
 refine sr fun K3 hK4 => ?_
 refine q_box hI (v := int .i64 a2) (vs := [int .i64 a2]) rfl rfl (fun g6 wd7 hI8 => ?_)
 refine q_as (v := slice none 0 0) rfl ?_
 refine nl ?_
 refine hK4 _ _ _ ?_
 refine sr fun K9 hK10 => ?_
 refine q_mv (v := string a1) rfl ?_
 refine q_lens so9 rfl ?_
 obtain ⟨⟨h11, h11', h11''⟩, H⟩ := iS H
 refine q_mks (kd := (Kd.int .i64)) (z := (0 : Int)) hI8 el29 ze3 rfl rfl rfl rfl h11 h11' h11'' (fun g13 n14 wd15 hn17 hI16 => ?_)
 refine q_alloc hI16 ze29 (fun g19 wd20 hI21 => ?_)
 refine q_stA hI21 0 (v := slice (some ⟨g13, 0, none⟩) n14 n14) (cs := [slice (some ⟨g13, 0, none⟩) n14 n14]) (vs' := [slice (some ⟨g13, 0, none⟩) n14 n14]) ag29 rfl rfl rfl rfl rfl rfl (Nat.le_of_ble_eq_true rfl) rfl (fun wd22 hI23 => ?_)
 refine nl ?_
 refine hK10 _ _ _ ?_
 refine sr fun K24 hK25 => ?_
 refine q_ld hI23 2 (v := int .i64 a2) ag3 rfl rfl rfl ?_
 refine q_as (v := int .i64 a2) rfl ?_
 refine nl ?_
 refine hK25 _ _ _ ?_
 refine sQ fun K26 hK27 => ?_
 refine sr fun K28 hK29 => ?_
 refine q_ld hI23 0 (v := slice (some ⟨g13, 0, none⟩) n14 n14) ag29 rfl rfl rfl ?_
 refine q_lenm so29 rfl hn17 ?_
 refine q_mv (v := int .i64 0) rfl ?_
 refine nl ?_
 refine hK29 _ _ _ ?_
 refine wpc_block ?_
 obtain ⟨v51, hC, H⟩ := bS H
 refine wpc_mono (Q := fun e r ds w => e = .exit 0 ∧ ∃ (Gr53 : Gh) (G55 : Gh), ds = (List.map Go.LG.mark ([] : List Nat)) ∧ G ≤ G55 ∧ Has [(0, string a1), (3, pointer (some ⟨g6, 0, none⟩)), (5, pointer (some ⟨g19, 0, none⟩))] r ∧ Hp G55 (bx g19 [slice (some ⟨g13, 0, none⟩) n14 n14] 29 :: bx g6 [int .i64 a2] 3 :: rwI Gr53 (Kd.int .i64) (some ⟨g13, 0, none⟩) [] v51 [] n14 3 :: (List.map mkI ([] : List Nat) ++ L)) w ∧ v51.length = n14 ∧ Gr53 ≤ G55 ∧ True) ?_ ?_
 clear H
 have hI123 := Hp.front hI23 1 rfl
 have hI124 := Hp.front hI123 2 rfl
 have hI125 := Hp.front hI124 2 rfl
 refine wpc_loop fun I hLp => ?_
 refine bidi_directions_l50.partial_correctness a1 (fun v34 v36 v37 o => ∀ (Gr38 : Gh) (G60 : Gh) (r : Rg) (w : World), G ≤ G60 → Has [(0, string a1), (3, pointer (some ⟨g6, 0, none⟩)), (5, pointer (some ⟨g19, 0, none⟩)), (6, int .i64 v36), (18, int .i64 ((List.replicate (Int.toNat (a1.size : Int)) (0 : Int)).length : Int)), (19, int .i64 v37)] r → Hp G60 (bx g19 [slice (some ⟨g13, 0, none⟩) n14 n14] 29 :: bx g6 [int .i64 a2] 3 :: rwI Gr38 (Kd.int .i64) (some ⟨g13, 0, none⟩) [] v34 [] n14 3 :: (List.map mkI ([] : List Nat) ++ L)) w → v34.length = n14 → Gr38 ≤ G60 → o = v51 → I r (List.map Go.LG.mark ([] : List Nat)) w) ?_ (List.replicate (Int.toNat (a1.size : Int)) (0 : Int)) a2 0 _ hC G _ _ _ gR ⟨rfl, rfl, rfl, rfl, rfl, rfl, trivial⟩ hI125 hn17 gR rfl
 intro _ ih v34 v36 v37 o H Gr38 G60 r wd62 hG61 hHas hI63 hn35 hGr39 ho
 rw [ho] at H; clear ho
 rw [hHas.eq]; clear hHas
 refine hLp _ _ _ ?_
 refine sr fun K64 hK65 => ?_
 refine q_lss rfl rfl ?_
 refine nl ?_
 refine hK65 _ _ _ ?_
 refine sQ fun K66 hK67 => ?_
 by_cases h68 : v37 < ((List.replicate (Int.toNat (a1.size : Int)) (0 : Int)).length : Int)
 replace H := iY h68 H
 refine wpc_true (bool_yes h68) ?_
 refine wpc_skip ?_
 refine hK67 _ _ _ ?_
 refine sQ fun K69 hK70 => ?_
 obtain ⟨⟨v71, v73⟩, hC, H⟩ := bS H
 refine wpc_mono (Q := fun e r ds w => e = .normal ∧ ∃ (Gr74 : Gh) (G76 : Gh), ds = (List.map Go.LG.mark ([] : List Nat)) ∧ G60 ≤ G76 ∧ Has [(0, string a1), (3, pointer (some ⟨g6, 0, none⟩)), (5, pointer (some ⟨g19, 0, none⟩)), (6, int .i64 v73), (18, int .i64 ((List.replicate (Int.toNat (a1.size : Int)) (0 : Int)).length : Int)), (19, int .i64 v37)] r ∧ Hp G76 (bx g19 [slice (some ⟨g13, 0, none⟩) n14 n14] 29 :: bx g6 [int .i64 a2] 3 :: rwI Gr74 (Kd.int .i64) (some ⟨g13, 0, none⟩) [] v71 [] n14 3 :: (List.map mkI ([] : List Nat) ++ L)) w ∧ v71.length = n14 ∧ Gr74 ≤ G76 ∧ True) ?_ ?_
 replace H := hC
 refine wpc_block ?_
 refine sr fun K81 hK82 => ?_
 refine q_mv (v := int .i64 v37) rfl ?_
 refine q_as (v := int .i64 v37) rfl ?_
 refine nl ?_
 refine hK82 _ _ _ ?_
 refine sQ fun K83 hK84 => ?_
 refine sr fun K85 hK86 => ?_
 refine q_mv (v := string a1) rfl ?_
 refine q_mv (v := int .i64 v37) rfl ?_
 obtain ⟨⟨h87, h87'⟩, H⟩ := iS H
 refine q_is so9 rfl rfl h87 h87' rfl ?_
 obtain ⟨y93, hy88, H⟩ := bS H
 refine q_cv (vs := [int .u8 (bt a1 v37)]) bo49 rfl rfl (text_Class_spec (a1 := bt a1 v37) hI63 hy88) ?_
 rintro _ wd91 ⟨G89, hG90, hI92, rfl⟩
 refine ⟨_, rfl, ?_⟩
 refine nl ?_
 refine hK86 _ _ _ ?_
 refine wpc_block ?_
 refine sr fun K94 hK95 => ?_
 refine q_eql rfl rfl ?_
 refine q_as (v := bool (decide (y93 = 1))) rfl ?_
 refine nl ?_
 refine hK95 _ _ _ ?_
 by_cases h96 : y93 = 1
 replace H := iY h96 H
 refine wpc_true (bool_yes h96) ?_
 refine wpc_region ?_
 refine q_as (v := int .i64 0) rfl ?_
 refine nl ?_
 refine hK84 _ _ _ ?_
 refine wpc_region ?_
 refine q_ld hI92 0 (v := slice (some ⟨g13, 0, none⟩) n14 n14) ag29 rfl rfl rfl ?_
 refine q_mv (v := int .i64 v37) rfl ?_
 refine q_mv (v := int .i64 0) rfl ?_
 obtain ⟨⟨h97, h97'⟩, H⟩ := iS H
 have hb98 := lt_n hn17 h97'
 obtain ⟨ad99, hA100⟩ := Mw.ad (Mw.new (α := Int) g13 n14 1) h97 hb98
 refine q_ia el29 rfl hA100 rfl h97 hb98 ?_
 refine q_stm (kd := (Kd.int .i64)) hI92 2 (v := int .i64 0) (news := [int .i64 0]) (0 : Int) 0 ag3 rfl (Mw.new (α := Int) g13 n14 1) hn35 hA100 h97 hb98 (add_zero' _) rfl rfl rfl rfl rfl (Nat.le_of_ble_eq_true rfl) gR (fun _ ho => setAll_K ho rfl rfl) (fun wd101 hI102 => ?_)
 refine nl ?_
 have hI103 := Hp.rwUp hI102 2 rfl (gT hGr39 hG90)
 cases H
 exact ⟨rfl, G89, _, rfl, hG90, ⟨rfl, rfl, rfl, rfl, rfl, rfl, trivial⟩, hI103, (set_len hn35), gR, trivial⟩
 replace H := iN h96 H
 refine wpc_false (bool_no h96) ?_
 refine sr fun K104 hK105 => ?_
 refine q_eql rfl rfl ?_
 refine q_as (v := bool (decide (y93 = 2))) rfl ?_
 refine nl ?_
 refine hK105 _ _ _ ?_
 by_cases h106 : y93 = 2
 replace H := iY h106 H
 refine wpc_true (bool_yes h106) ?_
 refine wpc_region ?_
 refine q_as (v := int .i64 1) rfl ?_
 refine nl ?_
 refine hK84 _ _ _ ?_
 refine wpc_region ?_
 refine q_ld hI92 0 (v := slice (some ⟨g13, 0, none⟩) n14 n14) ag29 rfl rfl rfl ?_
 refine q_mv (v := int .i64 v37) rfl ?_
 refine q_mv (v := int .i64 1) rfl ?_
 obtain ⟨⟨h107, h107'⟩, H⟩ := iS H
 have hb108 := lt_n hn17 h107'
 obtain ⟨ad109, hA110⟩ := Mw.ad (Mw.new (α := Int) g13 n14 1) h107 hb108
 refine q_ia el29 rfl hA110 rfl h107 hb108 ?_
 refine q_stm (kd := (Kd.int .i64)) hI92 2 (v := int .i64 1) (news := [int .i64 1]) (0 : Int) 1 ag3 rfl (Mw.new (α := Int) g13 n14 1) hn35 hA110 h107 hb108 (add_zero' _) rfl rfl rfl rfl rfl (Nat.le_of_ble_eq_true rfl) gR (fun _ ho => setAll_K ho rfl rfl) (fun wd111 hI112 => ?_)
 refine nl ?_
 have hI113 := Hp.rwUp hI112 2 rfl (gT hGr39 hG90)
 cases H
 exact ⟨rfl, G89, _, rfl, hG90, ⟨rfl, rfl, rfl, rfl, rfl, rfl, trivial⟩, hI113, (set_len hn35), gR, trivial⟩
 replace H := iN h106 H
 refine wpc_false (bool_no h106) ?_
 refine wpc_skip ?_
 refine hK84 _ _ _ ?_
 refine wpc_region ?_
 refine q_ld hI92 0 (v := slice (some ⟨g13, 0, none⟩) n14 n14) ag29 rfl rfl rfl ?_
 refine q_mv (v := int .i64 v37) rfl ?_
 refine q_mv (v := int .i64 v36) rfl ?_
 obtain ⟨⟨h114, h114'⟩, H⟩ := iS H
 have hb115 := lt_n hn17 h114'
 obtain ⟨ad116, hA117⟩ := Mw.ad (Mw.new (α := Int) g13 n14 1) h114 hb115
 refine q_ia el29 rfl hA117 rfl h114 hb115 ?_
 refine q_stm (kd := (Kd.int .i64)) hI92 2 (v := int .i64 v36) (news := [int .i64 v36]) (0 : Int) v36 ag3 rfl (Mw.new (α := Int) g13 n14 1) hn35 hA117 h114 hb115 (add_zero' _) rfl rfl rfl rfl rfl (Nat.le_of_ble_eq_true rfl) gR (fun _ ho => setAll_K ho rfl rfl) (fun wd118 hI119 => ?_)
 refine nl ?_
 have hI120 := Hp.rwUp hI119 2 rfl (gT hGr39 hG90)
 cases H
 exact ⟨rfl, G89, _, rfl, hG90, ⟨rfl, rfl, rfl, rfl, rfl, rfl, trivial⟩, hI120, (set_len hn35), gR, trivial⟩
 clear hC
 rintro e r ds wd78 ⟨rfl, Gr74, G76, rfl, hG77, hHas, hI79, hn72, hGr75, _⟩
 rw [hHas.eq]; clear hHas
 refine hK70 _ _ _ ?_
 refine wpc_region ?_
 refine q_add rfl rfl ?_
 refine q_mv (v := int .i64 (w64 (v37 + 1))) rfl ?_
 refine nl ?_
 have hI121 := Hp.rwUp hI79 2 rfl hGr75
 exact ih _ _ _ _ H G76 _ _ _ (gT hG61 hG77) ⟨rfl, rfl, rfl, rfl, rfl, rfl, trivial⟩ hI121 hn72 gR rfl
 replace H := iN h68 H
 refine wpc_false (bool_no h68) ?_
 refine wpc_exit ?_
 have hI122 := Hp.rwUp hI63 2 rfl hGr39
 cases H
 exact ⟨rfl, G60, _, rfl, hG61, ⟨rfl, rfl, rfl, trivial⟩, hI122, hn35, gR, trivial⟩
 clear hC
 rintro e r ds wd57 ⟨rfl, Gr53, G55, rfl, hG56, hHas, hI58, hn52, hGr54, _⟩
 rw [hHas.eq]; clear hHas
 refine hK27 _ _ _ ?_
 refine sr fun K126 hK127 => ?_
 refine q_fn (vs := []) (us := [pointer (some ⟨g19, 0, none⟩), pointer (some ⟨g6, 0, none⟩)]) rfl rfl ?_
 refine q_alloc hI58 ze184 (fun g129 wd130 hI131 => ?_)
 refine q_stA hI131 0 (v := func (.func 144) [].toArray [pointer (some ⟨g19, 0, none⟩), pointer (some ⟨g6, 0, none⟩)].toArray) (cs := [func (.func 144) [].toArray [pointer (some ⟨g19, 0, none⟩), pointer (some ⟨g6, 0, none⟩)].toArray]) (vs' := [func (.func 144) [].toArray [pointer (some ⟨g19, 0, none⟩), pointer (some ⟨g6, 0, none⟩)].toArray]) ag184 rfl rfl rfl rfl rfl rfl (Nat.le_of_ble_eq_true rfl) rfl (fun wd132 hI133 => ?_)
 refine nl ?_
 refine hK127 _ _ _ ?_
 refine sQ fun K134 hK135 => ?_
 refine sr fun K136 hK137 => ?_
 refine q_mv (v := string a1) rfl ?_
 refine q_cbs hI133 so9 el124 ik5 rfl (fun A138 c139 G140 wd141 hG142 hl143 hD144 hI145 => ?_)
 obtain ⟨y153, hy146, H⟩ := bS H
 refine q_cv (vs := [slice A138 (sbytes a1).length c139, func (.func 146) [].toArray [].toArray]) bo145 rfl rfl (bidi_runs_byte_k1_spec (a1 := sbytes a1) hI145 hl143 hD144 hy146) ?_
 rintro _ wd149 ⟨g152, A154, c155, g159, G147, hG148, hI150, hl156, hD157, rfl⟩
 refine ⟨_, rfl, ?_⟩
 refine nl ?_
 refine hK137 _ _ _ ?_
 refine wpc_block ?_
 have hI160 := Hp.rwUp hI150 5 rfl (gT hGr54 (gT hG142 hG148))
 obtain ⟨⟨v162, jo172⟩, hr259, H⟩ := bS H
 refine wpc_range hI160 bo158 rfl (fun fn tmps gl gd161 wd280 hA256 hI257 => ?_)
 have hY258 : Yl Tryz.prog (rnd (fun (u : (List Int)) (x : Int × Int) => bidi_directions_r170 a1 a2 u x.1 x.2)) (encP (enc1 (Kd.int .i64)) (enc1 (Kd.int .i64))) _ gl := yl_intro (pp := [39, 40]) (gdd := gd161) hI257 (fun (u : (List Int)) (x : Int × Int) => bidi_directions_r170 a1 a2 u x.1 x.2) [] (fun (u : (List Int)) (G' : Gh) (K : List Itm) => ∃ (Gr164 : Gh) (_ : G147 ≤ G'), K = bx g129 [func (.func 144) [].toArray [pointer (some ⟨g19, 0, none⟩), pointer (some ⟨g6, 0, none⟩)].toArray] 184 :: bx g19 [slice (some ⟨g13, 0, none⟩) n14 n14] 29 :: bx g6 [int .i64 a2] 3 :: rwI Gr164 (Kd.int .i64) (some ⟨g13, 0, none⟩) [] u [] n14 3 :: (List.map mkI (gd161 :: ([] : List Nat)) ++ L) ∧ u.length = n14 ∧ Gr164 ≤ G' ∧ True) hA256 (fun _ _ _ h => (fun h => encP_len (fun h => enc1_len h) (fun h => enc1_len h) h) h) (fun hG' ⟨Gr164, h0', hK', hn163, hGr165, _⟩ => ⟨Gr164, gT h0' hG', hK', hn163, (gT hGr165 hG'), trivial⟩) (by
 rintro Rd Bs v162 u' ⟨x178, x180⟩ jo' G174 K M wd176 vs ⟨Gr164, hG175, rfl, hn163, hGr165, _⟩ ⟨_, _, rfl, ⟨_, rfl, hv179⟩, ⟨_, rfl, hv181⟩⟩ H hI182
 cases hv179
 cases hv181
 replace H : bidi_directions_r170 a1 a2 v162 x178 x180 = some (u', jo') := H
 unfold bidi_directions_r170 at H
 refine sr fun K183 hK184 => ?_
 refine q_as (v := int .i64 x178) rfl ?_
 refine nl ?_
 refine hK184 _ _ _ ?_
 refine wpc_region ?_
 refine q_as (v := int .i64 x180) rfl ?_
 refine nl ?_
 refine ⟨rfl, rfl, _, _, gR, hI182, fun wd186 hI185 => ?_⟩
 refine wpc_block ?_
 refine sr fun K187 hK188 => ?_
 refine q_ld hI185 3 (v := int .i64 a2) ag3 rfl rfl rfl ?_
 refine q_as (v := int .i64 a2) rfl ?_
 refine nl ?_
 refine hK188 _ _ _ ?_
 refine sQ fun K189 hK190 => ?_
 refine sr fun K191 hK192 => ?_
 refine q_ld hI185 1 (v := func (.func 144) [].toArray [pointer (some ⟨g19, 0, none⟩), pointer (some ⟨g6, 0, none⟩)].toArray) ag184 rfl rfl rfl ?_
 refine q_mv (v := int .i64 x178) rfl ?_
 refine q_sub rfl rfl ?_
 have hI193 := Hp.rwUp hI185 4 rfl hGr165
 have hI194 := Hp.front hI193 1 rfl
 have hI195 := Hp.front hI194 1 rfl
 have hI196 := Hp.front hI195 3 rfl
 have hI197 := Hp.front hI196 4 rfl
 have hI198 := Hp.front hI197 4 rfl
 obtain ⟨y204, hy199, H⟩ := bS H
 refine q_cv (vs := [int .i64 (w64 (x178 - 1)), pointer (some ⟨g19, 0, none⟩), pointer (some ⟨g6, 0, none⟩)]) bo144 rfl rfl (bidi_directions_1_k1_spec (a1 := w64 (x178 - 1)) (a4 := v162) (a17 := a2) hI198 hn163 (Mw.new (α := Int) g13 n14 1) hy199) ?_
 rintro _ wd202 ⟨G200, hG201, hI203, rfl⟩
 refine ⟨_, rfl, ?_⟩
 refine q_as (v := int .i64 y204) rfl ?_
 refine nl ?_
 refine hK192 _ _ _ ?_
 refine sr fun K205 hK206 => ?_
 refine q_mv (v := int .i64 y204) rfl ?_
 refine q_ld hI203 4 (v := func (.func 144) [].toArray [pointer (some ⟨g19, 0, none⟩), pointer (some ⟨g6, 0, none⟩)].toArray) ag184 rfl rfl rfl ?_
 refine q_mv (v := int .i64 x180) rfl ?_
 obtain ⟨y212, hy207, H⟩ := bS H
 refine q_cv (vs := [int .i64 x180, pointer (some ⟨g19, 0, none⟩), pointer (some ⟨g6, 0, none⟩)]) bo144 rfl rfl (bidi_directions_1_k1_spec (a1 := x180) (a4 := v162) (a17 := a2) hI203 hn163 (Mw.new (α := Int) g13 n14 1) hy207) ?_
 rintro _ wd210 ⟨G208, hG209, hI211, rfl⟩
 refine ⟨_, rfl, ?_⟩
 refine q_eql rfl rfl ?_
 refine nl ?_
 refine hK206 _ _ _ ?_
 by_cases h213 : y204 = y212
 replace H := iY h213 H
 refine wpc_true (bool_yes h213) ?_
 refine wpc_region ?_
 refine q_mv (v := int .i64 y204) rfl ?_
 refine q_as (v := int .i64 y204) rfl ?_
 refine nl ?_
 refine hK190 _ _ _ ?_
 refine wpc_region ?_
 refine q_ld hI211 0 (v := slice (some ⟨g13, 0, none⟩) n14 n14) ag29 rfl rfl rfl ?_
 refine q_mv (v := int .i64 x178) rfl ?_
 refine q_mv (v := int .i64 x180) rfl ?_
 obtain ⟨⟨h214, h215, h216⟩, H⟩ := iS H
 refine q_sl (l := x178) (h := x180) el29 rfl (.inr ⟨_, rfl, rfl⟩) (.inr ⟨_, rfl, rfl⟩) (Mw.new (α := Int) g13 n14 1).le h214 h215 (le_n hn17 h216) ?_
 refine q_mv (v := int .i64 y204) rfl ?_
 have hI217 := Hp.rwRe hI211 1 rfl (win_eq v162 [] [] h214 h215 (le_t hn163 hn17 h216))
 have hI218 := Hp.front hI217 4 rfl
 have hI219 := Hp.front hI218 4 rfl
 have hI220 := Hp.front hI219 4 rfl
 have hI221 := Hp.front hI220 3 rfl
 have hI222 := Hp.front hI221 4 rfl
 obtain ⟨y228, hy223, H⟩ := bS H
 refine q_cv (vs := [slice (if n14 = Int.toNat x178 then (some ⟨g13, 0, none⟩) else Option.map (fun a => Addr.add a (Int.toNat x178 * 1)) (some ⟨g13, 0, none⟩)) (Int.toNat x180 - Int.toNat x178) (n14 - Int.toNat x178), int .i64 y204]) bo147 rfl rfl (bidi_fill_k1_spec (a1 := cutl v162 x178 x180) (a12 := y204) hI222 (cut_len h214 h215 (le_t hn163 hn17 h216)) (Mw.win (kd := (Kd.int .i64)) (A := (some ⟨g13, 0, none⟩)) (c := n14) (pre := []) (Mw.new (α := Int) g13 n14 1) hn163 h214 h215 (le_t hn163 hn17 h216)) hy223) ?_
 rintro _ wd226 ⟨G224, hG225, hI227, hn229, rfl⟩
 refine ⟨_, rfl, ?_⟩
 have hI230 := Hp.rwRe hI227 0 rfl (unwin_eq v162 [] [] y228 x178 x180)
 refine nl ?_
 have hI231 := Hp.front hI230 2 rfl
 have hI232 := Hp.front hI231 2 rfl
 have hI233 := Hp.front hI232 4 rfl
 have hI234 := Hp.front hI233 4 rfl
 cases H
 exact ⟨rfl, _, _, (gT (gT hG201 hG209) hG225), ⟨G224, (gT (gT (gT hG175 hG201) hG209) hG225), rfl, (unwin_len hn163 h214 h215 (le_t hn163 hn17 h216) hn229), gR, trivial⟩, hI234⟩
 replace H := iN h213 H
 refine wpc_false (bool_no h213) ?_
 refine wpc_skip ?_
 refine hK190 _ _ _ ?_
 refine wpc_region ?_
 refine q_ld hI211 0 (v := slice (some ⟨g13, 0, none⟩) n14 n14) ag29 rfl rfl rfl ?_
 refine q_mv (v := int .i64 x178) rfl ?_
 refine q_mv (v := int .i64 x180) rfl ?_
 obtain ⟨⟨h235, h236, h237⟩, H⟩ := iS H
 refine q_sl (l := x178) (h := x180) el29 rfl (.inr ⟨_, rfl, rfl⟩) (.inr ⟨_, rfl, rfl⟩) (Mw.new (α := Int) g13 n14 1).le h235 h236 (le_n hn17 h237) ?_
 refine q_mv (v := int .i64 a2) rfl ?_
 have hI238 := Hp.rwRe hI211 1 rfl (win_eq v162 [] [] h235 h236 (le_t hn163 hn17 h237))
 have hI239 := Hp.front hI238 4 rfl
 have hI240 := Hp.front hI239 4 rfl
 have hI241 := Hp.front hI240 4 rfl
 have hI242 := Hp.front hI241 3 rfl
 have hI243 := Hp.front hI242 4 rfl
 obtain ⟨y249, hy244, H⟩ := bS H
 refine q_cv (vs := [slice (if n14 = Int.toNat x178 then (some ⟨g13, 0, none⟩) else Option.map (fun a => Addr.add a (Int.toNat x178 * 1)) (some ⟨g13, 0, none⟩)) (Int.toNat x180 - Int.toNat x178) (n14 - Int.toNat x178), int .i64 a2]) bo147 rfl rfl (bidi_fill_k1_spec (a1 := cutl v162 x178 x180) (a12 := a2) hI243 (cut_len h235 h236 (le_t hn163 hn17 h237)) (Mw.win (kd := (Kd.int .i64)) (A := (some ⟨g13, 0, none⟩)) (c := n14) (pre := []) (Mw.new (α := Int) g13 n14 1) hn163 h235 h236 (le_t hn163 hn17 h237)) hy244) ?_
 rintro _ wd247 ⟨G245, hG246, hI248, hn250, rfl⟩
 refine ⟨_, rfl, ?_⟩
 have hI251 := Hp.rwRe hI248 0 rfl (unwin_eq v162 [] [] y249 x178 x180)
 refine nl ?_
 have hI252 := Hp.front hI251 2 rfl
 have hI253 := Hp.front hI252 2 rfl
 have hI254 := Hp.front hI253 4 rfl
 have hI255 := Hp.front hI254 4 rfl
 cases H
 exact ⟨rfl, _, _, (gT (gT hG201 hG209) hG246), ⟨G245, (gT (gT (gT hG175 hG201) hG209) hG246), rfl, (unwin_len hn163 h235 h236 (le_t hn163 hn17 h237) hn250), gR, trivial⟩, hI255⟩)
 have hI281 := Hp.sink (A := [bx g152 [slice A154 y153.length c155] 124, bx g159 [func (.func 146) [].toArray [].toArray] 126]) (K := [bx g129 [func (.func 144) [].toArray [pointer (some ⟨g19, 0, none⟩), pointer (some ⟨g6, 0, none⟩)].toArray] 184, bx g19 [slice (some ⟨g13, 0, none⟩) n14 n14] 29, bx g6 [int .i64 a2] 3, rwI G147 (Kd.int .i64) (some ⟨g13, 0, none⟩) [] v51 [] n14 3]) hI257
 refine (bidi_runs_1_byte_k1_spec (sy := (v51, none)) hI281 hl156 hD157 hY258 ⟨_, rfl, G147, Gh.le_refl _, rfl, hn52, gR, trivial⟩ hr259).mono ?_
 rintro _ wd262 ⟨T266, G260, hG2610, hI263, ⟨K, rfl, Gr164, hG261, rfl, hn163, hGr165, _⟩, rfl⟩
 have hH268 := Hp.front hI263 2 rfl
 rcases jo172 with _ | j
 refine ⟨_, rfl, LoopState.ready, none, G260, _, (fun h => nomatch h), hH268, fun wd264 hI265 => ?_⟩
 refine hK135 _ _ _ ?_
 refine sr fun K273 hK274 => ?_
 refine q_ld hI265 3 (v := slice (some ⟨g13, 0, none⟩) n14 n14) ag29 rfl rfl rfl ?_
 refine q_as (v := slice (some ⟨g13, 0, none⟩) n14 n14) rfl ?_
 refine nl ?_
 refine hK274 _ _ _ ?_
 refine wpc_ret ?_
 refine ⟨.inr rfl, (gd161 :: ([] : List Nat)), _, _, rfl, Hp.marks (K := [bx g152 [slice A154 y153.length c155] 124, bx g159 [func (.func 146) [].toArray [].toArray] 126, bx g129 [func (.func 144) [].toArray [pointer (some ⟨g19, 0, none⟩), pointer (some ⟨g6, 0, none⟩)].toArray] 184, bx g19 [slice (some ⟨g13, 0, none⟩) n14 n14] 29, bx g6 [int .i64 a2] 3, rwI Gr164 (Kd.int .i64) (some ⟨g13, 0, none⟩) [] v162 [] n14 3]) hI265, fun wd276 hI275 => ?_⟩
 have hI277 := Hp.rwUp hI275 5 rfl hGr165
 have hI278 := Hp.front hI277 5 rfl
 have hI279 := Hp.sub hI278 (sk (sd (sd (sd (sd (sd se))))))
 cases H
 exact ⟨_, ⟨_, _, rfl, rfl, rfl⟩, (some ⟨g13, 0, none⟩), n14, n14, _, (gT (gT (gT hG56 hG142) hG148) hG261), hI279, hn163, (Mw.new (α := Int) g13 n14 1), rfl⟩
 cases H
set_option maxHeartbeats 1000000 in
theorem bidi_Levels_spec {a1 : ByteArray} {a2 : Int} {r1147 : List Int} {r1154 : Int} {G : Gh} {L : List Itm} {w : World} (hI : Hp G (L) w) (H : bidi_Levels a1 a2 = some (r1147, r1154)) :
    Calls Tryz.prog 100 [string a1, int .i64 a2].toArray w fun e w' => ∃ (A1148 : Option Addr) (n1149 : Nat) (c1150 : Nat) (G' : Gh), G ≤ G' ∧ Hp G' (rwI G' (Kd.int .i64) A1148 [] r1147 [] c1150 3 :: L) w' ∧ r1147.length = n1149 ∧ Mw A1148 A1148 ([] : List Int).length n1149 c1150 c1150 1 ∧ e = .returned (tuple [slice A1148 n1149 c1150, int .i64 r1154].toArray) := by
 refine calls_intro (N := 49) Tryz.func100 rfl rfl (Nat.le_of_ble_eq_true rfl) ?_
 unfold bidi_Levels at H
 refine sr fun K3 hK4 => ?_
 refine q_as (v := slice none 0 0) rfl ?_
 refine q_as (v := int .i64 0) rfl ?_
 refine nl ?_
 refine hK4 _ _ _ ?_
 refine sQ fun K5 hK6 => ?_
 refine sr fun K7 hK8 => ?_
 refine q_mv (v := string a1) rfl ?_
 refine q_mv (v := int .i64 a2) rfl ?_
 obtain ⟨y14, hy9, H⟩ := bS H
 refine q_cv (vs := [string a1, int .i64 a2]) bo127 rfl rfl (bidi_isLine_spec (a1 := a1) (a2 := a2) hI hy9) ?_
 rintro _ wd12 ⟨G10, hG11, hI13, rfl⟩
 refine ⟨_, rfl, ?_⟩
 refine q_not rfl ?_
 refine nl ?_
 refine hK8 _ _ _ ?_
 by_cases h15 : (!y14) = true
 replace H := iY h15 H
 refine wpc_true (bval_yes h15) ?_
 refine sr fun K16 hK17 => ?_
 refine q_as (v := slice none 0 0) rfl ?_
 refine q_as (v := int .i64 1) rfl ?_
 refine nl ?_
 refine hK17 _ _ _ ?_
 refine wpc_ret ?_
 have hI18 := Hp.emp hI13
 cases H
 exact ⟨.inr rfl, rfl, _, ⟨_, _, rfl, rfl, ⟨_, _, rfl, rfl, rfl⟩⟩, none, 0, 0, _, hG11, hI18, rfl, ⟨.inl rfl, Nat.le_refl _⟩, rfl⟩
 replace H := iN h15 H
 refine wpc_false (bval_no h15) ?_
 refine wpc_skip ?_
 refine hK6 _ _ _ ?_
 refine sr fun K20 hK21 => ?_
 refine q_buildA (vs := [(0, int .i64 0), (1, int .i64 1)]) (cs := [int .i64 0, int .i64 1]) ze173 ar173 rfl rfl ?_
 refine q_buildA (vs := [(0, int .i64 2), (1, int .i64 1)]) (cs := [int .i64 2, int .i64 1]) ze173 ar173 rfl rfl ?_
 refine q_buildA (vs := [(0, agg [int .i64 0, int .i64 1].toArray), (1, agg [int .i64 2, int .i64 1].toArray)]) (cs := [int .i64 0, int .i64 1, int .i64 2, int .i64 1]) ze174 ar174 rfl rfl ?_
 refine q_alloc hI13 ze174 (fun g23 wd24 hI25 => ?_)
 have hI26 : Hp G10 (bx g23 (List.map (int .i64) (List.replicate 4 0 : List Int)) 174 :: L) _ := hI25
 refine q_stA hI26 0 (v := agg [int .i64 0, int .i64 1, int .i64 2, int .i64 1].toArray) (cs := [int .i64 0, int .i64 1, int .i64 2, int .i64 1]) (vs' := [int .i64 0, int .i64 1, int .i64 2, int .i64 1]) ag174 rfl rfl rfl rfl rfl rfl (Nat.le_of_ble_eq_true rfl) rfl (fun wd27 hI28 => ?_)
 have hI29 : Hp G10 (bx g23 (List.map (int .i64) ([0, 1, 2, 1] : List Int)) 174 :: L) _ := hI28
 refine nl ?_
 refine hK21 _ _ _ ?_
 refine sr fun K30 hK31 => ?_
 refine q_mv (v := string a1) rfl ?_
 refine q_mv (v := int .i64 a2) rfl ?_
 obtain ⟨y37, hy32, H⟩ := bS H
 refine q_cv (vs := [string a1, int .i64 a2]) bo128 rfl rfl (bidi_directions_spec (a1 := a1) (a2 := a2) hI29 hy32) ?_
 rintro _ wd35 ⟨A38, n39, c40, G33, hG34, hI36, hn41, hM42, rfl⟩
 refine ⟨_, rfl, ?_⟩
 refine q_as (v := slice A38 n39 c40) rfl ?_
 refine nl ?_
 refine hK31 _ _ _ ?_
 refine sQ fun K44 hK45 => ?_
 refine sr fun K46 hK47 => ?_
 refine q_mv (v := slice A38 n39 c40) rfl ?_
 refine q_lenm so29 rfl hn41 ?_
 refine q_mv (v := int .i64 0) rfl ?_
 refine nl ?_
 refine hK47 _ _ _ ?_
 refine wpc_block ?_
 obtain ⟨v67, hC, H⟩ := bS H
 refine wpc_mono (Q := fun e r ds w => e = .exit 0 ∧ ∃ (Gr69 : Gh) (G71 : Gh), ds = [] ∧ G33 ≤ G71 ∧ Has [(7, slice A38 n39 c40)] r ∧ Hp G71 (rwI Gr69 (Kd.int .i64) A38 [] v67 [] c40 3 :: bx g23 (List.map (int .i64) ([0, 1, 2, 1] : List Int)) 174 :: L) w ∧ v67.length = n39 ∧ Gr69 ≤ G71 ∧ True) ?_ ?_
 clear H
 refine wpc_loop fun I hLp => ?_
 refine bidi_Levels_l66.partial_correctness a1 a2 y37 (fun v52 v54 o => ∀ (Gr55 : Gh) (G76 : Gh) (r : Rg) (w : World), G33 ≤ G76 → Has [(0, string a1), (1, int .i64 a2), (6, pointer (some ⟨g23, 0, none⟩)), (7, slice A38 n39 c40), (20, slice A38 n39 c40), (21, int .i64 (y37.length : Int)), (22, int .i64 v54)] r → Hp G76 (rwI Gr55 (Kd.int .i64) A38 [] v52 [] c40 3 :: bx g23 (List.map (int .i64) ([0, 1, 2, 1] : List Int)) 174 :: L) w → v52.length = n39 → Gr55 ≤ G76 → o = v67 → I r [] w) ?_ y37 0 _ hC G33 _ _ _ gR ⟨rfl, rfl, rfl, rfl, rfl, rfl, rfl, trivial⟩ hI36 hn41 gR rfl
 intro _ ih v52 v54 o H Gr55 G76 r wd78 hG77 hHas hI79 hn53 hGr56 ho
 rw [ho] at H; clear ho
 rw [hHas.eq]; clear hHas
 refine hLp _ _ _ ?_
 refine sr fun K80 hK81 => ?_
 refine q_lss rfl rfl ?_
 refine nl ?_
 refine hK81 _ _ _ ?_
 refine sQ fun K82 hK83 => ?_
 by_cases h84 : v54 < (y37.length : Int)
 replace H := iY h84 H
 refine wpc_true (bool_yes h84) ?_
 refine wpc_skip ?_
 refine hK83 _ _ _ ?_
 refine sQ fun K85 hK86 => ?_
 obtain ⟨v87, hC, H⟩ := bS H
 refine wpc_mono (Q := fun e r ds w => e = .normal ∧ ∃ (Gr89 : Gh) (G91 : Gh), ds = [] ∧ G76 ≤ G91 ∧ Has [(0, string a1), (1, int .i64 a2), (6, pointer (some ⟨g23, 0, none⟩)), (7, slice A38 n39 c40), (20, slice A38 n39 c40), (21, int .i64 (y37.length : Int)), (22, int .i64 v54)] r ∧ Hp G91 (rwI Gr89 (Kd.int .i64) A38 [] v87 [] c40 3 :: bx g23 (List.map (int .i64) ([0, 1, 2, 1] : List Int)) 174 :: L) w ∧ v87.length = n39 ∧ Gr89 ≤ G91 ∧ True) ?_ ?_
 replace H := hC
 refine wpc_block ?_
 refine sr fun K96 hK97 => ?_
 refine q_mv (v := int .i64 v54) rfl ?_
 obtain ⟨⟨h98, h98'⟩, H⟩ := iS H
 have hb99 := lt_n hn41 h98'
 obtain ⟨ad100, hA101⟩ := Mw.ad hM42 h98 hb99
 refine q_ia el29 rfl hA101 rfl h98 hb99 ?_
 obtain ⟨_, rfl, _, hc103⟩ := Hp.rwGet hI79 0 rfl hM42 hn53 hA101 (0 : Int) h98 hb99
 refine q_load1 (v := int .i64 (v52.getD (Int.toNat v54) (0 : Int))) ag3 rfl (cell0 (hc103 0 _ rfl)) ?_
 refine q_as (v := int .i64 v54) rfl ?_
 refine q_as (v := int .i64 (v52.getD (Int.toNat v54) (0 : Int))) rfl ?_
 refine nl ?_
 refine hK97 _ _ _ ?_
 refine sr fun K104 hK105 => ?_
 refine q_mv (v := slice A38 n39 c40) rfl ?_
 refine q_mv (v := int .i64 v54) rfl ?_
 refine q_mv (v := int .i64 a2) rfl ?_
 refine q_mv (v := int .i64 (v52.getD (Int.toNat v54) (0 : Int))) rfl ?_
 obtain ⟨⟨h106, h106'⟩, H⟩ := iS H
 have ho107 : 0 + Int.toNat a2 * 2 + 2 ≤ 4 := by omega
 refine q_iaA (a' := ⟨g23, 0 + Int.toNat a2 * 2, none⟩) ar174 rfl rfl h106 h106' (add_plain _ _ _) ?_
 obtain ⟨⟨h108, h108'⟩, H⟩ := iS H
 have ho109 : 0 + Int.toNat a2 * 2 + Int.toNat (v52.getD (Int.toNat v54) (0 : Int)) * 1 + 1 ≤ 4 := by have := ho107; omega
 refine q_iaA (a' := ⟨g23, 0 + Int.toNat a2 * 2 + Int.toNat (v52.getD (Int.toNat v54) (0 : Int)) * 1, none⟩) ar173 rfl rfl h108 h108' (add_plain _ _ _) ?_
 refine q_lda (int .i64) hI79 1 0 ag3 rfl rfl rfl (Nat.lt_of_succ_le ho109) ?_
 obtain ⟨⟨h110, h110'⟩, H⟩ := iS H
 have hb111 := lt_n hn41 h110'
 obtain ⟨ad112, hA113⟩ := Mw.ad hM42 h110 hb111
 refine q_ia el29 rfl hA113 rfl h110 hb111 ?_
 refine q_stm (kd := (Kd.int .i64)) hI79 0 (v := int .i64 (([0, 1, 2, 1] : List Int).getD (0 + Int.toNat a2 * 2 + Int.toNat (v52.getD (Int.toNat v54) (0 : Int)) * 1) 0)) (news := [int .i64 (([0, 1, 2, 1] : List Int).getD (0 + Int.toNat a2 * 2 + Int.toNat (v52.getD (Int.toNat v54) (0 : Int)) * 1) 0)]) (0 : Int) (([0, 1, 2, 1] : List Int).getD (0 + Int.toNat a2 * 2 + Int.toNat (v52.getD (Int.toNat v54) (0 : Int)) * 1) 0) ag3 rfl hM42 hn53 hA113 h110 hb111 (add_zero' _) rfl rfl rfl rfl rfl (Nat.le_of_ble_eq_true rfl) gR (fun _ ho => setAll_K ho rfl rfl) (fun wd114 hI115 => ?_)
 refine nl ?_
 refine hK105 _ _ _ ?_
 refine sr fun K116 hK117 => ?_
 refine q_mv (v := int .i64 (v52.getD (Int.toNat v54) (0 : Int))) rfl ?_
 refine q_eql rfl rfl ?_
 refine q_mv (v := bool (decide ((v52.getD (Int.toNat v54) (0 : Int)) = 1))) rfl ?_
 obtain ⟨v118, hC, H⟩ := bS H
 refine wpq_split 6 (K := fun e r ds w => e = .normal ∧ ∃ (G119 : Gh), ds = [] ∧ G76 ≤ G119 ∧ Has [(0, string a1), (1, int .i64 a2), (6, pointer (some ⟨g23, 0, none⟩)), (7, slice A38 n39 c40), (8, int .i64 v54), (20, slice A38 n39 c40), (21, int .i64 (y37.length : Int)), (22, int .i64 v54), (43, bool v118)] r ∧ Hp G119 (rwI Gr55 (Kd.int .i64) A38 [] (List.set v52 (Int.toNat v54) (([0, 1, 2, 1] : List Int).getD (0 + Int.toNat a2 * 2 + Int.toNat (v52.getD (Int.toNat v54) (0 : Int)) * 1) 0)) [] c40 3 :: bx g23 (List.map (int .i64) ([0, 1, 2, 1] : List Int)) 174 :: L) w ∧ True) ?_ ?_
 replace H := hC
 by_cases h124 : (v52.getD (Int.toNat v54) (0 : Int)) = 1
 replace H := iY h124 H
 refine q_mv (v := string a1) rfl ?_ (hw := gY rfl rfl rfl (bool_yes h124))
 refine q_mv (v := int .i64 v54) rfl ?_ (hw := gY rfl rfl rfl (bool_yes h124))
 obtain ⟨⟨h125, h125'⟩, H⟩ := iS H
 refine q_is so9 rfl rfl h125 h125' rfl ?_ (hw := gY rfl rfl rfl (bool_yes h124))
 obtain ⟨y131, hy126, H⟩ := bS H
 refine q_cv (vs := [int .u8 (bt a1 v54)]) bo49 rfl rfl (text_Class_spec (a1 := bt a1 v54) hI115 hy126) ?_ (hw := gY rfl rfl rfl (bool_yes h124))
 rintro _ wd129 ⟨G127, hG128, hI130, rfl⟩
 refine ⟨_, rfl, ?_⟩
 refine q_eql rfl rfl ?_ (hw := gY rfl rfl rfl (bool_yes h124))
 refine q_pick true (v := bool (decide (y131 = 3))) (bool_yes h124) rfl ?_
 refine nl ?_
 cases H
 exact ⟨rfl, _, rfl, hG128, ⟨rfl, rfl, rfl, rfl, rfl, rfl, rfl, rfl, rfl, trivial⟩, hI130, trivial⟩
 replace H := iN h124 H
 refine wN (gN rfl rfl rfl (bool_no h124) rfl) ?_
 refine wN (gN rfl rfl rfl (bool_no h124) rfl) ?_
 refine wN (gN rfl rfl rfl (bool_no h124) rfl) ?_
 refine wN (gN rfl rfl rfl (bool_no h124) rfl) ?_
 refine wN (gN rfl rfl rfl (bool_no h124) rfl) ?_
 refine q_pick false (v := bool false) (bool_no h124) rfl ?_
 refine nl ?_
 cases H
 exact ⟨rfl, _, rfl, gR, ⟨rfl, rfl, rfl, rfl, rfl, rfl, rfl, rfl, rfl, trivial⟩, hI115, trivial⟩
 clear hC
 rintro e r ds wd121 ⟨rfl, G119, rfl, hG120, hHas, hI122, _⟩
 rw [hHas.eq]; clear hHas
 refine nl ?_
 refine hK117 _ _ _ ?_
 by_cases h132 : v118 = true
 replace H := iY h132 H
 refine wpc_true (bval_yes h132) ?_
 refine wpc_region ?_
 refine q_mv (v := slice A38 n39 c40) rfl ?_
 refine q_mv (v := int .i64 v54) rfl ?_
 obtain ⟨⟨h133, h133'⟩, H⟩ := iS H
 have hb134 := lt_n hn41 h133'
 obtain ⟨ad135, hA136⟩ := Mw.ad hM42 h133 hb134
 refine q_ia el29 rfl hA136 rfl h133 hb134 ?_
 refine q_stm (kd := (Kd.int .i64)) hI122 0 (v := int .i64 2) (news := [int .i64 2]) (0 : Int) 2 ag3 rfl hM42 (set_len hn53) hA136 h133 hb134 (add_zero' _) rfl rfl rfl rfl rfl (Nat.le_of_ble_eq_true rfl) gR (fun _ ho => setAll_K ho rfl rfl) (fun wd137 hI138 => ?_)
 refine nl ?_
 have hI139 := Hp.rwUp hI138 0 rfl (gT hGr56 hG120)
 cases H
 exact ⟨rfl, G119, _, rfl, hG120, ⟨rfl, rfl, rfl, rfl, rfl, rfl, rfl, trivial⟩, hI139, (set_len (set_len hn53)), gR, trivial⟩
 replace H := iN h132 H
 refine wpc_false (bval_no h132) ?_
 refine wpc_skip ?_
 have hI140 := Hp.rwUp hI122 0 rfl (gT hGr56 hG120)
 cases H
 exact ⟨rfl, G119, _, rfl, hG120, ⟨rfl, rfl, rfl, rfl, rfl, rfl, rfl, trivial⟩, hI140, (set_len hn53), gR, trivial⟩
 clear hC
 rintro e r ds wd93 ⟨rfl, Gr89, G91, rfl, hG92, hHas, hI94, hn88, hGr90, _⟩
 rw [hHas.eq]; clear hHas
 refine hK86 _ _ _ ?_
 refine wpc_region ?_
 refine q_add rfl rfl ?_
 refine q_mv (v := int .i64 (w64 (v54 + 1))) rfl ?_
 refine nl ?_
 have hI141 := Hp.rwUp hI94 0 rfl hGr90
 exact ih _ _ _ H G91 _ _ _ (gT hG77 hG92) ⟨rfl, rfl, rfl, rfl, rfl, rfl, rfl, trivial⟩ hI141 hn88 gR rfl
 replace H := iN h84 H
 refine wpc_false (bool_no h84) ?_
 refine wpc_exit ?_
 have hI142 := Hp.rwUp hI79 0 rfl hGr56
 cases H
 exact ⟨rfl, G76, _, rfl, hG77, ⟨rfl, trivial⟩, hI142, hn53, gR, trivial⟩
 clear hC
 rintro e r ds wd73 ⟨rfl, Gr69, G71, rfl, hG72, hHas, hI74, hn68, hGr70, _⟩
 rw [hHas.eq]; clear hHas
 refine hK45 _ _ _ ?_
 refine sr fun K143 hK144 => ?_
 refine q_mv (v := slice A38 n39 c40) rfl ?_
 refine q_as (v := slice A38 n39 c40) rfl ?_
 refine q_as (v := int .i64 0) rfl ?_
 refine nl ?_
 refine hK144 _ _ _ ?_
 refine wpc_ret ?_
 have hI145 := Hp.rwUp hI74 0 rfl hGr70
 have hI146 := Hp.sub hI145 (sk (sd se))
 cases H
 exact ⟨.inr rfl, rfl, _, ⟨_, _, rfl, rfl, ⟨_, _, rfl, rfl, rfl⟩⟩, A38, n39, c40, _, (gT (gT hG11 hG34) hG72), hI146, hn68, hM42, rfl⟩
end Go.Proofs.YtokeiiakkfdmgaaGreatDoor.LG
