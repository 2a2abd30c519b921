/-
  The walks: each function computes its plain function: printed by a program out of the translation.
-/
import Derived.Test.YtokeiiakkfdmgaaGreatDoorSa
set_option linter.unusedVariables false
set_option linter.unusedSimpArgs false
set_option maxRecDepth 100000
namespace Go.Proofs.YtokeiiakkfdmgaaGreatDoor.LG
open Go Go.LG Go.RowKit Go.Value
open Go.Lib Go.Shelf Go.Proofs
set_option maxHeartbeats 1000000 in
theorem font_Valid_spec {a1 : api_Font} {A2 : Option Addr} {c3 : Nat} {A6 : Option Addr} {c7 : Nat} {r1472 : Bool} {G : Gh} {L : List Itm} {w : World} (hI : Hp G (L) w) (hl4 : a1.Glyphs.length ≤ c3) (hD5 : Dat k_api_Glyph G A2 a1.Glyphs) (hl8 : a1.Kerns.length ≤ c7) (hD9 : Dat k_api_Kern G A6 a1.Kerns) (H : font_Valid a1 = some r1472) :
    Calls Tryz.prog 36 [agg [slice A2 a1.Glyphs.length c3, slice A6 a1.Kerns.length c7].toArray].toArray w fun e w' => ∃ (G' : Gh), G ≤ G' ∧ Hp G' (L) w' ∧ e = .returned (bool r1472) := by
 refine calls_intro (N := 123) Tryz.func36 rfl rfl (Nat.le_of_ble_eq_true rfl) ?_
 unfold font_Valid at H
 refine sr fun K10 hK11 => ?_
 refine q_box hI (v := agg [slice A2 a1.Glyphs.length c3, slice A6 a1.Kerns.length c7].toArray) (vs := [slice A2 a1.Glyphs.length c3, slice A6 a1.Kerns.length c7]) rfl rfl (fun g13 wd14 hI15 => ?_)
 refine q_as (v := bool false) rfl ?_
 refine nl ?_
 refine hK11 _ _ _ ?_
 refine sQ fun K16 hK17 => ?_
 refine sr fun K18 hK19 => ?_
 refine q_fa (a' := ⟨g13, 0, none⟩) fl25_0 rfl (add_plain _ _ _) ?_
 refine q_ld hI15 0 (v := slice A2 a1.Glyphs.length c3) ag22 rfl rfl rfl ?_
 refine q_len so22 rfl ?_
 refine q_gtr rfl rfl ?_
 refine q_mv (v := bool (decide (94 < (a1.Glyphs.length : Int)))) rfl ?_
 obtain ⟨v20, hC, H⟩ := bS H
 refine wpq_split 5 (K := fun e r ds w => e = .normal ∧ ∃ (G21 : Gh), ds = [] ∧ G ≤ G21 ∧ Has [(1, pointer (some ⟨g13, 0, none⟩)), (20, bool v20)] r ∧ Hp G21 (bx g13 [slice A2 a1.Glyphs.length c3, slice A6 a1.Kerns.length c7] 25 :: L) w ∧ True) ?_ ?_
 replace H := hC
 by_cases h26 : 94 < (a1.Glyphs.length : Int)
 replace H := iY h26 H
 refine wN (gN rfl rfl rfl (bool_yes h26) rfl) ?_
 refine wN (gN rfl rfl rfl (bool_yes h26) rfl) ?_
 refine wN (gN rfl rfl rfl (bool_yes h26) rfl) ?_
 refine wN (gN rfl rfl rfl (bool_yes h26) rfl) ?_
 refine q_pick true (v := bool true) (bool_yes h26) rfl ?_
 refine nl ?_
 cases H
 exact ⟨rfl, _, rfl, gR, ⟨rfl, rfl, trivial⟩, hI15, trivial⟩
 replace H := iN h26 H
 refine q_fa (a' := ⟨g13, 1, none⟩) fl25_1 rfl (add_plain _ _ _) ?_ (hw := gY rfl rfl rfl (bool_no h26))
 refine q_ld hI15 0 (v := slice A6 a1.Kerns.length c7) ag23 rfl rfl rfl ?_ (hw := gY rfl rfl rfl (bool_no h26))
 refine q_len so23 rfl ?_ (hw := gY rfl rfl rfl (bool_no h26))
 refine q_gtr rfl rfl ?_ (hw := gY rfl rfl rfl (bool_no h26))
 refine q_pick false (v := bool (decide (200 < (a1.Kerns.length : Int)))) (bool_no h26) rfl ?_
 refine nl ?_
 cases H
 exact ⟨rfl, _, rfl, gR, ⟨rfl, rfl, trivial⟩, hI15, trivial⟩
 clear hC
 rintro e r ds wd23 ⟨rfl, G21, rfl, hG22, hHas, hI24, _⟩
 rw [hHas.eq]; clear hHas
 refine nl ?_
 refine hK19 _ _ _ ?_
 by_cases h27 : v20 = true
 replace H := iY h27 H
 refine wpc_true (bval_yes h27) ?_
 refine sr fun K28 hK29 => ?_
 refine q_as (v := bool false) rfl ?_
 refine nl ?_
 refine hK29 _ _ _ ?_
 refine wpc_ret ?_
 have hI30 := Hp.sub hI24 (sd se)
 cases H
 exact ⟨.inr rfl, rfl, _, ⟨_, _, rfl, rfl, rfl⟩, _, hG22, hI30, rfl⟩
 replace H := iN h27 H
 refine wpc_false (bval_no h27) ?_
 refine wpc_skip ?_
 refine hK17 _ _ _ ?_
 refine sQ fun K31 hK32 => ?_
 refine sr fun K33 hK34 => ?_
 refine q_fa (a' := ⟨g13, 0, none⟩) fl25_0 rfl (add_plain _ _ _) ?_
 refine q_ld hI24 0 (v := slice A2 a1.Glyphs.length c3) ag22 rfl rfl rfl ?_
 refine q_len so22 rfl ?_
 refine q_mv (v := int .i64 0) rfl ?_
 refine nl ?_
 refine hK34 _ _ _ ?_
 refine wpc_block ?_
 obtain ⟨o54, hC, H⟩ := bS H
 refine wpc_mono (Q := fun e r ds w => match (generalizing := false) o54 with | (Sum.inl _) => e = .ret ∧ ∃ (G46 : Gh), ds = [] ∧ G21 ≤ G46 ∧ Has [(2, bool false)] r ∧ Hp G46 (bx g13 [slice A2 a1.Glyphs.length c3, slice A6 a1.Kerns.length c7] 25 :: L) w ∧ True | (Sum.inr _) => e = .exit 0 ∧ ∃ (G50 : Gh), ds = [] ∧ G21 ≤ G50 ∧ Has [(1, pointer (some ⟨g13, 0, none⟩))] r ∧ Hp G50 (bx g13 [slice A2 a1.Glyphs.length c3, slice A6 a1.Kerns.length c7] 25 :: L) w ∧ True) ?_ ?_
 clear H
 refine wpc_loop fun I hLp => ?_
 refine font_Valid_l45.partial_correctness a1 (fun v39 o => ∀ (G55 : Gh) (r : Rg) (w : World), G21 ≤ G55 → Has [(1, pointer (some ⟨g13, 0, none⟩)), (22, slice A2 a1.Glyphs.length c3), (23, int .i64 (a1.Glyphs.length : Int)), (24, int .i64 v39)] r → Hp G55 (bx g13 [slice A2 a1.Glyphs.length c3, slice A6 a1.Kerns.length c7] 25 :: L) w → o = o54 → I r [] w) ?_ 0 _ hC _ _ _ gR ⟨rfl, rfl, rfl, rfl, trivial⟩ hI24 rfl
 intro _ ih v39 o H G55 r wd57 hG56 hHas hI58 ho
 rw [ho] at H; clear ho
 rw [hHas.eq]; clear hHas
 refine hLp _ _ _ ?_
 refine sr fun K59 hK60 => ?_
 refine q_lss rfl rfl ?_
 refine nl ?_
 refine hK60 _ _ _ ?_
 refine sQ fun K61 hK62 => ?_
 by_cases h63 : v39 < (a1.Glyphs.length : Int)
 replace H := iY h63 H
 refine wpc_true (bool_yes h63) ?_
 refine wpc_skip ?_
 refine hK62 _ _ _ ?_
 refine sQ fun K64 hK65 => ?_
 refine wpc_block ?_
 refine sr fun K66 hK67 => ?_
 refine q_mv (v := int .i64 v39) rfl ?_
 obtain ⟨⟨h68, h68'⟩, H⟩ := iS H
 obtain ⟨ad69, cs70, hA71, hK72, hn73, hc74⟩ := Dat.get (Dat.mono (gT hG22 hG56) hD5) z_api_Glyph (v39) h68 h68'
 obtain ⟨rfl⟩ := open_api_Glyph hK72
 refine q_ia el22 rfl hA71 rfl h68 h68' ?_
 refine q_lfA hI58 ag98 rfl (cs := [int .u8 ((a1.Glyphs.getD (Int.toNat v39) z_api_Glyph).Byte), int .i64 ((a1.Glyphs.getD (Int.toNat v39) z_api_Glyph).Advance)]) rfl (fun j v hv => gR.cel _ _ (hc74 j v hv)) ?_
 refine q_alloc hI58 ze98 (fun g76 wd77 hI78 => ?_)
 refine q_as (v := int .i64 v39) rfl ?_
 refine q_stA hI78 0 (v := agg [int .u8 ((a1.Glyphs.getD (Int.toNat v39) z_api_Glyph).Byte), int .i64 ((a1.Glyphs.getD (Int.toNat v39) z_api_Glyph).Advance)].toArray) (cs := [int .u8 ((a1.Glyphs.getD (Int.toNat v39) z_api_Glyph).Byte), int .i64 ((a1.Glyphs.getD (Int.toNat v39) z_api_Glyph).Advance)]) (vs' := [int .u8 ((a1.Glyphs.getD (Int.toNat v39) z_api_Glyph).Byte), int .i64 ((a1.Glyphs.getD (Int.toNat v39) z_api_Glyph).Advance)]) ag98 rfl rfl rfl rfl rfl rfl (Nat.le_of_ble_eq_true rfl) rfl (fun wd79 hI80 => ?_)
 refine nl ?_
 refine hK67 _ _ _ ?_
 refine sQ fun K81 hK82 => ?_
 obtain ⟨v83, hC, H⟩ := bS H
 refine wpc_mono (Q := fun e r ds w => e = .normal ∧ ∃ (G84 : Gh), ds = [] ∧ G55 ≤ G84 ∧ Has [(1, pointer (some ⟨g13, 0, none⟩)), (22, slice A2 a1.Glyphs.length c3), (23, int .i64 (a1.Glyphs.length : Int)), (24, int .i64 v39), (62, bool v83)] r ∧ Hp G84 (bx g76 [int .u8 ((a1.Glyphs.getD (Int.toNat v39) z_api_Glyph).Byte), int .i64 ((a1.Glyphs.getD (Int.toNat v39) z_api_Glyph).Advance)] 98 :: bx g13 [slice A2 a1.Glyphs.length c3, slice A6 a1.Kerns.length c7] 25 :: L) w ∧ True) ?_ ?_
 replace H := hC
 refine wpc_quiet mixo (by kernel_rfl) ?_
 have hI89 := hI80.drew
 refine wq (q_fa (a' := ⟨g76, 0, none⟩) fl98_0 rfl (add_plain _ _ _) wqd) rfl ?_
 refine wq (q_ld hI89 0 (v := int .u8 ((a1.Glyphs.getD (Int.toNat v39) z_api_Glyph).Byte)) ag5 rfl rfl rfl wqd) rfl ?_
 refine wq (q_lss rfl rfl wqd) rfl ?_
 refine wq (q_mv (v := bool (decide (((a1.Glyphs.getD (Int.toNat v39) z_api_Glyph).Byte) < 32))) rfl wqd) rfl ?_
 by_cases h90 : ((a1.Glyphs.getD (Int.toNat v39) z_api_Glyph).Byte) < 32
 replace H := iY h90 H
 refine wq (wN (gN rfl rfl rfl (bool_yes h90) rfl) wqd) rfl ?_
 refine wq (wN (gN rfl rfl rfl (bool_yes h90) rfl) wqd) rfl ?_
 refine wq (wN (gN rfl rfl rfl (bool_yes h90) rfl) wqd) rfl ?_
 refine wq (q_pick true (v := bool true) (bool_yes h90) rfl wqd) rfl ?_
 refine wq (q_mv (v := bool true) rfl wqd) rfl ?_
 refine wq (wN (gN rfl rfl rfl rfl rfl) wqd) rfl ?_
 refine wq (wN (gN rfl rfl rfl rfl rfl) wqd) rfl ?_
 refine wq (wN (gN rfl rfl rfl rfl rfl) wqd) rfl ?_
 refine wq (q_pick true (v := bool true) rfl rfl wqd) rfl ?_
 refine wq (q_mv (v := bool true) rfl wqd) rfl ?_
 refine wq (wN (gN rfl rfl rfl rfl rfl) wqd) rfl ?_
 refine wq (wN (gN rfl rfl rfl rfl rfl) wqd) rfl ?_
 refine wq (wN (gN rfl rfl rfl rfl rfl) wqd) rfl ?_
 refine wq (q_pick true (v := bool true) rfl rfl wqd) rfl ?_
 refine wq (q_mv (v := bool true) rfl wqd) rfl ?_
 refine wq (wN (gN rfl rfl rfl rfl rfl) wqd) rfl ?_
 refine wq (wN (gN rfl rfl rfl rfl rfl) wqd) rfl ?_
 refine wq (wN (gN rfl rfl rfl rfl rfl) wqd) rfl ?_
 refine wq (wN (gN rfl rfl rfl rfl rfl) wqd) rfl ?_
 refine wq (wN (gN rfl rfl rfl rfl rfl) wqd) rfl ?_
 refine wq (wN (gN rfl rfl rfl rfl rfl) wqd) rfl ?_
 refine wq (wN (gN rfl rfl rfl rfl rfl) wqd) rfl ?_
 refine wq (wN (gN rfl rfl rfl rfl rfl) wqd) rfl ?_
 refine wq (wN (gN rfl rfl rfl rfl rfl) wqd) rfl ?_
 refine wq (wN (gN rfl rfl rfl rfl rfl) wqd) rfl ?_
 refine wq (wN (gN rfl rfl rfl rfl rfl) wqd) rfl ?_
 refine wq (wN (gN rfl rfl rfl rfl rfl) wqd) rfl ?_
 refine wq (wN (gN rfl rfl rfl rfl rfl) wqd) rfl ?_
 refine wq (wN (gN rfl rfl rfl rfl rfl) wqd) rfl ?_
 refine wq (q_pick true (v := bool true) rfl rfl wqd) rfl ?_
 refine wqq_nil ?_
 cases H
 exact ⟨rfl, _, rfl, gR, ⟨rfl, rfl, rfl, rfl, rfl, trivial⟩, hI89, trivial⟩
 replace H := iN h90 H
 refine wq (q_fa (a' := ⟨g76, 0, none⟩) fl98_0 rfl (add_plain _ _ _) wqd (hw := gY rfl rfl rfl (bool_no h90))) rfl ?_
 refine wq (q_ld hI89 0 (v := int .u8 ((a1.Glyphs.getD (Int.toNat v39) z_api_Glyph).Byte)) ag5 rfl rfl rfl wqd (hw := gY rfl rfl rfl (bool_no h90))) rfl ?_
 refine wq (q_geq rfl rfl wqd (hw := gY rfl rfl rfl (bool_no h90))) rfl ?_
 refine wq (q_pick false (v := bool (decide (126 ≤ ((a1.Glyphs.getD (Int.toNat v39) z_api_Glyph).Byte)))) (bool_no h90) rfl wqd) rfl ?_
 refine wq (q_mv (v := bool (decide (126 ≤ ((a1.Glyphs.getD (Int.toNat v39) z_api_Glyph).Byte)))) rfl wqd) rfl ?_
 by_cases h91 : 126 ≤ ((a1.Glyphs.getD (Int.toNat v39) z_api_Glyph).Byte)
 replace H := iY h91 H
 refine wq (wN (gN rfl rfl rfl (bool_yes h91) rfl) wqd) rfl ?_
 refine wq (wN (gN rfl rfl rfl (bool_yes h91) rfl) wqd) rfl ?_
 refine wq (wN (gN rfl rfl rfl (bool_yes h91) rfl) wqd) rfl ?_
 refine wq (q_pick true (v := bool true) (bool_yes h91) rfl wqd) rfl ?_
 refine wq (q_mv (v := bool true) rfl wqd) rfl ?_
 refine wq (wN (gN rfl rfl rfl rfl rfl) wqd) rfl ?_
 refine wq (wN (gN rfl rfl rfl rfl rfl) wqd) rfl ?_
 refine wq (wN (gN rfl rfl rfl rfl rfl) wqd) rfl ?_
 refine wq (q_pick true (v := bool true) rfl rfl wqd) rfl ?_
 refine wq (q_mv (v := bool true) rfl wqd) rfl ?_
 refine wq (wN (gN rfl rfl rfl rfl rfl) wqd) rfl ?_
 refine wq (wN (gN rfl rfl rfl rfl rfl) wqd) rfl ?_
 refine wq (wN (gN rfl rfl rfl rfl rfl) wqd) rfl ?_
 refine wq (wN (gN rfl rfl rfl rfl rfl) wqd) rfl ?_
 refine wq (wN (gN rfl rfl rfl rfl rfl) wqd) rfl ?_
 refine wq (wN (gN rfl rfl rfl rfl rfl) wqd) rfl ?_
 refine wq (wN (gN rfl rfl rfl rfl rfl) wqd) rfl ?_
 refine wq (wN (gN rfl rfl rfl rfl rfl) wqd) rfl ?_
 refine wq (wN (gN rfl rfl rfl rfl rfl) wqd) rfl ?_
 refine wq (wN (gN rfl rfl rfl rfl rfl) wqd) rfl ?_
 refine wq (wN (gN rfl rfl rfl rfl rfl) wqd) rfl ?_
 refine wq (wN (gN rfl rfl rfl rfl rfl) wqd) rfl ?_
 refine wq (wN (gN rfl rfl rfl rfl rfl) wqd) rfl ?_
 refine wq (wN (gN rfl rfl rfl rfl rfl) wqd) rfl ?_
 refine wq (q_pick true (v := bool true) rfl rfl wqd) rfl ?_
 refine wqq_nil ?_
 cases H
 exact ⟨rfl, _, rfl, gR, ⟨rfl, rfl, rfl, rfl, rfl, trivial⟩, hI89, trivial⟩
 replace H := iN h91 H
 refine wq (q_fa (a' := ⟨g76, 1, none⟩) fl98_1 rfl (add_plain _ _ _) wqd (hw := gY rfl rfl rfl (bool_no h91))) rfl ?_
 refine wq (q_ld hI89 0 (v := int .i64 ((a1.Glyphs.getD (Int.toNat v39) z_api_Glyph).Advance)) ag3 rfl rfl rfl wqd (hw := gY rfl rfl rfl (bool_no h91))) rfl ?_
 refine wq (q_lss rfl rfl wqd (hw := gY rfl rfl rfl (bool_no h91))) rfl ?_
 refine wq (q_pick false (v := bool (decide (((a1.Glyphs.getD (Int.toNat v39) z_api_Glyph).Advance) < 0))) (bool_no h91) rfl wqd) rfl ?_
 refine wq (q_mv (v := bool (decide (((a1.Glyphs.getD (Int.toNat v39) z_api_Glyph).Advance) < 0))) rfl wqd) rfl ?_
 by_cases h92 : ((a1.Glyphs.getD (Int.toNat v39) z_api_Glyph).Advance) < 0
 replace H := iY h92 H
 refine wq (wN (gN rfl rfl rfl (bool_yes h92) rfl) wqd) rfl ?_
 refine wq (wN (gN rfl rfl rfl (bool_yes h92) rfl) wqd) rfl ?_
 refine wq (wN (gN rfl rfl rfl (bool_yes h92) rfl) wqd) rfl ?_
 refine wq (q_pick true (v := bool true) (bool_yes h92) rfl wqd) rfl ?_
 refine wq (q_mv (v := bool true) rfl wqd) rfl ?_
 refine wq (wN (gN rfl rfl rfl rfl rfl) wqd) rfl ?_
 refine wq (wN (gN rfl rfl rfl rfl rfl) wqd) rfl ?_
 refine wq (wN (gN rfl rfl rfl rfl rfl) wqd) rfl ?_
 refine wq (wN (gN rfl rfl rfl rfl rfl) wqd) rfl ?_
 refine wq (wN (gN rfl rfl rfl rfl rfl) wqd) rfl ?_
 refine wq (wN (gN rfl rfl rfl rfl rfl) wqd) rfl ?_
 refine wq (wN (gN rfl rfl rfl rfl rfl) wqd) rfl ?_
 refine wq (wN (gN rfl rfl rfl rfl rfl) wqd) rfl ?_
 refine wq (wN (gN rfl rfl rfl rfl rfl) wqd) rfl ?_
 refine wq (wN (gN rfl rfl rfl rfl rfl) wqd) rfl ?_
 refine wq (wN (gN rfl rfl rfl rfl rfl) wqd) rfl ?_
 refine wq (wN (gN rfl rfl rfl rfl rfl) wqd) rfl ?_
 refine wq (wN (gN rfl rfl rfl rfl rfl) wqd) rfl ?_
 refine wq (wN (gN rfl rfl rfl rfl rfl) wqd) rfl ?_
 refine wq (q_pick true (v := bool true) rfl rfl wqd) rfl ?_
 refine wqq_nil ?_
 cases H
 exact ⟨rfl, _, rfl, gR, ⟨rfl, rfl, rfl, rfl, rfl, trivial⟩, hI89, trivial⟩
 replace H := iN h92 H
 refine wq (q_fa (a' := ⟨g76, 1, none⟩) fl98_1 rfl (add_plain _ _ _) wqd (hw := gY rfl rfl rfl (bool_no h92))) rfl ?_
 refine wq (q_ld hI89 0 (v := int .i64 ((a1.Glyphs.getD (Int.toNat v39) z_api_Glyph).Advance)) ag3 rfl rfl rfl wqd (hw := gY rfl rfl rfl (bool_no h92))) rfl ?_
 refine wq (q_gtr rfl rfl wqd (hw := gY rfl rfl rfl (bool_no h92))) rfl ?_
 refine wq (q_pick false (v := bool (decide (1000 < ((a1.Glyphs.getD (Int.toNat v39) z_api_Glyph).Advance)))) (bool_no h92) rfl wqd) rfl ?_
 refine wq (q_mv (v := bool (decide (1000 < ((a1.Glyphs.getD (Int.toNat v39) z_api_Glyph).Advance)))) rfl wqd) rfl ?_
 by_cases h93 : 1000 < ((a1.Glyphs.getD (Int.toNat v39) z_api_Glyph).Advance)
 replace H := iY h93 H
 refine wq (wN (gN rfl rfl rfl (bool_yes h93) rfl) wqd) rfl ?_
 refine wq (wN (gN rfl rfl rfl (bool_yes h93) rfl) wqd) rfl ?_
 refine wq (wN (gN rfl rfl rfl (bool_yes h93) rfl) wqd) rfl ?_
 refine wq (wN (gN rfl rfl rfl rfl rfl) wqd) rfl ?_
 refine wq (wN (gN rfl rfl rfl rfl rfl) wqd) rfl ?_
 refine wq (wN (gN rfl rfl rfl rfl rfl) wqd) rfl ?_
 refine wq (wN (gN rfl rfl rfl rfl rfl) wqd) rfl ?_
 refine wq (wN (gN rfl rfl rfl rfl rfl) wqd) rfl ?_
 refine wq (wN (gN rfl rfl rfl rfl rfl) wqd) rfl ?_
 refine wq (wN (gN rfl rfl rfl rfl rfl) wqd) rfl ?_
 refine wq (wN (gN rfl rfl rfl rfl rfl) wqd) rfl ?_
 refine wq (wN (gN rfl rfl rfl rfl rfl) wqd) rfl ?_
 refine wq (wN (gN rfl rfl rfl rfl rfl) wqd) rfl ?_
 refine wq (wN (gN rfl rfl rfl (bool_yes h93) rfl) wqd) rfl ?_
 refine wq (q_pick true (v := bool true) (bool_yes h93) rfl wqd) rfl ?_
 refine wqq_nil ?_
 cases H
 exact ⟨rfl, _, rfl, gR, ⟨rfl, rfl, rfl, rfl, rfl, trivial⟩, hI89, trivial⟩
 replace H := iN h93 H
 refine wq (q_mv (v := int .i64 v39) rfl wqd (hw := gY rfl rfl rfl (bool_no h93))) rfl ?_
 refine wq (q_gtr rfl rfl wqd (hw := gY rfl rfl rfl (bool_no h93))) rfl ?_
 refine wq (q_mv (v := bool (decide (0 < v39))) rfl wqd (hw := gY rfl rfl rfl (bool_no h93))) rfl ?_
 by_cases h94 : 0 < v39
 replace H := iY h94 H
 refine wq (q_fa (a' := ⟨g76, 0, none⟩) fl98_0 rfl (add_plain _ _ _) wqd (hw := gY rfl rfl rfl (bool_yes h94))) rfl ?_
 refine wq (q_ld hI89 0 (v := int .u8 ((a1.Glyphs.getD (Int.toNat v39) z_api_Glyph).Byte)) ag5 rfl rfl rfl wqd (hw := gY rfl rfl rfl (bool_yes h94))) rfl ?_
 refine wq (q_fa (a' := ⟨g13, 0, none⟩) fl25_0 rfl (add_plain _ _ _) wqd (hw := gY rfl rfl rfl (bool_yes h94))) rfl ?_
 refine wq (q_ld hI89 1 (v := slice A2 a1.Glyphs.length c3) ag22 rfl rfl rfl wqd (hw := gY rfl rfl rfl (bool_yes h94))) rfl ?_
 refine wq (q_mv (v := int .i64 v39) rfl wqd (hw := gY rfl rfl rfl (bool_yes h94))) rfl ?_
 refine wq (q_sub rfl rfl wqd (hw := gY rfl rfl rfl (bool_yes h94))) rfl ?_
 obtain ⟨⟨h95, h95'⟩, H⟩ := iS H
 obtain ⟨ad96, cs97, hA98, hK99, hn100, hc101⟩ := Dat.get (Dat.mono (gT hG22 hG56) hD5) z_api_Glyph (w64 (v39 - 1)) h95 h95'
 obtain ⟨rfl⟩ := open_api_Glyph hK99
 refine wq (q_ia el22 rfl hA98 rfl h95 h95' wqd (hw := gY rfl rfl rfl (bool_yes h94))) rfl ?_
 refine wq (q_fa (a' := (ad96.add (Int.toNat (w64 (v39 - 1)) * 2)).add 0) fl98_0 rfl rfl wqd (hw := gY rfl rfl rfl (bool_yes h94))) rfl ?_
 refine wq (q_lf hI89 (v := int .u8 ((a1.Glyphs.getD (Int.toNat (w64 (v39 - 1))) z_api_Glyph).Byte)) ag5 rfl (gR.cel _ _ (hc101 0 _ rfl)) wqd (hw := gY rfl rfl rfl (bool_yes h94))) rfl ?_
 refine wq (q_leq rfl rfl wqd (hw := gY rfl rfl rfl (bool_yes h94))) rfl ?_
 refine wq (q_pick true (v := bool (decide (((a1.Glyphs.getD (Int.toNat v39) z_api_Glyph).Byte) ≤ ((a1.Glyphs.getD (Int.toNat (w64 (v39 - 1))) z_api_Glyph).Byte)))) (bool_yes h94) rfl wqd (hw := gY rfl rfl rfl (bool_no h93))) rfl ?_
 refine wq (q_pick false (v := bool (decide (((a1.Glyphs.getD (Int.toNat v39) z_api_Glyph).Byte) ≤ ((a1.Glyphs.getD (Int.toNat (w64 (v39 - 1))) z_api_Glyph).Byte)))) (bool_no h93) rfl wqd) rfl ?_
 refine wqq_nil ?_
 cases H
 exact ⟨rfl, _, rfl, gR, ⟨rfl, rfl, rfl, rfl, rfl, trivial⟩, hI89, trivial⟩
 replace H := iN h94 H
 refine wq (wN (gN rfl rfl rfl (bool_no h94) rfl) wqd) rfl ?_
 refine wq (wN (gN rfl rfl rfl (bool_no h94) rfl) wqd) rfl ?_
 refine wq (wN (gN rfl rfl rfl (bool_no h94) rfl) wqd) rfl ?_
 refine wq (wN (gN rfl rfl rfl (bool_no h94) rfl) wqd) rfl ?_
 refine wq (wN (gN rfl rfl rfl (bool_no h94) rfl) wqd) rfl ?_
 refine wq (wN (gN rfl rfl rfl (bool_no h94) rfl) wqd) rfl ?_
 refine wq (wN (gN rfl rfl rfl (bool_no h94) rfl) wqd) rfl ?_
 refine wq (wN (gN rfl rfl rfl (bool_no h94) rfl) wqd) rfl ?_
 refine wq (wN (gN rfl rfl rfl (bool_no h94) rfl) wqd) rfl ?_
 refine wq (wN (gN rfl rfl rfl (bool_no h94) rfl) wqd) rfl ?_
 refine wq (q_pick false (v := bool false) (bool_no h94) rfl wqd (hw := gY rfl rfl rfl (bool_no h93))) rfl ?_
 refine wq (q_pick false (v := bool false) (bool_no h93) rfl wqd) rfl ?_
 refine wqq_nil ?_
 cases H
 exact ⟨rfl, _, rfl, gR, ⟨rfl, rfl, rfl, rfl, rfl, trivial⟩, hI89, trivial⟩
 clear hC
 rintro e r ds wd86 ⟨rfl, G84, rfl, hG85, hHas, hI87, _⟩
 rw [hHas.eq]; clear hHas
 refine hK82 _ _ _ ?_
 by_cases h102 : v83 = true
 replace H := iY h102 H
 refine wpc_true (bval_yes h102) ?_
 refine sr fun K103 hK104 => ?_
 refine q_as (v := bool false) rfl ?_
 refine nl ?_
 refine hK104 _ _ _ ?_
 refine wpc_ret ?_
 have hI105 := Hp.front hI87 1 rfl
 have hI106 := Hp.sub hI105 (sk (sd se))
 cases H
 exact ⟨rfl, _, rfl, (gT hG56 hG85), ⟨rfl, trivial⟩, hI106, trivial⟩
 replace H := iN h102 H
 refine wpc_false (bval_no h102) ?_
 refine wpc_skip ?_
 refine hK65 _ _ _ ?_
 refine wpc_region ?_
 refine q_add rfl rfl ?_
 refine q_mv (v := int .i64 (w64 (v39 + 1))) rfl ?_
 refine nl ?_
 have hI107 := Hp.front hI87 1 rfl
 have hI108 := Hp.sub hI107 (sk (sd se))
 exact ih _ _ H _ _ _ (gT hG56 hG85) ⟨rfl, rfl, rfl, rfl, trivial⟩ hI108 rfl
 replace H := iN h63 H
 refine wpc_false (bool_no h63) ?_
 refine wpc_exit ?_
 cases H
 exact ⟨rfl, _, rfl, hG56, ⟨rfl, trivial⟩, hI58, trivial⟩
 clear hC
 rcases o54 with _ | _
 rintro e r ds wd48 ⟨rfl, G46, rfl, hG47, hHas, hI49, _⟩
 rw [hHas.eq]; clear hHas
 have hI109 := Hp.sub hI49 (sd se)
 cases H
 exact ⟨.inr rfl, rfl, _, ⟨_, _, rfl, rfl, rfl⟩, _, (gT hG22 hG47), hI109, rfl⟩
 rintro e r ds wd52 ⟨rfl, G50, rfl, hG51, hHas, hI53, _⟩
 rw [hHas.eq]; clear hHas
 refine hK32 _ _ _ ?_
 refine sQ fun K110 hK111 => ?_
 refine sr fun K112 hK113 => ?_
 refine q_fa (a' := ⟨g13, 1, none⟩) fl25_1 rfl (add_plain _ _ _) ?_
 refine q_ld hI53 0 (v := slice A6 a1.Kerns.length c7) ag23 rfl rfl rfl ?_
 refine q_len so23 rfl ?_
 refine q_mv (v := int .i64 0) rfl ?_
 refine nl ?_
 refine hK113 _ _ _ ?_
 refine wpc_block ?_
 obtain ⟨o133, hC, H⟩ := bS H
 refine wpc_mono (Q := fun e r ds w => match (generalizing := false) o133 with | (Sum.inl _) => e = .ret ∧ ∃ (G125 : Gh), ds = [] ∧ G50 ≤ G125 ∧ Has [(2, bool false)] r ∧ Hp G125 (bx g13 [slice A2 a1.Glyphs.length c3, slice A6 a1.Kerns.length c7] 25 :: L) w ∧ True | (Sum.inr _) => e = .exit 2 ∧ ∃ (G129 : Gh), ds = [] ∧ G50 ≤ G129 ∧ Has [] r ∧ Hp G129 (bx g13 [slice A2 a1.Glyphs.length c3, slice A6 a1.Kerns.length c7] 25 :: L) w ∧ True) ?_ ?_
 clear H
 refine wpc_loop fun I hLp => ?_
 refine font_Valid_l124.partial_correctness a1 (fun v118 o => ∀ (G134 : Gh) (r : Rg) (w : World), G50 ≤ G134 → Has [(1, pointer (some ⟨g13, 0, none⟩)), (65, slice A6 a1.Kerns.length c7), (66, int .i64 (a1.Kerns.length : Int)), (67, int .i64 v118)] r → Hp G134 (bx g13 [slice A2 a1.Glyphs.length c3, slice A6 a1.Kerns.length c7] 25 :: L) w → o = o133 → I r [] w) ?_ 0 _ hC _ _ _ gR ⟨rfl, rfl, rfl, rfl, trivial⟩ hI53 rfl
 intro _ ih v118 o H G134 r wd136 hG135 hHas hI137 ho
 rw [ho] at H; clear ho
 rw [hHas.eq]; clear hHas
 refine hLp _ _ _ ?_
 refine sr fun K138 hK139 => ?_
 refine q_lss rfl rfl ?_
 refine nl ?_
 refine hK139 _ _ _ ?_
 refine sQ fun K140 hK141 => ?_
 by_cases h142 : v118 < (a1.Kerns.length : Int)
 replace H := iY h142 H
 refine wpc_true (bool_yes h142) ?_
 refine wpc_skip ?_
 refine hK141 _ _ _ ?_
 refine sQ fun K143 hK144 => ?_
 refine wpc_block ?_
 refine sr fun K145 hK146 => ?_
 refine q_mv (v := int .i64 v118) rfl ?_
 obtain ⟨⟨h147, h147'⟩, H⟩ := iS H
 obtain ⟨ad148, cs149, hA150, hK151, hn152, hc153⟩ := Dat.get (Dat.mono (gT (gT hG22 hG51) hG135) hD9) z_api_Kern (v118) h147 h147'
 obtain ⟨rfl⟩ := open_api_Kern hK151
 refine q_ia el23 rfl hA150 rfl h147 h147' ?_
 refine q_lfA hI137 ag114 rfl (cs := [int .u8 ((a1.Kerns.getD (Int.toNat v118) z_api_Kern).Left), int .u8 ((a1.Kerns.getD (Int.toNat v118) z_api_Kern).Right), int .i64 ((a1.Kerns.getD (Int.toNat v118) z_api_Kern).By)]) rfl (fun j v hv => gR.cel _ _ (hc153 j v hv)) ?_
 refine q_alloc hI137 ze114 (fun g155 wd156 hI157 => ?_)
 refine q_as (v := int .i64 v118) rfl ?_
 refine q_stA hI157 0 (v := agg [int .u8 ((a1.Kerns.getD (Int.toNat v118) z_api_Kern).Left), int .u8 ((a1.Kerns.getD (Int.toNat v118) z_api_Kern).Right), int .i64 ((a1.Kerns.getD (Int.toNat v118) z_api_Kern).By)].toArray) (cs := [int .u8 ((a1.Kerns.getD (Int.toNat v118) z_api_Kern).Left), int .u8 ((a1.Kerns.getD (Int.toNat v118) z_api_Kern).Right), int .i64 ((a1.Kerns.getD (Int.toNat v118) z_api_Kern).By)]) (vs' := [int .u8 ((a1.Kerns.getD (Int.toNat v118) z_api_Kern).Left), int .u8 ((a1.Kerns.getD (Int.toNat v118) z_api_Kern).Right), int .i64 ((a1.Kerns.getD (Int.toNat v118) z_api_Kern).By)]) ag114 rfl rfl rfl rfl rfl rfl (Nat.le_of_ble_eq_true rfl) rfl (fun wd158 hI159 => ?_)
 refine nl ?_
 refine hK146 _ _ _ ?_
 refine sr fun K160 hK161 => ?_
 refine q_ldA hI159 1 (cs := [slice A2 a1.Glyphs.length c3, slice A6 a1.Kerns.length c7]) ag25 rfl rfl rfl rfl ?_
 refine q_fa (a' := ⟨g155, 0, none⟩) fl114_0 rfl (add_plain _ _ _) ?_
 refine q_ld hI159 0 (v := int .u8 ((a1.Kerns.getD (Int.toNat v118) z_api_Kern).Left)) ag5 rfl rfl rfl ?_
 obtain ⟨⟨y167, y168⟩, hy162, H⟩ := bS H
 refine q_cv (vs := [agg [slice A2 a1.Glyphs.length c3, slice A6 a1.Kerns.length c7].toArray, int .u8 ((a1.Kerns.getD (Int.toNat v118) z_api_Kern).Left)]) bo69 rfl rfl (font_glyph_spec (a1 := a1) (a10 := (a1.Kerns.getD (Int.toNat v118) z_api_Kern).Left) hI159 hl4 (Dat.mono (gT (gT hG22 hG51) hG135) hD5) hl8 (Dat.mono (gT (gT hG22 hG51) hG135) hD9) hy162) ?_
 rintro _ wd165 ⟨G163, hG164, hI166, rfl⟩
 refine ⟨_, rfl, ?_⟩
 refine q_mv (v := tuple [agg [int .u8 y167.Byte, int .i64 y167.Advance].toArray, bool y168].toArray) rfl ?_
 refine q_ex (v := agg [int .u8 y167.Byte, int .i64 y167.Advance].toArray) rfl rfl ?_
 refine q_ex (v := bool y168) rfl rfl ?_
 refine q_alloc hI166 ze98 (fun g170 wd171 hI172 => ?_)
 refine q_stA hI172 0 (v := agg [int .u8 y167.Byte, int .i64 y167.Advance].toArray) (cs := [int .u8 y167.Byte, int .i64 y167.Advance]) (vs' := [int .u8 y167.Byte, int .i64 y167.Advance]) ag98 rfl rfl rfl rfl rfl rfl (Nat.le_of_ble_eq_true rfl) rfl (fun wd173 hI174 => ?_)
 refine q_as (v := bool y168) rfl ?_
 refine nl ?_
 refine hK161 _ _ _ ?_
 refine sr fun K175 hK176 => ?_
 refine q_ldA hI174 2 (cs := [slice A2 a1.Glyphs.length c3, slice A6 a1.Kerns.length c7]) ag25 rfl rfl rfl rfl ?_
 refine q_fa (a' := ⟨g155, 1, none⟩) fl114_1 rfl (add_plain _ _ _) ?_
 refine q_ld hI174 1 (v := int .u8 ((a1.Kerns.getD (Int.toNat v118) z_api_Kern).Right)) ag5 rfl rfl rfl ?_
 obtain ⟨⟨y182, y183⟩, hy177, H⟩ := bS H
 refine q_cv (vs := [agg [slice A2 a1.Glyphs.length c3, slice A6 a1.Kerns.length c7].toArray, int .u8 ((a1.Kerns.getD (Int.toNat v118) z_api_Kern).Right)]) bo69 rfl rfl (font_glyph_spec (a1 := a1) (a10 := (a1.Kerns.getD (Int.toNat v118) z_api_Kern).Right) hI174 hl4 (Dat.mono (gT (gT (gT hG22 hG51) hG135) hG164) hD5) hl8 (Dat.mono (gT (gT (gT hG22 hG51) hG135) hG164) hD9) hy177) ?_
 rintro _ wd180 ⟨G178, hG179, hI181, rfl⟩
 refine ⟨_, rfl, ?_⟩
 refine q_mv (v := tuple [agg [int .u8 y182.Byte, int .i64 y182.Advance].toArray, bool y183].toArray) rfl ?_
 refine q_ex (v := agg [int .u8 y182.Byte, int .i64 y182.Advance].toArray) rfl rfl ?_
 refine q_ex (v := bool y183) rfl rfl ?_
 refine q_alloc hI181 ze98 (fun g185 wd186 hI187 => ?_)
 refine q_stA hI187 0 (v := agg [int .u8 y182.Byte, int .i64 y182.Advance].toArray) (cs := [int .u8 y182.Byte, int .i64 y182.Advance]) (vs' := [int .u8 y182.Byte, int .i64 y182.Advance]) ag98 rfl rfl rfl rfl rfl rfl (Nat.le_of_ble_eq_true rfl) rfl (fun wd188 hI189 => ?_)
 refine q_as (v := bool y183) rfl ?_
 refine nl ?_
 refine hK176 _ _ _ ?_
 refine sQ fun K190 hK191 => ?_
 refine sr fun K192 hK193 => ?_
 refine q_mv (v := bool y168) rfl ?_
 refine q_not rfl ?_
 refine q_mv (v := bool (!y168)) rfl ?_
 obtain ⟨v194, hC, H⟩ := bS H
 refine wpq_split 3 (K := fun e r ds w => e = .normal ∧ ∃ (G195 : Gh), ds = [] ∧ G178 ≤ G195 ∧ Has [(1, pointer (some ⟨g13, 0, none⟩)), (5, int .i64 v118), (6, pointer (some ⟨g155, 0, none⟩)), (7, pointer (some ⟨g170, 0, none⟩)), (65, slice A6 a1.Kerns.length c7), (66, int .i64 (a1.Kerns.length : Int)), (67, int .i64 v118), (91, bool v194)] r ∧ Hp G195 (bx g185 [int .u8 y182.Byte, int .i64 y182.Advance] 98 :: bx g170 [int .u8 y167.Byte, int .i64 y167.Advance] 98 :: bx g155 [int .u8 ((a1.Kerns.getD (Int.toNat v118) z_api_Kern).Left), int .u8 ((a1.Kerns.getD (Int.toNat v118) z_api_Kern).Right), int .i64 ((a1.Kerns.getD (Int.toNat v118) z_api_Kern).By)] 114 :: bx g13 [slice A2 a1.Glyphs.length c3, slice A6 a1.Kerns.length c7] 25 :: L) w ∧ True) ?_ ?_
 replace H := hC
 by_cases h200 : (!y168) = true
 replace H := iY h200 H
 refine wN (gN rfl rfl rfl (bval_yes h200) rfl) ?_
 refine wN (gN rfl rfl rfl (bval_yes h200) rfl) ?_
 refine q_pick true (v := bool true) (bval_yes h200) rfl ?_
 refine nl ?_
 cases H
 exact ⟨rfl, _, rfl, gR, ⟨rfl, rfl, rfl, rfl, rfl, rfl, rfl, rfl, trivial⟩, hI189, trivial⟩
 replace H := iN h200 H
 refine q_mv (v := bool y183) rfl ?_ (hw := gY rfl rfl rfl (bval_no h200))
 refine q_not rfl ?_ (hw := gY rfl rfl rfl (bval_no h200))
 refine q_pick false (v := bool (!y183)) (bval_no h200) rfl ?_
 refine nl ?_
 cases H
 exact ⟨rfl, _, rfl, gR, ⟨rfl, rfl, rfl, rfl, rfl, rfl, rfl, rfl, trivial⟩, hI189, trivial⟩
 clear hC
 rintro e r ds wd197 ⟨rfl, G195, rfl, hG196, hHas, hI198, _⟩
 rw [hHas.eq]; clear hHas
 refine q_mv (v := bool v194) rfl ?_
 obtain ⟨v201, hC, H⟩ := bS H
 refine wpq_split 4 (K := fun e r ds w => e = .normal ∧ ∃ (G202 : Gh), ds = [] ∧ G195 ≤ G202 ∧ Has [(1, pointer (some ⟨g13, 0, none⟩)), (5, int .i64 v118), (6, pointer (some ⟨g155, 0, none⟩)), (7, pointer (some ⟨g170, 0, none⟩)), (65, slice A6 a1.Kerns.length c7), (66, int .i64 (a1.Kerns.length : Int)), (67, int .i64 v118), (96, bool v201)] r ∧ Hp G202 (bx g185 [int .u8 y182.Byte, int .i64 y182.Advance] 98 :: bx g170 [int .u8 y167.Byte, int .i64 y167.Advance] 98 :: bx g155 [int .u8 ((a1.Kerns.getD (Int.toNat v118) z_api_Kern).Left), int .u8 ((a1.Kerns.getD (Int.toNat v118) z_api_Kern).Right), int .i64 ((a1.Kerns.getD (Int.toNat v118) z_api_Kern).By)] 114 :: bx g13 [slice A2 a1.Glyphs.length c3, slice A6 a1.Kerns.length c7] 25 :: L) w ∧ True) ?_ ?_
 replace H := hC
 by_cases h207 : v194 = true
 replace H := iY h207 H
 refine wN (gN rfl rfl rfl (bval_yes h207) rfl) ?_
 refine wN (gN rfl rfl rfl (bval_yes h207) rfl) ?_
 refine wN (gN rfl rfl rfl (bval_yes h207) rfl) ?_
 refine q_pick true (v := bool true) (bval_yes h207) rfl ?_
 refine nl ?_
 cases H
 exact ⟨rfl, _, rfl, gR, ⟨rfl, rfl, rfl, rfl, rfl, rfl, rfl, rfl, trivial⟩, hI198, trivial⟩
 replace H := iN h207 H
 refine q_fa (a' := ⟨g155, 2, none⟩) fl114_2 rfl (add_plain _ _ _) ?_ (hw := gY rfl rfl rfl (bval_no h207))
 refine q_ld hI198 2 (v := int .i64 ((a1.Kerns.getD (Int.toNat v118) z_api_Kern).By)) ag3 rfl rfl rfl ?_ (hw := gY rfl rfl rfl (bval_no h207))
 refine q_gtr rfl rfl ?_ (hw := gY rfl rfl rfl (bval_no h207))
 refine q_pick false (v := bool (decide (1000 < ((a1.Kerns.getD (Int.toNat v118) z_api_Kern).By)))) (bval_no h207) rfl ?_
 refine nl ?_
 cases H
 exact ⟨rfl, _, rfl, gR, ⟨rfl, rfl, rfl, rfl, rfl, rfl, rfl, rfl, trivial⟩, hI198, trivial⟩
 clear hC
 rintro e r ds wd204 ⟨rfl, G202, rfl, hG203, hHas, hI205, _⟩
 rw [hHas.eq]; clear hHas
 refine q_mv (v := bool v201) rfl ?_
 obtain ⟨v208, hC, H⟩ := bS H
 refine wpq_split 7 (K := fun e r ds w => e = .normal ∧ ∃ (G209 : Gh), ds = [] ∧ G202 ≤ G209 ∧ Has [(1, pointer (some ⟨g13, 0, none⟩)), (5, int .i64 v118), (6, pointer (some ⟨g155, 0, none⟩)), (65, slice A6 a1.Kerns.length c7), (66, int .i64 (a1.Kerns.length : Int)), (67, int .i64 v118), (104, bool v208)] r ∧ Hp G209 (bx g185 [int .u8 y182.Byte, int .i64 y182.Advance] 98 :: bx g170 [int .u8 y167.Byte, int .i64 y167.Advance] 98 :: bx g155 [int .u8 ((a1.Kerns.getD (Int.toNat v118) z_api_Kern).Left), int .u8 ((a1.Kerns.getD (Int.toNat v118) z_api_Kern).Right), int .i64 ((a1.Kerns.getD (Int.toNat v118) z_api_Kern).By)] 114 :: bx g13 [slice A2 a1.Glyphs.length c3, slice A6 a1.Kerns.length c7] 25 :: L) w ∧ True) ?_ ?_
 replace H := hC
 by_cases h214 : v201 = true
 replace H := iY h214 H
 refine wN (gN rfl rfl rfl (bval_yes h214) rfl) ?_
 refine wN (gN rfl rfl rfl (bval_yes h214) rfl) ?_
 refine wN (gN rfl rfl rfl (bval_yes h214) rfl) ?_
 refine wN (gN rfl rfl rfl (bval_yes h214) rfl) ?_
 refine wN (gN rfl rfl rfl (bval_yes h214) rfl) ?_
 refine wN (gN rfl rfl rfl (bval_yes h214) rfl) ?_
 refine q_pick true (v := bool true) (bval_yes h214) rfl ?_
 refine nl ?_
 cases H
 exact ⟨rfl, _, rfl, gR, ⟨rfl, rfl, rfl, rfl, rfl, rfl, rfl, trivial⟩, hI205, trivial⟩
 replace H := iN h214 H
 refine q_fa (a' := ⟨g155, 2, none⟩) fl114_2 rfl (add_plain _ _ _) ?_ (hw := gY rfl rfl rfl (bval_no h214))
 refine q_ld hI205 2 (v := int .i64 ((a1.Kerns.getD (Int.toNat v118) z_api_Kern).By)) ag3 rfl rfl rfl ?_ (hw := gY rfl rfl rfl (bval_no h214))
 refine q_fa (a' := ⟨g170, 1, none⟩) fl98_1 rfl (add_plain _ _ _) ?_ (hw := gY rfl rfl rfl (bval_no h214))
 refine q_ld hI205 1 (v := int .i64 y167.Advance) ag3 rfl rfl rfl ?_ (hw := gY rfl rfl rfl (bval_no h214))
 refine q_neg rfl ?_ (hw := gY rfl rfl rfl (bval_no h214))
 refine q_lss rfl rfl ?_ (hw := gY rfl rfl rfl (bval_no h214))
 refine q_pick false (v := bool (decide (((a1.Kerns.getD (Int.toNat v118) z_api_Kern).By) < (w64 (0 - y167.Advance))))) (bval_no h214) rfl ?_
 refine nl ?_
 cases H
 exact ⟨rfl, _, rfl, gR, ⟨rfl, rfl, rfl, rfl, rfl, rfl, rfl, trivial⟩, hI205, trivial⟩
 clear hC
 rintro e r ds wd211 ⟨rfl, G209, rfl, hG210, hHas, hI212, _⟩
 rw [hHas.eq]; clear hHas
 refine nl ?_
 refine hK193 _ _ _ ?_
 by_cases h215 : v208 = true
 replace H := iY h215 H
 refine wpc_true (bval_yes h215) ?_
 refine sr fun K216 hK217 => ?_
 refine q_as (v := bool false) rfl ?_
 refine nl ?_
 refine hK217 _ _ _ ?_
 refine wpc_ret ?_
 have hI218 := Hp.front hI212 3 rfl
 have hI219 := Hp.sub hI218 (sk (sd (sd (sd se))))
 cases H
 exact ⟨rfl, _, rfl, (gT (gT (gT (gT (gT hG135 hG164) hG179) hG196) hG203) hG210), ⟨rfl, trivial⟩, hI219, trivial⟩
 replace H := iN h215 H
 refine wpc_false (bval_no h215) ?_
 refine wpc_skip ?_
 refine hK191 _ _ _ ?_
 refine sQ fun K220 hK221 => ?_
 obtain ⟨v237, hC, H⟩ := bS H
 refine wpc_mono (Q := fun e r ds w => e = .normal ∧ ∃ (G238 : Gh), ds = [] ∧ G209 ≤ G238 ∧ Has [(1, pointer (some ⟨g13, 0, none⟩)), (65, slice A6 a1.Kerns.length c7), (66, int .i64 (a1.Kerns.length : Int)), (67, int .i64 v118), (121, bool v237)] r ∧ Hp G238 (bx g185 [int .u8 y182.Byte, int .i64 y182.Advance] 98 :: bx g170 [int .u8 y167.Byte, int .i64 y167.Advance] 98 :: bx g155 [int .u8 ((a1.Kerns.getD (Int.toNat v118) z_api_Kern).Left), int .u8 ((a1.Kerns.getD (Int.toNat v118) z_api_Kern).Right), int .i64 ((a1.Kerns.getD (Int.toNat v118) z_api_Kern).By)] 114 :: bx g13 [slice A2 a1.Glyphs.length c3, slice A6 a1.Kerns.length c7] 25 :: L) w ∧ True) ?_ ?_
 replace H := hC
 by_cases h243 : 0 < v118
 replace H := iY h243 H
 obtain ⟨⟨h244, h244'⟩, H⟩ := iS H
 obtain ⟨ad245, cs246, hA247, hK248, hn249, hc250⟩ := Dat.get (Dat.mono (gT (gT (gT (gT (gT (gT (gT hG22 hG51) hG135) hG164) hG179) hG196) hG203) hG210) hD9) z_api_Kern (w64 (v118 - 1)) h244 h244'
 obtain ⟨rfl⟩ := open_api_Kern hK248
 obtain ⟨y255, hy440, H⟩ := bS H
 refine wpc_drawL [0, 1, 3, 7, 15, 7, 39, 127, 255, 7, 519, 7, 2055, 7687, 16383, 32767, 65535] (fun D r w => (∃ (G' : Gh), G209 ≤ G' ∧ Regs [(1, pointer (some ⟨g13, 0, none⟩)), (5, int .i64 v118), (6, pointer (some ⟨g155, 0, none⟩)), (65, slice A6 a1.Kerns.length c7), (66, int .i64 (a1.Kerns.length : Int)), (67, int .i64 v118)] [] [(0, 105, int .i64 v118), (1, 106, bool (decide (0 < v118))), (2, 107, bool (decide (0 < v118))), (3, 108, pointer (some ⟨g13, 1, none⟩)), (4, 109, slice A6 a1.Kerns.length c7), (5, 110, int .i64 v118), (6, 111, int .i64 (w64 (v118 - 1))), (7, 112, pointer (some (ad245.add (Int.toNat (w64 (v118 - 1)) * 3)))), (8, 113, agg [int .u8 ((a1.Kerns.getD (Int.toNat (w64 (v118 - 1))) z_api_Kern).Left), int .u8 ((a1.Kerns.getD (Int.toNat (w64 (v118 - 1))) z_api_Kern).Right), int .i64 ((a1.Kerns.getD (Int.toNat (w64 (v118 - 1))) z_api_Kern).By)].toArray), (9, 114, pointer (some ⟨g155, 0, none⟩)), (10, 115, int .u8 ((a1.Kerns.getD (Int.toNat v118) z_api_Kern).Left)), (11, 116, pointer (some ⟨g155, 1, none⟩)), (12, 117, int .u8 ((a1.Kerns.getD (Int.toNat v118) z_api_Kern).Right)), (13, 118, agg [int .u8 ((a1.Kerns.getD (Int.toNat v118) z_api_Kern).Left), int .u8 ((a1.Kerns.getD (Int.toNat v118) z_api_Kern).Right)].toArray), (14, 119, int .i64 y255), (15, 120, bool (decide (0 ≤ y255))), (16, 121, bool (decide (0 ≤ y255)))] D r ∧ Hp G' (bx g185 [int .u8 y182.Byte, int .i64 y182.Advance] 98 :: bx g170 [int .u8 y167.Byte, int .i64 y167.Advance] 98 :: bx g155 [int .u8 ((a1.Kerns.getD (Int.toNat v118) z_api_Kern).Left), int .u8 ((a1.Kerns.getD (Int.toNat v118) z_api_Kern).Right), int .i64 ((a1.Kerns.getD (Int.toNat v118) z_api_Kern).By)] 114 :: bx g13 [slice A2 a1.Glyphs.length c3, slice A6 a1.Kerns.length c7] 25 :: L) w)) mixo rfl rfl ?_ ?_ ?_
 exact ⟨_, Gh.le_refl _, Regs.start ⟨rfl, rfl, rfl, rfl, rfl, rfl, trivial⟩ trivial, hI212.drew⟩
 refine ⟨?_, ?_, ?_, ?_, ?_, ?_, ?_, ?_, ?_, ?_, ?_, ?_, ?_, ?_, ?_, ?_, ?_, trivial⟩
 rintro D r wd455 ⟨G451, hG452, hReg454, hI453⟩ hDi hpre hpost
 obtain ⟨r0, rfl⟩ := Has.ex (cC (hReg454.ins.get 1 rfl) cN)
 refine q_mv (v := int .i64 v118) rfl ?_
 exact nl ⟨rfl, ⟨_, hG452, (Regs.step hReg454 hDi rfl rfl rfl rfl), hI453⟩⟩
 rintro D r wd455 ⟨G451, hG452, hReg454, hI453⟩ hDi hpre hpost
 obtain ⟨r0, rfl⟩ := Has.ex (cC (hReg454.get 0 rfl (hpre 0 rfl)) cN)
 refine q_gtr rfl rfl ?_
 exact nl ⟨rfl, ⟨_, hG452, (Regs.step hReg454 hDi rfl rfl rfl rfl), hI453⟩⟩
 rintro D r wd455 ⟨G451, hG452, hReg454, hI453⟩ hDi hpre hpost
 obtain ⟨r0, rfl⟩ := Has.ex (cC (hReg454.get 1 rfl (hpre 1 rfl)) cN)
 refine q_mv (v := bool (decide (0 < v118))) rfl ?_
 exact nl ⟨rfl, ⟨_, hG452, (Regs.step hReg454 hDi rfl rfl rfl rfl), hI453⟩⟩
 rintro D r wd455 ⟨G451, hG452, hReg454, hI453⟩ hDi hpre hpost
 obtain ⟨r0, rfl⟩ := Has.ex (cC (hReg454.ins.get 0 rfl) (cC (hReg454.get 2 rfl (hpre 2 rfl)) cN))
 refine q_fa (a' := ⟨g13, 1, none⟩) fl25_1 rfl (add_plain _ _ _) ?_ (hw := gY rfl rfl rfl (bool_yes h243))
 exact nl ⟨rfl, ⟨_, hG452, (Regs.step hReg454 hDi rfl rfl rfl rfl), hI453⟩⟩
 rintro D r wd455 ⟨G451, hG452, hReg454, hI453⟩ hDi hpre hpost
 obtain ⟨r0, rfl⟩ := Has.ex (cC (hReg454.get 2 rfl (hpre 2 rfl)) (cC (hReg454.get 3 rfl (hpre 3 rfl)) cN))
 refine q_ld hI453 3 (v := slice A6 a1.Kerns.length c7) ag23 rfl rfl rfl ?_ (hw := gY rfl rfl rfl (bool_yes h243))
 exact nl ⟨rfl, ⟨_, hG452, (Regs.step hReg454 hDi rfl rfl rfl rfl), hI453⟩⟩
 rintro D r wd455 ⟨G451, hG452, hReg454, hI453⟩ hDi hpre hpost
 obtain ⟨r0, rfl⟩ := Has.ex (cC (hReg454.ins.get 1 rfl) (cC (hReg454.get 2 rfl (hpre 2 rfl)) cN))
 refine q_mv (v := int .i64 v118) rfl ?_ (hw := gY rfl rfl rfl (bool_yes h243))
 exact nl ⟨rfl, ⟨_, hG452, (Regs.step hReg454 hDi rfl rfl rfl rfl), hI453⟩⟩
 rintro D r wd455 ⟨G451, hG452, hReg454, hI453⟩ hDi hpre hpost
 obtain ⟨r0, rfl⟩ := Has.ex (cC (hReg454.get 2 rfl (hpre 2 rfl)) (cC (hReg454.get 5 rfl (hpre 5 rfl)) cN))
 refine q_sub rfl rfl ?_ (hw := gY rfl rfl rfl (bool_yes h243))
 exact nl ⟨rfl, ⟨_, hG452, (Regs.step hReg454 hDi rfl rfl rfl rfl), hI453⟩⟩
 rintro D r wd455 ⟨G451, hG452, hReg454, hI453⟩ hDi hpre hpost
 obtain ⟨r0, rfl⟩ := Has.ex (cC (hReg454.get 2 rfl (hpre 2 rfl)) (cC (hReg454.get 4 rfl (hpre 4 rfl)) (cC (hReg454.get 6 rfl (hpre 6 rfl)) cN)))
 refine q_ia el23 rfl hA247 rfl h244 h244' ?_ (hw := gY rfl rfl rfl (bool_yes h243))
 exact nl ⟨rfl, ⟨_, hG452, (Regs.step hReg454 hDi rfl rfl rfl rfl), hI453⟩⟩
 rintro D r wd455 ⟨G451, hG452, hReg454, hI453⟩ hDi hpre hpost
 obtain ⟨r0, rfl⟩ := Has.ex (cC (hReg454.get 2 rfl (hpre 2 rfl)) (cC (hReg454.get 7 rfl (hpre 7 rfl)) cN))
 refine q_lfA hI453 ag114 rfl (cs := [int .u8 ((a1.Kerns.getD (Int.toNat (w64 (v118 - 1))) z_api_Kern).Left), int .u8 ((a1.Kerns.getD (Int.toNat (w64 (v118 - 1))) z_api_Kern).Right), int .i64 ((a1.Kerns.getD (Int.toNat (w64 (v118 - 1))) z_api_Kern).By)]) rfl (fun j v hv => hG452.cel _ _ (hc250 j v hv)) ?_ (hw := gY rfl rfl rfl (bool_yes h243))
 exact nl ⟨rfl, ⟨_, hG452, (Regs.step hReg454 hDi rfl rfl rfl rfl), hI453⟩⟩
 rintro D r wd455 ⟨G451, hG452, hReg454, hI453⟩ hDi hpre hpost
 obtain ⟨r0, rfl⟩ := Has.ex (cC (hReg454.ins.get 2 rfl) (cC (hReg454.get 2 rfl (hpre 2 rfl)) cN))
 refine q_fa (a' := ⟨g155, 0, none⟩) fl114_0 rfl (add_plain _ _ _) ?_ (hw := gY rfl rfl rfl (bool_yes h243))
 exact nl ⟨rfl, ⟨_, hG452, (Regs.step hReg454 hDi rfl rfl rfl rfl), hI453⟩⟩
 rintro D r wd455 ⟨G451, hG452, hReg454, hI453⟩ hDi hpre hpost
 obtain ⟨r0, rfl⟩ := Has.ex (cC (hReg454.get 2 rfl (hpre 2 rfl)) (cC (hReg454.get 9 rfl (hpre 9 rfl)) cN))
 refine q_ld hI453 2 (v := int .u8 ((a1.Kerns.getD (Int.toNat v118) z_api_Kern).Left)) ag5 rfl rfl rfl ?_ (hw := gY rfl rfl rfl (bool_yes h243))
 exact nl ⟨rfl, ⟨_, hG452, (Regs.step hReg454 hDi rfl rfl rfl rfl), hI453⟩⟩
 rintro D r wd455 ⟨G451, hG452, hReg454, hI453⟩ hDi hpre hpost
 obtain ⟨r0, rfl⟩ := Has.ex (cC (hReg454.ins.get 2 rfl) (cC (hReg454.get 2 rfl (hpre 2 rfl)) cN))
 refine q_fa (a' := ⟨g155, 1, none⟩) fl114_1 rfl (add_plain _ _ _) ?_ (hw := gY rfl rfl rfl (bool_yes h243))
 exact nl ⟨rfl, ⟨_, hG452, (Regs.step hReg454 hDi rfl rfl rfl rfl), hI453⟩⟩
 rintro D r wd455 ⟨G451, hG452, hReg454, hI453⟩ hDi hpre hpost
 obtain ⟨r0, rfl⟩ := Has.ex (cC (hReg454.get 2 rfl (hpre 2 rfl)) (cC (hReg454.get 11 rfl (hpre 11 rfl)) cN))
 refine q_ld hI453 2 (v := int .u8 ((a1.Kerns.getD (Int.toNat v118) z_api_Kern).Right)) ag5 rfl rfl rfl ?_ (hw := gY rfl rfl rfl (bool_yes h243))
 exact nl ⟨rfl, ⟨_, hG452, (Regs.step hReg454 hDi rfl rfl rfl rfl), hI453⟩⟩
 rintro D r wd455 ⟨G451, hG452, hReg454, hI453⟩ hDi hpre hpost
 obtain ⟨r0, rfl⟩ := Has.ex (cC (hReg454.get 2 rfl (hpre 2 rfl)) (cC (hReg454.get 10 rfl (hpre 10 rfl)) (cC (hReg454.get 12 rfl (hpre 12 rfl)) cN)))
 refine q_build (vs := [(0, int .u8 ((a1.Kerns.getD (Int.toNat v118) z_api_Kern).Left)), (1, int .u8 ((a1.Kerns.getD (Int.toNat v118) z_api_Kern).Right))]) (cs := [int .u8 ((a1.Kerns.getD (Int.toNat v118) z_api_Kern).Left), int .u8 ((a1.Kerns.getD (Int.toNat v118) z_api_Kern).Right)]) ze119 pl119 rfl rfl ?_ (hw := gY rfl rfl rfl (bool_yes h243))
 exact nl ⟨rfl, ⟨_, hG452, (Regs.step hReg454 hDi rfl rfl rfl rfl), hI453⟩⟩
 rintro D r wd455 ⟨G451, hG452, hReg454, hI453⟩ hDi hpre hpost
 obtain ⟨r0, rfl⟩ := Has.ex (cC (hReg454.get 2 rfl (hpre 2 rfl)) (cC (hReg454.get 8 rfl (hpre 8 rfl)) (cC (hReg454.get 13 rfl (hpre 13 rfl)) cN)))
 refine q_cv (vs := [agg [int .u8 ((a1.Kerns.getD (Int.toNat (w64 (v118 - 1))) z_api_Kern).Left), int .u8 ((a1.Kerns.getD (Int.toNat (w64 (v118 - 1))) z_api_Kern).Right), int .i64 ((a1.Kerns.getD (Int.toNat (w64 (v118 - 1))) z_api_Kern).By)].toArray, agg [int .u8 ((a1.Kerns.getD (Int.toNat v118) z_api_Kern).Left), int .u8 ((a1.Kerns.getD (Int.toNat v118) z_api_Kern).Right)].toArray]) bo70 rfl rfl (font_order_spec (a1 := (a1.Kerns.getD (Int.toNat (w64 (v118 - 1))) z_api_Kern)) (a2 := (⟨(a1.Kerns.getD (Int.toNat v118) z_api_Kern).Left, (a1.Kerns.getD (Int.toNat v118) z_api_Kern).Right⟩ : font_pair)) hI453 hy440) ?_ (hw := gY rfl rfl rfl (bool_yes h243))
 rintro _ wd253 ⟨G251, hG252, hI254, rfl⟩
 refine ⟨_, rfl, ?_⟩
 exact nl ⟨rfl, ⟨_, (gT hG452 hG252), (Regs.step hReg454 hDi rfl rfl rfl rfl), hI254⟩⟩
 rintro D r wd455 ⟨G451, hG452, hReg454, hI453⟩ hDi hpre hpost
 obtain ⟨r0, rfl⟩ := Has.ex (cC (hReg454.get 2 rfl (hpre 2 rfl)) (cC (hReg454.get 14 rfl (hpre 14 rfl)) cN))
 refine q_geq rfl rfl ?_ (hw := gY rfl rfl rfl (bool_yes h243))
 exact nl ⟨rfl, ⟨_, hG452, (Regs.step hReg454 hDi rfl rfl rfl rfl), hI453⟩⟩
 rintro D r wd455 ⟨G451, hG452, hReg454, hI453⟩ hDi hpre hpost
 obtain ⟨r0, rfl⟩ := Has.ex (cC (hReg454.get 2 rfl (hpre 2 rfl)) (cC (hReg454.get 15 rfl (hpre 15 rfl)) cN))
 refine q_pick true (v := bool (decide (0 ≤ y255))) (bool_yes h243) rfl ?_
 exact nl ⟨rfl, ⟨_, hG452, (Regs.step hReg454 hDi rfl rfl rfl rfl), hI453⟩⟩
 intro D r wd455 hall hR
 obtain ⟨G451, hG452, hReg454, hI453⟩ := hR
 obtain ⟨r0, rfl⟩ := Has.ex (cC (hReg454.ins.get 0 rfl) (cC (hReg454.ins.get 3 rfl) (cC (hReg454.ins.get 4 rfl) (cC (hReg454.ins.get 5 rfl) (cC (hReg454.get 3 rfl (hall 3 (Nat.le_of_ble_eq_true rfl))) (cC (hReg454.get 4 rfl (hall 4 (Nat.le_of_ble_eq_true rfl))) (cC (hReg454.get 5 rfl (hall 5 (Nat.le_of_ble_eq_true rfl))) (cC (hReg454.get 6 rfl (hall 6 (Nat.le_of_ble_eq_true rfl))) (cC (hReg454.get 7 rfl (hall 7 (Nat.le_of_ble_eq_true rfl))) (cC (hReg454.get 8 rfl (hall 8 (Nat.le_of_ble_eq_true rfl))) (cC (hReg454.get 9 rfl (hall 9 (Nat.le_of_ble_eq_true rfl))) (cC (hReg454.get 10 rfl (hall 10 (Nat.le_of_ble_eq_true rfl))) (cC (hReg454.get 11 rfl (hall 11 (Nat.le_of_ble_eq_true rfl))) (cC (hReg454.get 12 rfl (hall 12 (Nat.le_of_ble_eq_true rfl))) (cC (hReg454.get 13 rfl (hall 13 (Nat.le_of_ble_eq_true rfl))) (cC (hReg454.get 14 rfl (hall 14 (Nat.le_of_ble_eq_true rfl))) (cC (hReg454.get 15 rfl (hall 15 (Nat.le_of_ble_eq_true rfl))) (cC (hReg454.get 16 rfl (hall 16 (Nat.le_of_ble_eq_true rfl))) cN))))))))))))))))))
 cases H
 exact ⟨rfl, _, rfl, hG452, ⟨rfl, rfl, rfl, rfl, rfl, trivial⟩, hI453, trivial⟩
 replace H := iN h243 H
 refine wpc_drawL [0, 1, 3, 7, 15, 7, 39, 127, 255, 7, 519, 7, 2055, 7687, 16383, 32767, 65535] (fun D r w => (∃ (G' : Gh), G209 ≤ G' ∧ Regs [(1, pointer (some ⟨g13, 0, none⟩)), (5, int .i64 v118), (65, slice A6 a1.Kerns.length c7), (66, int .i64 (a1.Kerns.length : Int)), (67, int .i64 v118)] [] [(0, 105, int .i64 v118), (1, 106, bool (decide (0 < v118))), (2, 107, bool (decide (0 < v118))), (3, 108, undef), (4, 109, undef), (5, 110, undef), (6, 111, undef), (7, 112, undef), (8, 113, undef), (9, 114, undef), (10, 115, undef), (11, 116, undef), (12, 117, undef), (13, 118, undef), (14, 119, undef), (15, 120, undef), (16, 121, bool false)] D r ∧ Hp G' (bx g185 [int .u8 y182.Byte, int .i64 y182.Advance] 98 :: bx g170 [int .u8 y167.Byte, int .i64 y167.Advance] 98 :: bx g155 [int .u8 ((a1.Kerns.getD (Int.toNat v118) z_api_Kern).Left), int .u8 ((a1.Kerns.getD (Int.toNat v118) z_api_Kern).Right), int .i64 ((a1.Kerns.getD (Int.toNat v118) z_api_Kern).By)] 114 :: bx g13 [slice A2 a1.Glyphs.length c3, slice A6 a1.Kerns.length c7] 25 :: L) w)) mixo rfl rfl ?_ ?_ ?_
 exact ⟨_, Gh.le_refl _, Regs.start ⟨rfl, rfl, rfl, rfl, rfl, trivial⟩ trivial, hI212.drew⟩
 refine ⟨?_, ?_, ?_, ?_, ?_, ?_, ?_, ?_, ?_, ?_, ?_, ?_, ?_, ?_, ?_, ?_, ?_, trivial⟩
 rintro D r wd460 ⟨G456, hG457, hReg459, hI458⟩ hDi hpre hpost
 obtain ⟨r0, rfl⟩ := Has.ex (cC (hReg459.ins.get 1 rfl) cN)
 refine q_mv (v := int .i64 v118) rfl ?_
 exact nl ⟨rfl, ⟨_, hG457, (Regs.step hReg459 hDi rfl rfl rfl rfl), hI458⟩⟩
 rintro D r wd460 ⟨G456, hG457, hReg459, hI458⟩ hDi hpre hpost
 obtain ⟨r0, rfl⟩ := Has.ex (cC (hReg459.get 0 rfl (hpre 0 rfl)) cN)
 refine q_gtr rfl rfl ?_
 exact nl ⟨rfl, ⟨_, hG457, (Regs.step hReg459 hDi rfl rfl rfl rfl), hI458⟩⟩
 rintro D r wd460 ⟨G456, hG457, hReg459, hI458⟩ hDi hpre hpost
 obtain ⟨r0, rfl⟩ := Has.ex (cC (hReg459.get 1 rfl (hpre 1 rfl)) cN)
 refine q_mv (v := bool (decide (0 < v118))) rfl ?_
 exact nl ⟨rfl, ⟨_, hG457, (Regs.step hReg459 hDi rfl rfl rfl rfl), hI458⟩⟩
 rintro D r wd460 ⟨G456, hG457, hReg459, hI458⟩ hDi hpre hpost
 obtain ⟨r0, rfl⟩ := Has.ex (cC (hReg459.get 2 rfl (hpre 2 rfl)) cN)
 refine wN (gN rfl rfl rfl (bool_no h243) rfl) ?_
 exact nl ⟨rfl, ⟨_, hG457, (Regs.step hReg459 hDi rfl rfl rfl rfl), hI458⟩⟩
 rintro D r wd460 ⟨G456, hG457, hReg459, hI458⟩ hDi hpre hpost
 obtain ⟨r0, rfl⟩ := Has.ex (cC (hReg459.get 2 rfl (hpre 2 rfl)) cN)
 refine wN (gN rfl rfl rfl (bool_no h243) rfl) ?_
 exact nl ⟨rfl, ⟨_, hG457, (Regs.step hReg459 hDi rfl rfl rfl rfl), hI458⟩⟩
 rintro D r wd460 ⟨G456, hG457, hReg459, hI458⟩ hDi hpre hpost
 obtain ⟨r0, rfl⟩ := Has.ex (cC (hReg459.get 2 rfl (hpre 2 rfl)) cN)
 refine wN (gN rfl rfl rfl (bool_no h243) rfl) ?_
 exact nl ⟨rfl, ⟨_, hG457, (Regs.step hReg459 hDi rfl rfl rfl rfl), hI458⟩⟩
 rintro D r wd460 ⟨G456, hG457, hReg459, hI458⟩ hDi hpre hpost
 obtain ⟨r0, rfl⟩ := Has.ex (cC (hReg459.get 2 rfl (hpre 2 rfl)) cN)
 refine wN (gN rfl rfl rfl (bool_no h243) rfl) ?_
 exact nl ⟨rfl, ⟨_, hG457, (Regs.step hReg459 hDi rfl rfl rfl rfl), hI458⟩⟩
 rintro D r wd460 ⟨G456, hG457, hReg459, hI458⟩ hDi hpre hpost
 obtain ⟨r0, rfl⟩ := Has.ex (cC (hReg459.get 2 rfl (hpre 2 rfl)) cN)
 refine wN (gN rfl rfl rfl (bool_no h243) rfl) ?_
 exact nl ⟨rfl, ⟨_, hG457, (Regs.step hReg459 hDi rfl rfl rfl rfl), hI458⟩⟩
 rintro D r wd460 ⟨G456, hG457, hReg459, hI458⟩ hDi hpre hpost
 obtain ⟨r0, rfl⟩ := Has.ex (cC (hReg459.get 2 rfl (hpre 2 rfl)) cN)
 refine wN (gN rfl rfl rfl (bool_no h243) rfl) ?_
 exact nl ⟨rfl, ⟨_, hG457, (Regs.step hReg459 hDi rfl rfl rfl rfl), hI458⟩⟩
 rintro D r wd460 ⟨G456, hG457, hReg459, hI458⟩ hDi hpre hpost
 obtain ⟨r0, rfl⟩ := Has.ex (cC (hReg459.get 2 rfl (hpre 2 rfl)) cN)
 refine wN (gN rfl rfl rfl (bool_no h243) rfl) ?_
 exact nl ⟨rfl, ⟨_, hG457, (Regs.step hReg459 hDi rfl rfl rfl rfl), hI458⟩⟩
 rintro D r wd460 ⟨G456, hG457, hReg459, hI458⟩ hDi hpre hpost
 obtain ⟨r0, rfl⟩ := Has.ex (cC (hReg459.get 2 rfl (hpre 2 rfl)) cN)
 refine wN (gN rfl rfl rfl (bool_no h243) rfl) ?_
 exact nl ⟨rfl, ⟨_, hG457, (Regs.step hReg459 hDi rfl rfl rfl rfl), hI458⟩⟩
 rintro D r wd460 ⟨G456, hG457, hReg459, hI458⟩ hDi hpre hpost
 obtain ⟨r0, rfl⟩ := Has.ex (cC (hReg459.get 2 rfl (hpre 2 rfl)) cN)
 refine wN (gN rfl rfl rfl (bool_no h243) rfl) ?_
 exact nl ⟨rfl, ⟨_, hG457, (Regs.step hReg459 hDi rfl rfl rfl rfl), hI458⟩⟩
 rintro D r wd460 ⟨G456, hG457, hReg459, hI458⟩ hDi hpre hpost
 obtain ⟨r0, rfl⟩ := Has.ex (cC (hReg459.get 2 rfl (hpre 2 rfl)) cN)
 refine wN (gN rfl rfl rfl (bool_no h243) rfl) ?_
 exact nl ⟨rfl, ⟨_, hG457, (Regs.step hReg459 hDi rfl rfl rfl rfl), hI458⟩⟩
 rintro D r wd460 ⟨G456, hG457, hReg459, hI458⟩ hDi hpre hpost
 obtain ⟨r0, rfl⟩ := Has.ex (cC (hReg459.get 2 rfl (hpre 2 rfl)) cN)
 refine wN (gN rfl rfl rfl (bool_no h243) rfl) ?_
 exact nl ⟨rfl, ⟨_, hG457, (Regs.step hReg459 hDi rfl rfl rfl rfl), hI458⟩⟩
 rintro D r wd460 ⟨G456, hG457, hReg459, hI458⟩ hDi hpre hpost
 obtain ⟨r0, rfl⟩ := Has.ex (cC (hReg459.get 2 rfl (hpre 2 rfl)) cN)
 refine wN (gN rfl rfl rfl (bool_no h243) rfl) ?_
 exact nl ⟨rfl, ⟨_, hG457, (Regs.step hReg459 hDi rfl rfl rfl rfl), hI458⟩⟩
 rintro D r wd460 ⟨G456, hG457, hReg459, hI458⟩ hDi hpre hpost
 obtain ⟨r0, rfl⟩ := Has.ex (cC (hReg459.get 2 rfl (hpre 2 rfl)) cN)
 refine wN (gN rfl rfl rfl (bool_no h243) rfl) ?_
 exact nl ⟨rfl, ⟨_, hG457, (Regs.step hReg459 hDi rfl rfl rfl rfl), hI458⟩⟩
 rintro D r wd460 ⟨G456, hG457, hReg459, hI458⟩ hDi hpre hpost
 obtain ⟨r0, rfl⟩ := Has.ex (cC (hReg459.get 2 rfl (hpre 2 rfl)) (cC (hReg459.get 15 rfl (hpre 15 rfl)) cN))
 refine q_pick false (v := bool false) (bool_no h243) rfl ?_
 exact nl ⟨rfl, ⟨_, hG457, (Regs.step hReg459 hDi rfl rfl rfl rfl), hI458⟩⟩
 intro D r wd460 hall hR
 obtain ⟨G456, hG457, hReg459, hI458⟩ := hR
 obtain ⟨r0, rfl⟩ := Has.ex (cC (hReg459.ins.get 0 rfl) (cC (hReg459.ins.get 2 rfl) (cC (hReg459.ins.get 3 rfl) (cC (hReg459.ins.get 4 rfl) (cC (hReg459.get 16 rfl (hall 16 (Nat.le_of_ble_eq_true rfl))) cN)))))
 cases H
 exact ⟨rfl, _, rfl, hG457, ⟨rfl, rfl, rfl, rfl, rfl, trivial⟩, hI458, trivial⟩
 clear hC
 rintro e r ds wd240 ⟨rfl, G238, rfl, hG239, hHas, hI241, _⟩
 rw [hHas.eq]; clear hHas
 refine hK221 _ _ _ ?_
 by_cases h461 : v237 = true
 replace H := iY h461 H
 refine wpc_true (bval_yes h461) ?_
 refine sr fun K462 hK463 => ?_
 refine q_as (v := bool false) rfl ?_
 refine nl ?_
 refine hK463 _ _ _ ?_
 refine wpc_ret ?_
 have hI464 := Hp.front hI241 3 rfl
 have hI465 := Hp.sub hI464 (sk (sd (sd (sd se))))
 cases H
 exact ⟨rfl, _, rfl, (gT (gT (gT (gT (gT (gT hG135 hG164) hG179) hG196) hG203) hG210) hG239), ⟨rfl, trivial⟩, hI465, trivial⟩
 replace H := iN h461 H
 refine wpc_false (bval_no h461) ?_
 refine wpc_skip ?_
 refine hK144 _ _ _ ?_
 refine wpc_region ?_
 refine q_add rfl rfl ?_
 refine q_mv (v := int .i64 (w64 (v118 + 1))) rfl ?_
 refine nl ?_
 have hI466 := Hp.front hI241 3 rfl
 have hI467 := Hp.sub hI466 (sk (sd (sd (sd se))))
 exact ih _ _ H _ _ _ (gT (gT (gT (gT (gT (gT hG135 hG164) hG179) hG196) hG203) hG210) hG239) ⟨rfl, rfl, rfl, rfl, trivial⟩ hI467 rfl
 replace H := iN h142 H
 refine wpc_false (bool_no h142) ?_
 refine wpc_exit ?_
 cases H
 exact ⟨rfl, _, rfl, hG135, trivial, hI137, trivial⟩
 clear hC
 rcases o133 with _ | _
 rintro e r ds wd127 ⟨rfl, G125, rfl, hG126, hHas, hI128, _⟩
 rw [hHas.eq]; clear hHas
 have hI468 := Hp.sub hI128 (sd se)
 cases H
 exact ⟨.inr rfl, rfl, _, ⟨_, _, rfl, rfl, rfl⟩, _, (gT (gT hG22 hG51) hG126), hI468, rfl⟩
 rintro e r ds wd131 ⟨rfl, G129, rfl, hG130, hHas, hI132, _⟩
 rw [hHas.eq]; clear hHas
 refine hK111 _ _ _ ?_
 refine sr fun K469 hK470 => ?_
 refine q_as (v := bool true) rfl ?_
 refine nl ?_
 refine hK470 _ _ _ ?_
 refine wpc_ret ?_
 have hI471 := Hp.sub hI132 (sd se)
 cases H
 exact ⟨.inr rfl, rfl, _, ⟨_, _, rfl, rfl, rfl⟩, _, (gT (gT hG22 hG51) hG130), hI471, rfl⟩
set_option maxHeartbeats 1000000 in
theorem inline_prepare_1_spec {a1 : api_Break} {r1011 : Bool} {G : Gh} {L : List Itm} {w : World} (hI : Hp G (L) w) (H : inline_prepare_1 a1 = some r1011) :
    Calls Tryz.prog 55 [agg [int .i64 a1.At, bool a1.Hyphen].toArray].toArray w fun e w' => ∃ (G' : Gh), G ≤ G' ∧ Hp G' (L) w' ∧ e = .returned (bool r1011) := by
 refine calls_intro (N := 5) Tryz.func55 rfl rfl (Nat.le_of_ble_eq_true rfl) ?_
 unfold inline_prepare_1 at H
 refine sr fun K2 hK3 => ?_
 refine q_box hI (v := agg [int .i64 a1.At, bool a1.Hyphen].toArray) (vs := [int .i64 a1.At, bool a1.Hyphen]) rfl rfl (fun g5 wd6 hI7 => ?_)
 refine q_as (v := bool false) rfl ?_
 refine nl ?_
 refine hK3 _ _ _ ?_
 refine sr fun K8 hK9 => ?_
 refine q_fa (a' := ⟨g5, 1, none⟩) fl51_1 rfl (add_plain _ _ _) ?_
 refine q_ld hI7 0 (v := bool a1.Hyphen) ag4 rfl rfl rfl ?_
 refine q_as (v := bool a1.Hyphen) rfl ?_
 refine nl ?_
 refine hK9 _ _ _ ?_
 refine wpc_ret ?_
 have hI10 := Hp.sub hI7 (sd se)
 cases H
 exact ⟨.inr rfl, rfl, _, ⟨_, _, rfl, rfl, rfl⟩, _, gR, hI10, rfl⟩
set_option maxHeartbeats 1000000 in
theorem font_Has_spec {a1 : api_Font} {a10 : ByteArray} {A2 : Option Addr} {c3 : Nat} {A6 : Option Addr} {c7 : Nat} {r1126 : Bool} {r1127 : Int} {G : Gh} {L : List Itm} {w : World} (hI : Hp G (L) w) (hl4 : a1.Glyphs.length ≤ c3) (hD5 : Dat k_api_Glyph G A2 a1.Glyphs) (hl8 : a1.Kerns.length ≤ c7) (hD9 : Dat k_api_Kern G A6 a1.Kerns) (H : font_Has a1 a10 = some (r1126, r1127)) :
    Calls Tryz.prog 56 [agg [slice A2 a1.Glyphs.length c3, slice A6 a1.Kerns.length c7].toArray, string a10].toArray w fun e w' => ∃ (G' : Gh), G ≤ G' ∧ Hp G' (L) w' ∧ e = .returned (tuple [bool r1126, int .i64 r1127].toArray) := by
 refine calls_intro (N := 36) Tryz.func56 rfl rfl (Nat.le_of_ble_eq_true rfl) ?_
 unfold font_Has at H
 refine sr fun K11 hK12 => ?_
 refine q_box hI (v := agg [slice A2 a1.Glyphs.length c3, slice A6 a1.Kerns.length c7].toArray) (vs := [slice A2 a1.Glyphs.length c3, slice A6 a1.Kerns.length c7]) rfl rfl (fun g14 wd15 hI16 => ?_)
 refine q_as (v := bool false) rfl ?_
 refine q_as (v := int .i64 0) rfl ?_
 refine nl ?_
 refine hK12 _ _ _ ?_
 refine sQ fun K17 hK18 => ?_
 refine sr fun K19 hK20 => ?_
 refine q_ldA hI16 0 (cs := [slice A2 a1.Glyphs.length c3, slice A6 a1.Kerns.length c7]) ag25 rfl rfl rfl rfl ?_
 obtain ⟨y26, hy21, H⟩ := bS H
 refine q_cv (vs := [agg [slice A2 a1.Glyphs.length c3, slice A6 a1.Kerns.length c7].toArray]) bo36 rfl rfl (font_Valid_spec (a1 := a1) hI16 hl4 hD5 hl8 hD9 hy21) ?_
 rintro _ wd24 ⟨G22, hG23, hI25, rfl⟩
 refine ⟨_, rfl, ?_⟩
 refine q_not rfl ?_
 refine q_mv (v := bool (!y26)) rfl ?_
 obtain ⟨v27, hC, H⟩ := bS H
 refine wpq_split 4 (K := fun e r ds w => e = .normal ∧ ∃ (G28 : Gh), ds = [] ∧ G22 ≤ G28 ∧ Has [(1, string a10), (2, pointer (some ⟨g14, 0, none⟩)), (17, bool v27)] r ∧ Hp G28 (bx g14 [slice A2 a1.Glyphs.length c3, slice A6 a1.Kerns.length c7] 25 :: L) w ∧ True) ?_ ?_
 replace H := hC
 by_cases h33 : (!y26) = true
 replace H := iY h33 H
 refine wN (gN rfl rfl rfl (bval_yes h33) rfl) ?_
 refine wN (gN rfl rfl rfl (bval_yes h33) rfl) ?_
 refine wN (gN rfl rfl rfl (bval_yes h33) rfl) ?_
 refine q_pick true (v := bool true) (bval_yes h33) rfl ?_
 refine nl ?_
 cases H
 exact ⟨rfl, _, rfl, gR, ⟨rfl, rfl, rfl, trivial⟩, hI25, trivial⟩
 replace H := iN h33 H
 refine q_mv (v := string a10) rfl ?_ (hw := gY rfl rfl rfl (bval_no h33))
 obtain ⟨y39, hy34, H⟩ := bS H
 refine q_cv (vs := [string a10]) bo37 rfl rfl (text_Valid_spec (a1 := a10) hI25 hy34) ?_ (hw := gY rfl rfl rfl (bval_no h33))
 rintro _ wd37 ⟨G35, hG36, hI38, rfl⟩
 refine ⟨_, rfl, ?_⟩
 refine q_not rfl ?_ (hw := gY rfl rfl rfl (bval_no h33))
 refine q_pick false (v := bool (!y39)) (bval_no h33) rfl ?_
 refine nl ?_
 cases H
 exact ⟨rfl, _, rfl, hG36, ⟨rfl, rfl, rfl, trivial⟩, hI38, trivial⟩
 clear hC
 rintro e r ds wd30 ⟨rfl, G28, rfl, hG29, hHas, hI31, _⟩
 rw [hHas.eq]; clear hHas
 refine nl ?_
 refine hK20 _ _ _ ?_
 by_cases h40 : v27 = true
 replace H := iY h40 H
 refine wpc_true (bval_yes h40) ?_
 refine sr fun K41 hK42 => ?_
 refine q_as (v := bool false) rfl ?_
 refine q_as (v := int .i64 1) rfl ?_
 refine nl ?_
 refine hK42 _ _ _ ?_
 refine wpc_ret ?_
 have hI43 := Hp.sub hI31 (sd se)
 cases H
 exact ⟨.inr rfl, rfl, _, ⟨_, _, rfl, rfl, ⟨_, _, rfl, rfl, rfl⟩⟩, _, (gT hG23 hG29), hI43, rfl⟩
 replace H := iN h40 H
 refine wpc_false (bval_no h40) ?_
 refine wpc_skip ?_
 refine hK18 _ _ _ ?_
 refine sQ fun K44 hK45 => ?_
 refine sr fun K46 hK47 => ?_
 refine q_mv (v := string a10) rfl ?_
 refine q_rgs hI31 so9 rfl (fun g49 wd50 hI51 => ?_)
 refine nl ?_
 refine hK47 _ _ _ ?_
 refine wpc_block ?_
 obtain ⟨o73, hC, H⟩ := bS H
 refine wpc_mono (Q := fun e r ds w => match (generalizing := false) o73 with | (Sum.inl v63) => e = .ret ∧ ∃ (G65 : Gh), ds = [] ∧ G28 ≤ G65 ∧ Has [(4, bool false), (5, int .i64 0)] r ∧ Hp G65 (ob g49 (Obj.stringIter a10 v63) :: bx g14 [slice A2 a1.Glyphs.length c3, slice A6 a1.Kerns.length c7] 25 :: L) w ∧ True | (Sum.inr v64) => e = .exit 0 ∧ ∃ (G69 : Gh), ds = [] ∧ G28 ≤ G69 ∧ Has [] r ∧ Hp G69 (ob g49 (Obj.stringIter a10 v64) :: bx g14 [slice A2 a1.Glyphs.length c3, slice A6 a1.Kerns.length c7] 25 :: L) w ∧ True) ?_ ?_
 clear H
 refine wpc_loop fun I hLp => ?_
 refine font_Has_l62.partial_correctness a1 a10 (fun v56 o => ∀ (G74 : Gh) (r : Rg) (w : World), G28 ≤ G74 → Has [(2, pointer (some ⟨g14, 0, none⟩)), (19, pointer (some ⟨g49, 0, none⟩))] r → Hp G74 (ob g49 (Obj.stringIter a10 v56) :: bx g14 [slice A2 a1.Glyphs.length c3, slice A6 a1.Kerns.length c7] 25 :: L) w → o = o73 → I r [] w) ?_ 0 _ hC _ _ _ gR ⟨rfl, rfl, trivial⟩ hI51 rfl
 intro _ ih v56 o H G74 r wd76 hG75 hHas hI77 ho
 rw [ho] at H; clear ho
 rw [hHas.eq]; clear hHas
 refine hLp _ _ _ ?_
 refine sr fun K78 hK79 => ?_
 by_cases h80 : v56 < a10.size
 replace H := iY h80 H
 refine q_nxy hI77 0 rfl rfl h80 (fun wd81 hI82 => ?_)
 refine q_ex (v := bool true) rfl rfl ?_
 refine nl ?_
 refine hK79 _ _ _ ?_
 refine sQ fun K83 hK84 => ?_
 refine wpc_true rfl ?_
 refine wpc_skip ?_
 refine hK84 _ _ _ ?_
 refine wpc_block ?_
 refine sr fun K85 hK86 => ?_
 refine q_ex (v := int .i32 ((Utf8.decode a10 v56).1 : Int)) rfl rfl ?_
 refine q_as (v := int .i32 ((Utf8.decode a10 v56).1 : Int)) rfl ?_
 refine nl ?_
 refine hK86 _ _ _ ?_
 refine sr fun K87 hK88 => ?_
 refine q_ldA hI82 1 (cs := [slice A2 a1.Glyphs.length c3, slice A6 a1.Kerns.length c7]) ag25 rfl rfl rfl rfl ?_
 refine q_mv (v := int .i32 ((Utf8.decode a10 v56).1 : Int)) rfl ?_
 refine q_cvi ik21 ik5 rfl ?_
 obtain ⟨⟨y94, y95⟩, hy89, H⟩ := bS H
 refine q_cv (vs := [agg [slice A2 a1.Glyphs.length c3, slice A6 a1.Kerns.length c7].toArray, int .u8 (wu8 (((Utf8.decode a10 v56).1 : Int)))]) bo69 rfl rfl (font_glyph_spec (a1 := a1) (a10 := wu8 (((Utf8.decode a10 v56).1 : Int))) hI82 hl4 (Dat.mono (gT (gT hG23 hG29) hG75) hD5) hl8 (Dat.mono (gT (gT hG23 hG29) hG75) hD9) hy89) ?_
 rintro _ wd92 ⟨G90, hG91, hI93, rfl⟩
 refine ⟨_, rfl, ?_⟩
 refine q_mv (v := tuple [agg [int .u8 y94.Byte, int .i64 y94.Advance].toArray, bool y95].toArray) rfl ?_
 refine q_ex (v := agg [int .u8 y94.Byte, int .i64 y94.Advance].toArray) rfl rfl ?_
 refine q_ex (v := bool y95) rfl rfl ?_
 refine q_alloc hI93 ze98 (fun g97 wd98 hI99 => ?_)
 refine q_stA hI99 0 (v := agg [int .u8 y94.Byte, int .i64 y94.Advance].toArray) (cs := [int .u8 y94.Byte, int .i64 y94.Advance]) (vs' := [int .u8 y94.Byte, int .i64 y94.Advance]) ag98 rfl rfl rfl rfl rfl rfl (Nat.le_of_ble_eq_true rfl) rfl (fun wd100 hI101 => ?_)
 refine q_as (v := bool y95) rfl ?_
 refine nl ?_
 refine hK88 _ _ _ ?_
 refine sr fun K102 hK103 => ?_
 refine q_mv (v := bool y95) rfl ?_
 refine q_not rfl ?_
 refine q_mv (v := bool (!y95)) rfl ?_
 obtain ⟨v104, hC, H⟩ := bS H
 refine wpq_split 3 (K := fun e r ds w => e = .normal ∧ ∃ (G105 : Gh), ds = [] ∧ G90 ≤ G105 ∧ Has [(2, pointer (some ⟨g14, 0, none⟩)), (19, pointer (some ⟨g49, 0, none⟩)), (35, bool v104)] r ∧ Hp G105 (bx g97 [int .u8 y94.Byte, int .i64 y94.Advance] 98 :: ob g49 (Obj.stringIter a10 (v56 + (Utf8.decode a10 v56).2)) :: bx g14 [slice A2 a1.Glyphs.length c3, slice A6 a1.Kerns.length c7] 25 :: L) w ∧ True) ?_ ?_
 replace H := hC
 by_cases h110 : (!y95) = true
 replace H := iY h110 H
 refine q_mv (v := int .i32 ((Utf8.decode a10 v56).1 : Int)) rfl ?_ (hw := gY rfl rfl rfl (bval_yes h110))
 refine q_neq rfl rfl ?_ (hw := gY rfl rfl rfl (bval_yes h110))
 refine q_pick true (v := bool (decide (¬ ((Utf8.decode a10 v56).1 : Int) = 126))) (bval_yes h110) rfl ?_
 refine nl ?_
 cases H
 exact ⟨rfl, _, rfl, gR, ⟨rfl, rfl, rfl, trivial⟩, hI101, trivial⟩
 replace H := iN h110 H
 refine wN (gN rfl rfl rfl (bval_no h110) rfl) ?_
 refine wN (gN rfl rfl rfl (bval_no h110) rfl) ?_
 refine q_pick false (v := bool false) (bval_no h110) rfl ?_
 refine nl ?_
 cases H
 exact ⟨rfl, _, rfl, gR, ⟨rfl, rfl, rfl, trivial⟩, hI101, trivial⟩
 clear hC
 rintro e r ds wd107 ⟨rfl, G105, rfl, hG106, hHas, hI108, _⟩
 rw [hHas.eq]; clear hHas
 refine nl ?_
 refine hK103 _ _ _ ?_
 by_cases h111 : v104 = true
 replace H := iY h111 H
 refine wpc_true (bval_yes h111) ?_
 refine sr fun K112 hK113 => ?_
 refine q_as (v := bool false) rfl ?_
 refine q_as (v := int .i64 0) rfl ?_
 refine nl ?_
 refine hK113 _ _ _ ?_
 refine wpc_ret ?_
 have hI114 := Hp.front hI108 2 rfl
 have hI115 := Hp.front hI114 2 rfl
 have hI116 := Hp.sub hI115 (sk (sk (sd se)))
 cases H
 exact ⟨rfl, _, rfl, (gT (gT hG75 hG91) hG106), ⟨rfl, rfl, trivial⟩, hI116, trivial⟩
 replace H := iN h111 H
 refine wpc_false (bval_no h111) ?_
 refine wpc_skip ?_
 have hI117 := Hp.front hI108 2 rfl
 have hI118 := Hp.front hI117 2 rfl
 have hI119 := Hp.sub hI118 (sk (sk (sd se)))
 exact ih _ _ H _ _ _ (gT (gT hG75 hG91) hG106) ⟨rfl, rfl, trivial⟩ hI119 rfl
 replace H := iN h80 H
 refine q_nxn hI77 0 rfl rfl h80 ?_
 refine q_ex (v := bool false) rfl rfl ?_
 refine nl ?_
 refine hK79 _ _ _ ?_
 refine sQ fun K120 hK121 => ?_
 refine wpc_false rfl ?_
 refine wpc_exit ?_
 cases H
 exact ⟨rfl, _, rfl, hG75, trivial, hI77, trivial⟩
 clear hC
 rcases o73 with v63 | v64
 rintro e r ds wd67 ⟨rfl, G65, rfl, hG66, hHas, hI68, _⟩
 rw [hHas.eq]; clear hHas
 have hI122 := Hp.sub hI68 (sd (sd se))
 cases H
 exact ⟨.inr rfl, rfl, _, ⟨_, _, rfl, rfl, ⟨_, _, rfl, rfl, rfl⟩⟩, _, (gT (gT hG23 hG29) hG66), hI122, rfl⟩
 rintro e r ds wd71 ⟨rfl, G69, rfl, hG70, hHas, hI72, _⟩
 rw [hHas.eq]; clear hHas
 refine hK45 _ _ _ ?_
 refine sr fun K123 hK124 => ?_
 refine q_as (v := bool true) rfl ?_
 refine q_as (v := int .i64 0) rfl ?_
 refine nl ?_
 refine hK124 _ _ _ ?_
 refine wpc_ret ?_
 have hI125 := Hp.sub hI72 (sd (sd se))
 cases H
 exact ⟨.inr rfl, rfl, _, ⟨_, _, rfl, rfl, ⟨_, _, rfl, rfl, rfl⟩⟩, _, (gT (gT hG23 hG29) hG70), hI125, rfl⟩
set_option maxHeartbeats 1000000 in
theorem font_pairs_spec {a1 : ByteArray} {r1012 : ByteArray} {G : Gh} {L : List Itm} {w : World} (hI : Hp G (L) w) (H : font_pairs a1 = some r1012) :
    Calls Tryz.prog 82 [string a1].toArray w fun e w' => ∃ (g1011 : Nat) (G' : Gh), G ≤ G' ∧ Hp G' (bx g1011 [string r1012] 9 :: L) w' ∧ e = .returned (func (.func 109) [].toArray [pointer (some ⟨g1011, 0, none⟩)].toArray) := by
 refine calls_intro (N := 4) Tryz.func82 rfl rfl (Nat.le_of_ble_eq_true rfl) ?_
 unfold font_pairs at H
 refine sr fun K2 hK3 => ?_
 refine q_box hI (v := string a1) (vs := [string a1]) rfl rfl (fun g5 wd6 hI7 => ?_)
 refine q_as (v := Value.nilFunc) rfl ?_
 refine nl ?_
 refine hK3 _ _ _ ?_
 refine sr fun K8 hK9 => ?_
 refine q_fn (vs := []) (us := [pointer (some ⟨g5, 0, none⟩)]) rfl rfl ?_
 refine q_as (v := func (.func 109) [].toArray [pointer (some ⟨g5, 0, none⟩)].toArray) rfl ?_
 refine nl ?_
 refine hK9 _ _ _ ?_
 refine wpc_ret ?_
 cases H
 exact ⟨.inr rfl, rfl, _, ⟨_, _, rfl, rfl, rfl⟩, g5, _, gR, hI7, rfl⟩
set_option maxHeartbeats 1000000 in
theorem font_pairs_1_k1_spec {σ : Type} {St : σ → Gh → List Itm → Prop} {yl : Nat} {φ : σ → font_pair → Option (σ × Bool)} {sy : σ} {a3 : ByteArray} {g2 : Nat} {ry : σ} {G : Gh} {T : List Itm} {w : World} (hI : Hp G (bx g2 [string a3] 9 :: T) w) (hy : Yl Tryz.prog φ (encS k_font_pair) St yl) (hS : St sy G T) (H : font_pairs_1_k1 φ sy a3 = some ry) :
    Calls Tryz.prog 109 [func (.yield yl) #[] #[], pointer (some ⟨g2, 0, none⟩)].toArray w fun e w' => ∃ (T' : List Itm) (G' : Gh), G ≤ G' ∧ Hp G' (bx g2 [string a3] 9 :: T') w' ∧ St ry G' T' ∧ e = .returned (tuple [].toArray) := by
 refine calls_intro (N := 22) Tryz.func109 rfl rfl (Nat.le_of_ble_eq_true rfl) ?_
 unfold font_pairs_1_k1 at H
 refine sr fun K4 hK5 => ?_
 refine q_as (v := int .u8 0) rfl ?_
 refine nl ?_
 refine hK5 _ _ _ ?_
 refine sr fun K6 hK7 => ?_
 refine q_ld hI 0 (v := string a3) ag9 rfl rfl rfl ?_
 refine q_rgs hI so9 rfl (fun g9 wd10 hI11 => ?_)
 refine nl ?_
 refine hK7 _ _ _ ?_
 refine wpc_block ?_
 obtain ⟨o47, hC, H⟩ := bS H
 refine wpc_mono (Q := fun e r ds w => match (generalizing := false) o47 with | (Sum.inl (v31, v33)) => e = .ret ∧ ∃ (T32 : List Itm) (G39 : Gh), ds = [] ∧ G ≤ G39 ∧ Has [] r ∧ Hp G39 (ob g9 (Obj.stringIter a3 v31) :: bx g2 [string a3] 9 :: T32) w ∧ St v33 G39 T32 ∧ True | (Sum.inr (v35, v37)) => e = .exit 0 ∧ ∃ (T36 : List Itm) (G43 : Gh), ds = [] ∧ G ≤ G43 ∧ Has [] r ∧ Hp G43 (ob g9 (Obj.stringIter a3 v35) :: bx g2 [string a3] 9 :: T36) w ∧ St v37 G43 T36 ∧ True) ?_ ?_
 clear H
 refine wpc_loop fun I hLp => ?_
 refine font_pairs_1_k1_l30.partial_correctness φ a3 (fun v16 v17 v19 o => ∀ (T18 : List Itm) (G48 : Gh) (r : Rg) (w : World), G ≤ G48 → Has [(0, func (.yield yl) #[] #[]), (3, int .u8 v16), (7, pointer (some ⟨g9, 0, none⟩))] r → Hp G48 (ob g9 (Obj.stringIter a3 v17) :: bx g2 [string a3] 9 :: T18) w → St v19 G48 T18 → o = o47 → I r [] w) ?_ 0 0 sy _ hC T _ _ _ gR ⟨rfl, rfl, rfl, trivial⟩ hI11 hS rfl
 intro _ ih v16 v17 v19 o H T18 G48 r wd50 hG49 hHas hI51 hS20 ho
 rw [ho] at H; clear ho
 rw [hHas.eq]; clear hHas
 refine hLp _ _ _ ?_
 refine sr fun K52 hK53 => ?_
 by_cases h54 : v17 < a3.size
 replace H := iY h54 H
 refine q_nxy hI51 0 rfl rfl h54 (fun wd55 hI56 => ?_)
 refine q_ex (v := bool true) rfl rfl ?_
 refine nl ?_
 refine hK53 _ _ _ ?_
 refine sQ fun K57 hK58 => ?_
 refine wpc_true rfl ?_
 refine wpc_skip ?_
 refine hK58 _ _ _ ?_
 refine wpc_block ?_
 refine sr fun K59 hK60 => ?_
 refine q_ex (v := int .i32 ((Utf8.decode a3 v17).1 : Int)) rfl rfl ?_
 refine q_as (v := int .i32 ((Utf8.decode a3 v17).1 : Int)) rfl ?_
 refine nl ?_
 refine hK60 _ _ _ ?_
 refine sQ fun K61 hK62 => ?_
 refine sr fun K63 hK64 => ?_
 refine q_mv (v := int .i32 ((Utf8.decode a3 v17).1 : Int)) rfl ?_
 refine q_eql rfl rfl ?_
 refine nl ?_
 refine hK64 _ _ _ ?_
 by_cases h65 : ((Utf8.decode a3 v17).1 : Int) = 126
 replace H := iY h65 H
 refine wpc_true (bool_yes h65) ?_
 refine wpc_exit ?_
 exact ih _ _ _ _ H T18 _ _ _ hG49 ⟨rfl, rfl, rfl, trivial⟩ hI56 hS20 rfl
 replace H := iN h65 H
 refine wpc_false (bool_no h65) ?_
 refine wpc_skip ?_
 refine hK62 _ _ _ ?_
 refine sQ fun K66 hK67 => ?_
 refine sr fun K68 hK69 => ?_
 refine q_mv (v := func (.yield yl) #[] #[]) rfl ?_
 refine q_mv (v := int .u8 v16) rfl ?_
 refine q_mv (v := int .i32 ((Utf8.decode a3 v17).1 : Int)) rfl ?_
 refine q_cvi ik21 ik5 rfl ?_
 refine q_build (vs := [(0, int .u8 v16), (1, int .u8 (wu8 (((Utf8.decode a3 v17).1 : Int))))]) (cs := [int .u8 v16, int .u8 (wu8 (((Utf8.decode a3 v17).1 : Int)))]) ze119 pl119 rfl rfl ?_
 obtain ⟨⟨s70, b71⟩, hx72, H⟩ := bS H
 refine q_yl hy [ob g9 (Obj.stringIter a3 (v17 + (Utf8.decode a3 v17).2)), bx g2 [string a3] 9] hI56 hS20 rfl rfl ⟨_, rfl, (mk_font_pair (x := (⟨v16, wu8 (((Utf8.decode a3 v17).1 : Int))⟩ : font_pair)))⟩ hx72 (fun wd73 G74 T75 hG76 hS77 hI78 => ?_)
 refine q_not rfl ?_
 refine nl ?_
 refine hK69 _ _ _ ?_
 by_cases h79 : (!b71) = true
 replace H := iY h79 H
 refine wpc_true (bval_yes h79) ?_
 refine wpc_ret ?_
 cases H
 exact ⟨rfl, T75, _, rfl, (gT hG49 hG76), trivial, hI78, hS77, trivial⟩
 replace H := iN h79 H
 refine wpc_false (bval_no h79) ?_
 refine wpc_skip ?_
 refine hK67 _ _ _ ?_
 refine wpc_region ?_
 refine q_mv (v := int .i32 ((Utf8.decode a3 v17).1 : Int)) rfl ?_
 refine q_cvi ik21 ik5 rfl ?_
 refine q_as (v := int .u8 (wu8 (((Utf8.decode a3 v17).1 : Int)))) rfl ?_
 refine nl ?_
 exact ih _ _ _ _ H T75 _ _ _ (gT hG49 hG76) ⟨rfl, rfl, rfl, trivial⟩ hI78 hS77 rfl
 replace H := iN h54 H
 refine q_nxn hI51 0 rfl rfl h54 ?_
 refine q_ex (v := bool false) rfl rfl ?_
 refine nl ?_
 refine hK53 _ _ _ ?_
 refine sQ fun K80 hK81 => ?_
 refine wpc_false rfl ?_
 refine wpc_exit ?_
 cases H
 exact ⟨rfl, T18, _, rfl, hG49, trivial, hI51, hS20, trivial⟩
 clear hC
 rcases o47 with ⟨v31, v33⟩ | ⟨v35, v37⟩
 rintro e r ds wd41 ⟨rfl, T32, G39, rfl, hG40, hHas, hI42, hS34, _⟩
 rw [hHas.eq]; clear hHas
 have hI82 := Hp.front hI42 1 rfl
 have hI83 := Hp.sub hI82 (sk (sd se))
 cases H
 exact ⟨.inr rfl, rfl, _, rfl, T32, _, hG40, hI83, hS34, rfl⟩
 rintro e r ds wd45 ⟨rfl, T36, G43, rfl, hG44, hHas, hI46, hS38, _⟩
 rw [hHas.eq]; clear hHas
 have hI84 := Hp.front hI46 1 rfl
 have hI85 := Hp.sub hI84 (sk (sd se))
 cases H
 exact ⟨.inl rfl, rfl, _, rfl, T36, _, hG44, hI85, hS38, rfl⟩
set_option maxHeartbeats 1000000 in
theorem slices_BinarySearchFunc_font_pair_k1_spec {a1 : List api_Kern} {a6 : font_pair} {A2 : Option Addr} {c3 : Nat} {r1520 : Int} {r1521 : Bool} {G : Gh} {L : List Itm} {w : World} (hI : Hp G (L) w) (hl4 : a1.length ≤ c3) (hD5 : Dat k_api_Kern G A2 a1) (H : slices_BinarySearchFunc_font_pair_k1 a1 a6 = some (r1520, r1521)) :
    Calls Tryz.prog 110 [slice A2 a1.length c3, agg [int .u8 a6.left, int .u8 a6.right].toArray, func (.func 70) [].toArray [].toArray].toArray w fun e w' => ∃ (G' : Gh), G ≤ G' ∧ Hp G' (L) w' ∧ e = .returned (tuple [int .i64 r1520, bool r1521].toArray) := by
 refine calls_intro (N := 49) Tryz.func110 rfl rfl (Nat.le_of_ble_eq_true rfl) ?_
 unfold slices_BinarySearchFunc_font_pair_k1 at H
 refine sr fun K7 hK8 => ?_
 refine q_box hI (v := agg [int .u8 a6.left, int .u8 a6.right].toArray) (vs := [int .u8 a6.left, int .u8 a6.right]) rfl rfl (fun g10 wd11 hI12 => ?_)
 refine q_as (v := int .i64 0) rfl ?_
 refine q_as (v := bool false) rfl ?_
 refine nl ?_
 refine hK8 _ _ _ ?_
 refine sr fun K13 hK14 => ?_
 refine q_mv (v := slice A2 a1.length c3) rfl ?_
 refine q_len so23 rfl ?_
 refine q_as (v := int .i64 (a1.length : Int)) rfl ?_
 refine nl ?_
 refine hK14 _ _ _ ?_
 refine sr fun K15 hK16 => ?_
 refine q_mv (v := int .i64 (a1.length : Int)) rfl ?_
 refine q_as (v := int .i64 0) rfl ?_
 refine q_as (v := int .i64 (a1.length : Int)) rfl ?_
 refine nl ?_
 refine hK16 _ _ _ ?_
 refine sQ fun K17 hK18 => ?_
 refine wpc_block ?_
 obtain ⟨v32, hC, H⟩ := bS H
 refine wpc_mono (Q := fun e r ds w => e = .exit 0 ∧ ∃ (G33 : Gh), ds = [] ∧ G ≤ G33 ∧ Has [(0, slice A2 a1.length c3), (2, func (.func 70) [].toArray [].toArray), (4, pointer (some ⟨g10, 0, none⟩)), (8, int .i64 (a1.length : Int)), (9, int .i64 v32)] r ∧ Hp G33 (bx g10 [int .u8 a6.left, int .u8 a6.right] 119 :: L) w ∧ True) ?_ ?_
 clear H
 refine wpc_loop fun I hLp => ?_
 refine slices_BinarySearchFunc_font_pair_k1_l31.partial_correctness a1 a6 (fun v23 v24 o => ∀ (G38 : Gh) (r : Rg) (w : World), G ≤ G38 → Has [(0, slice A2 a1.length c3), (2, func (.func 70) [].toArray [].toArray), (4, pointer (some ⟨g10, 0, none⟩)), (8, int .i64 (a1.length : Int)), (9, int .i64 v23), (10, int .i64 v24)] r → Hp G38 (bx g10 [int .u8 a6.left, int .u8 a6.right] 119 :: L) w → o = v32 → I r [] w) ?_ 0 (a1.length : Int) _ hC _ _ _ gR ⟨rfl, rfl, rfl, rfl, rfl, rfl, trivial⟩ hI12 rfl
 intro _ ih v23 v24 o H G38 r wd40 hG39 hHas hI41 ho
 rw [ho] at H; clear ho
 rw [hHas.eq]; clear hHas
 refine hLp _ _ _ ?_
 refine sQ fun K42 hK43 => ?_
 refine sr fun K44 hK45 => ?_
 refine q_mv (v := int .i64 v23) rfl ?_
 refine q_mv (v := int .i64 v24) rfl ?_
 refine q_lss rfl rfl ?_
 refine nl ?_
 refine hK45 _ _ _ ?_
 by_cases h46 : v23 < v24
 replace H := iY h46 H
 refine wpc_true (bool_yes h46) ?_
 refine wpc_skip ?_
 refine hK43 _ _ _ ?_
 refine wpc_block ?_
 refine sr fun K47 hK48 => ?_
 refine q_mv (v := int .i64 v23) rfl ?_
 refine q_mv (v := int .i64 v24) rfl ?_
 refine q_add rfl rfl ?_
 refine q_cvi ik3 ik83 rfl ?_
 refine q_shr (m := 1) rfl rfl rfl ?_
 refine q_cvi ik83 ik3 rfl ?_
 refine q_as (v := int .i64 (w64 (Int.fdiv (IntKind.wrap .u64 (w64 (v23 + v24))) (2 ^ 1)))) rfl ?_
 refine nl ?_
 refine hK48 _ _ _ ?_
 refine sQ fun K49 hK50 => ?_
 obtain ⟨⟨h65, h65'⟩, H⟩ := iS H
 obtain ⟨ad66, cs67, hA68, hK69, hn70, hc71⟩ := Dat.get (Dat.mono hG39 hD5) z_api_Kern (w64 (Int.fdiv (IntKind.wrap .u64 (w64 (v23 + v24))) (2 ^ 1))) h65 h65'
 obtain ⟨rfl⟩ := open_api_Kern hK69
 obtain ⟨y76, hy261, H⟩ := bS H
 refine wpc_drawL [0, 0, 0, 6, 14, 0, 63, 127] (fun D r w => (∃ (G' : Gh), G38 ≤ G' ∧ Regs [(0, slice A2 a1.length c3), (2, func (.func 70) [].toArray [].toArray), (4, pointer (some ⟨g10, 0, none⟩)), (8, int .i64 (a1.length : Int)), (9, int .i64 v23), (10, int .i64 v24), (11, int .i64 (w64 (Int.fdiv (IntKind.wrap .u64 (w64 (v23 + v24))) (2 ^ 1))))] [] [(0, 24, func (.func 70) [].toArray [].toArray), (1, 25, slice A2 a1.length c3), (2, 26, int .i64 (w64 (Int.fdiv (IntKind.wrap .u64 (w64 (v23 + v24))) (2 ^ 1)))), (3, 27, pointer (some (ad66.add (Int.toNat (w64 (Int.fdiv (IntKind.wrap .u64 (w64 (v23 + v24))) (2 ^ 1))) * 3)))), (4, 28, agg [int .u8 ((a1.getD (Int.toNat (w64 (Int.fdiv (IntKind.wrap .u64 (w64 (v23 + v24))) (2 ^ 1)))) z_api_Kern).Left), int .u8 ((a1.getD (Int.toNat (w64 (Int.fdiv (IntKind.wrap .u64 (w64 (v23 + v24))) (2 ^ 1)))) z_api_Kern).Right), int .i64 ((a1.getD (Int.toNat (w64 (Int.fdiv (IntKind.wrap .u64 (w64 (v23 + v24))) (2 ^ 1)))) z_api_Kern).By)].toArray), (5, 29, agg [int .u8 a6.left, int .u8 a6.right].toArray), (6, 30, int .i64 y76), (7, 31, bool (decide (y76 < 0)))] D r ∧ Hp G' (bx g10 [int .u8 a6.left, int .u8 a6.right] 119 :: L) w)) mixo rfl rfl ?_ ?_ ?_
 exact ⟨_, Gh.le_refl _, Regs.start ⟨rfl, rfl, rfl, rfl, rfl, rfl, rfl, trivial⟩ trivial, hI41.drew⟩
 refine ⟨?_, ?_, ?_, ?_, ?_, ?_, ?_, ?_, trivial⟩
 rintro D r wd276 ⟨G272, hG273, hReg275, hI274⟩ hDi hpre hpost
 obtain ⟨r0, rfl⟩ := Has.ex (cC (hReg275.ins.get 1 rfl) cN)
 refine q_mv (v := func (.func 70) [].toArray [].toArray) rfl ?_
 exact nl ⟨rfl, ⟨_, hG273, (Regs.step hReg275 hDi rfl rfl rfl rfl), hI274⟩⟩
 rintro D r wd276 ⟨G272, hG273, hReg275, hI274⟩ hDi hpre hpost
 obtain ⟨r0, rfl⟩ := Has.ex (cC (hReg275.ins.get 0 rfl) cN)
 refine q_mv (v := slice A2 a1.length c3) rfl ?_
 exact nl ⟨rfl, ⟨_, hG273, (Regs.step hReg275 hDi rfl rfl rfl rfl), hI274⟩⟩
 rintro D r wd276 ⟨G272, hG273, hReg275, hI274⟩ hDi hpre hpost
 obtain ⟨r0, rfl⟩ := Has.ex (cC (hReg275.ins.get 6 rfl) cN)
 refine q_mv (v := int .i64 (w64 (Int.fdiv (IntKind.wrap .u64 (w64 (v23 + v24))) (2 ^ 1)))) rfl ?_
 exact nl ⟨rfl, ⟨_, hG273, (Regs.step hReg275 hDi rfl rfl rfl rfl), hI274⟩⟩
 rintro D r wd276 ⟨G272, hG273, hReg275, hI274⟩ hDi hpre hpost
 obtain ⟨r0, rfl⟩ := Has.ex (cC (hReg275.get 1 rfl (hpre 1 rfl)) (cC (hReg275.get 2 rfl (hpre 2 rfl)) cN))
 refine q_ia el23 rfl hA68 rfl h65 h65' ?_
 exact nl ⟨rfl, ⟨_, hG273, (Regs.step hReg275 hDi rfl rfl rfl rfl), hI274⟩⟩
 rintro D r wd276 ⟨G272, hG273, hReg275, hI274⟩ hDi hpre hpost
 obtain ⟨r0, rfl⟩ := Has.ex (cC (hReg275.get 3 rfl (hpre 3 rfl)) cN)
 refine q_lfA hI274 ag114 rfl (cs := [int .u8 ((a1.getD (Int.toNat (w64 (Int.fdiv (IntKind.wrap .u64 (w64 (v23 + v24))) (2 ^ 1)))) z_api_Kern).Left), int .u8 ((a1.getD (Int.toNat (w64 (Int.fdiv (IntKind.wrap .u64 (w64 (v23 + v24))) (2 ^ 1)))) z_api_Kern).Right), int .i64 ((a1.getD (Int.toNat (w64 (Int.fdiv (IntKind.wrap .u64 (w64 (v23 + v24))) (2 ^ 1)))) z_api_Kern).By)]) rfl (fun j v hv => hG273.cel _ _ (hc71 j v hv)) ?_
 exact nl ⟨rfl, ⟨_, hG273, (Regs.step hReg275 hDi rfl rfl rfl rfl), hI274⟩⟩
 rintro D r wd276 ⟨G272, hG273, hReg275, hI274⟩ hDi hpre hpost
 obtain ⟨r0, rfl⟩ := Has.ex (cC (hReg275.ins.get 2 rfl) cN)
 refine q_ldA hI274 0 (cs := [int .u8 a6.left, int .u8 a6.right]) ag119 rfl rfl rfl rfl ?_
 exact nl ⟨rfl, ⟨_, hG273, (Regs.step hReg275 hDi rfl rfl rfl rfl), hI274⟩⟩
 rintro D r wd276 ⟨G272, hG273, hReg275, hI274⟩ hDi hpre hpost
 obtain ⟨r0, rfl⟩ := Has.ex (cC (hReg275.get 0 rfl (hpre 0 rfl)) (cC (hReg275.get 4 rfl (hpre 4 rfl)) (cC (hReg275.get 5 rfl (hpre 5 rfl)) cN)))
 refine q_cv (vs := [agg [int .u8 ((a1.getD (Int.toNat (w64 (Int.fdiv (IntKind.wrap .u64 (w64 (v23 + v24))) (2 ^ 1)))) z_api_Kern).Left), int .u8 ((a1.getD (Int.toNat (w64 (Int.fdiv (IntKind.wrap .u64 (w64 (v23 + v24))) (2 ^ 1)))) z_api_Kern).Right), int .i64 ((a1.getD (Int.toNat (w64 (Int.fdiv (IntKind.wrap .u64 (w64 (v23 + v24))) (2 ^ 1)))) z_api_Kern).By)].toArray, agg [int .u8 a6.left, int .u8 a6.right].toArray]) bo70 rfl rfl (font_order_spec (a1 := (a1.getD (Int.toNat (w64 (Int.fdiv (IntKind.wrap .u64 (w64 (v23 + v24))) (2 ^ 1)))) z_api_Kern)) (a2 := a6) hI274 hy261) ?_
 rintro _ wd74 ⟨G72, hG73, hI75, rfl⟩
 refine ⟨_, rfl, ?_⟩
 exact nl ⟨rfl, ⟨_, (gT hG273 hG73), (Regs.step hReg275 hDi rfl rfl rfl rfl), hI75⟩⟩
 rintro D r wd276 ⟨G272, hG273, hReg275, hI274⟩ hDi hpre hpost
 obtain ⟨r0, rfl⟩ := Has.ex (cC (hReg275.get 6 rfl (hpre 6 rfl)) cN)
 refine q_lss rfl rfl ?_
 exact nl ⟨rfl, ⟨_, hG273, (Regs.step hReg275 hDi rfl rfl rfl rfl), hI274⟩⟩
 intro D r wd276 hall hR
 obtain ⟨G272, hG273, hReg275, hI274⟩ := hR
 obtain ⟨r0, rfl⟩ := Has.ex (cC (hReg275.ins.get 0 rfl) (cC (hReg275.ins.get 1 rfl) (cC (hReg275.ins.get 2 rfl) (cC (hReg275.ins.get 3 rfl) (cC (hReg275.ins.get 4 rfl) (cC (hReg275.ins.get 5 rfl) (cC (hReg275.ins.get 6 rfl) (cC (hReg275.get 7 rfl (hall 7 (Nat.le_of_ble_eq_true rfl))) cN))))))))
 refine hK50 _ _ _ ?_
 by_cases h277 : y76 < 0
 replace H := iY h277 H
 refine wpc_true (bool_yes h277) ?_
 refine wpc_region ?_
 refine q_mv (v := int .i64 (w64 (Int.fdiv (IntKind.wrap .u64 (w64 (v23 + v24))) (2 ^ 1)))) rfl ?_
 refine q_add rfl rfl ?_
 refine q_as (v := int .i64 (w64 ((w64 (Int.fdiv (IntKind.wrap .u64 (w64 (v23 + v24))) (2 ^ 1))) + 1))) rfl ?_
 refine nl ?_
 exact ih _ _ _ H _ _ _ (gT hG39 hG273) ⟨rfl, rfl, rfl, rfl, rfl, rfl, trivial⟩ hI274 rfl
 replace H := iN h277 H
 refine wpc_false (bool_no h277) ?_
 refine wpc_region ?_
 refine q_mv (v := int .i64 (w64 (Int.fdiv (IntKind.wrap .u64 (w64 (v23 + v24))) (2 ^ 1)))) rfl ?_
 refine q_as (v := int .i64 (w64 (Int.fdiv (IntKind.wrap .u64 (w64 (v23 + v24))) (2 ^ 1)))) rfl ?_
 refine nl ?_
 exact ih _ _ _ H _ _ _ (gT hG39 hG273) ⟨rfl, rfl, rfl, rfl, rfl, rfl, trivial⟩ hI274 rfl
 replace H := iN h46 H
 refine wpc_false (bool_no h46) ?_
 refine wpc_exit ?_
 cases H
 exact ⟨rfl, _, rfl, hG39, ⟨rfl, rfl, rfl, rfl, rfl, trivial⟩, hI41, trivial⟩
 clear hC
 rintro e r ds wd35 ⟨rfl, G33, rfl, hG34, hHas, hI36, _⟩
 rw [hHas.eq]; clear hHas
 refine hK18 _ _ _ ?_
 refine sQ fun K278 hK279 => ?_
 obtain ⟨v295, hC, H⟩ := bS H
 refine wpc_mono (Q := fun e r ds w => e = .normal ∧ ∃ (G296 : Gh), ds = [] ∧ G33 ≤ G296 ∧ Has [(6, int .i64 v32), (7, bool v295)] r ∧ Hp G296 (bx g10 [int .u8 a6.left, int .u8 a6.right] 119 :: L) w ∧ True) ?_ ?_
 replace H := hC
 by_cases h301 : v32 < (a1.length : Int)
 replace H := iY h301 H
 obtain ⟨⟨h302, h302'⟩, H⟩ := iS H
 obtain ⟨ad303, cs304, hA305, hK306, hn307, hc308⟩ := Dat.get (Dat.mono hG34 hD5) z_api_Kern (v32) h302 h302'
 obtain ⟨rfl⟩ := open_api_Kern hK306
 obtain ⟨y313, hy498, H⟩ := bS H
 refine wpc_drawL [0, 0, 0, 6, 14, 30, 30, 30, 222, 478, 30, 2046, 4094, 8190, 4095, 32767] (fun D r w => (∃ (G' : Gh), G33 ≤ G' ∧ Regs [(0, slice A2 a1.length c3), (2, func (.func 70) [].toArray [].toArray), (4, pointer (some ⟨g10, 0, none⟩)), (8, int .i64 (a1.length : Int)), (9, int .i64 v32)] [] [(0, 35, int .i64 v32), (1, 36, int .i64 v32), (2, 37, int .i64 (a1.length : Int)), (3, 38, bool (decide (v32 < (a1.length : Int)))), (4, 39, bool (decide (v32 < (a1.length : Int)))), (5, 40, func (.func 70) [].toArray [].toArray), (6, 41, slice A2 a1.length c3), (7, 42, int .i64 v32), (8, 43, pointer (some (ad303.add (Int.toNat v32 * 3)))), (9, 44, agg [int .u8 ((a1.getD (Int.toNat v32) z_api_Kern).Left), int .u8 ((a1.getD (Int.toNat v32) z_api_Kern).Right), int .i64 ((a1.getD (Int.toNat v32) z_api_Kern).By)].toArray), (10, 45, agg [int .u8 a6.left, int .u8 a6.right].toArray), (11, 46, int .i64 y313), (12, 47, bool (decide (y313 = 0))), (13, 48, bool (decide (y313 = 0))), (14, 6, int .i64 v32), (15, 7, bool (decide (y313 = 0)))] D r ∧ Hp G' (bx g10 [int .u8 a6.left, int .u8 a6.right] 119 :: L) w)) mixo rfl rfl ?_ ?_ ?_
 exact ⟨_, Gh.le_refl _, Regs.start ⟨rfl, rfl, rfl, rfl, rfl, trivial⟩ trivial, hI36.drew⟩
 refine ⟨?_, ?_, ?_, ?_, ?_, ?_, ?_, ?_, ?_, ?_, ?_, ?_, ?_, ?_, ?_, ?_, trivial⟩
 rintro D r wd513 ⟨G509, hG510, hReg512, hI511⟩ hDi hpre hpost
 obtain ⟨r0, rfl⟩ := Has.ex (cC (hReg512.ins.get 4 rfl) cN)
 refine q_mv (v := int .i64 v32) rfl ?_
 exact nl ⟨rfl, ⟨_, hG510, (Regs.step hReg512 hDi rfl rfl rfl rfl), hI511⟩⟩
 rintro D r wd513 ⟨G509, hG510, hReg512, hI511⟩ hDi hpre hpost
 obtain ⟨r0, rfl⟩ := Has.ex (cC (hReg512.ins.get 4 rfl) cN)
 refine q_mv (v := int .i64 v32) rfl ?_
 exact nl ⟨rfl, ⟨_, hG510, (Regs.step hReg512 hDi rfl rfl rfl rfl), hI511⟩⟩
 rintro D r wd513 ⟨G509, hG510, hReg512, hI511⟩ hDi hpre hpost
 obtain ⟨r0, rfl⟩ := Has.ex (cC (hReg512.ins.get 3 rfl) cN)
 refine q_mv (v := int .i64 (a1.length : Int)) rfl ?_
 exact nl ⟨rfl, ⟨_, hG510, (Regs.step hReg512 hDi rfl rfl rfl rfl), hI511⟩⟩
 rintro D r wd513 ⟨G509, hG510, hReg512, hI511⟩ hDi hpre hpost
 obtain ⟨r0, rfl⟩ := Has.ex (cC (hReg512.get 1 rfl (hpre 1 rfl)) (cC (hReg512.get 2 rfl (hpre 2 rfl)) cN))
 refine q_lss rfl rfl ?_
 exact nl ⟨rfl, ⟨_, hG510, (Regs.step hReg512 hDi rfl rfl rfl rfl), hI511⟩⟩
 rintro D r wd513 ⟨G509, hG510, hReg512, hI511⟩ hDi hpre hpost
 obtain ⟨r0, rfl⟩ := Has.ex (cC (hReg512.get 3 rfl (hpre 3 rfl)) cN)
 refine q_mv (v := bool (decide (v32 < (a1.length : Int)))) rfl ?_
 exact nl ⟨rfl, ⟨_, hG510, (Regs.step hReg512 hDi rfl rfl rfl rfl), hI511⟩⟩
 rintro D r wd513 ⟨G509, hG510, hReg512, hI511⟩ hDi hpre hpost
 obtain ⟨r0, rfl⟩ := Has.ex (cC (hReg512.ins.get 1 rfl) (cC (hReg512.get 4 rfl (hpre 4 rfl)) cN))
 refine q_mv (v := func (.func 70) [].toArray [].toArray) rfl ?_ (hw := gY rfl rfl rfl (bool_yes h301))
 exact nl ⟨rfl, ⟨_, hG510, (Regs.step hReg512 hDi rfl rfl rfl rfl), hI511⟩⟩
 rintro D r wd513 ⟨G509, hG510, hReg512, hI511⟩ hDi hpre hpost
 obtain ⟨r0, rfl⟩ := Has.ex (cC (hReg512.ins.get 0 rfl) (cC (hReg512.get 4 rfl (hpre 4 rfl)) cN))
 refine q_mv (v := slice A2 a1.length c3) rfl ?_ (hw := gY rfl rfl rfl (bool_yes h301))
 exact nl ⟨rfl, ⟨_, hG510, (Regs.step hReg512 hDi rfl rfl rfl rfl), hI511⟩⟩
 rintro D r wd513 ⟨G509, hG510, hReg512, hI511⟩ hDi hpre hpost
 obtain ⟨r0, rfl⟩ := Has.ex (cC (hReg512.ins.get 4 rfl) (cC (hReg512.get 4 rfl (hpre 4 rfl)) cN))
 refine q_mv (v := int .i64 v32) rfl ?_ (hw := gY rfl rfl rfl (bool_yes h301))
 exact nl ⟨rfl, ⟨_, hG510, (Regs.step hReg512 hDi rfl rfl rfl rfl), hI511⟩⟩
 rintro D r wd513 ⟨G509, hG510, hReg512, hI511⟩ hDi hpre hpost
 obtain ⟨r0, rfl⟩ := Has.ex (cC (hReg512.get 4 rfl (hpre 4 rfl)) (cC (hReg512.get 6 rfl (hpre 6 rfl)) (cC (hReg512.get 7 rfl (hpre 7 rfl)) cN)))
 refine q_ia el23 rfl hA305 rfl h302 h302' ?_ (hw := gY rfl rfl rfl (bool_yes h301))
 exact nl ⟨rfl, ⟨_, hG510, (Regs.step hReg512 hDi rfl rfl rfl rfl), hI511⟩⟩
 rintro D r wd513 ⟨G509, hG510, hReg512, hI511⟩ hDi hpre hpost
 obtain ⟨r0, rfl⟩ := Has.ex (cC (hReg512.get 4 rfl (hpre 4 rfl)) (cC (hReg512.get 8 rfl (hpre 8 rfl)) cN))
 refine q_lfA hI511 ag114 rfl (cs := [int .u8 ((a1.getD (Int.toNat v32) z_api_Kern).Left), int .u8 ((a1.getD (Int.toNat v32) z_api_Kern).Right), int .i64 ((a1.getD (Int.toNat v32) z_api_Kern).By)]) rfl (fun j v hv => hG510.cel _ _ (hc308 j v hv)) ?_ (hw := gY rfl rfl rfl (bool_yes h301))
 exact nl ⟨rfl, ⟨_, hG510, (Regs.step hReg512 hDi rfl rfl rfl rfl), hI511⟩⟩
 rintro D r wd513 ⟨G509, hG510, hReg512, hI511⟩ hDi hpre hpost
 obtain ⟨r0, rfl⟩ := Has.ex (cC (hReg512.ins.get 2 rfl) (cC (hReg512.get 4 rfl (hpre 4 rfl)) cN))
 refine q_ldA hI511 0 (cs := [int .u8 a6.left, int .u8 a6.right]) ag119 rfl rfl rfl rfl ?_ (hw := gY rfl rfl rfl (bool_yes h301))
 exact nl ⟨rfl, ⟨_, hG510, (Regs.step hReg512 hDi rfl rfl rfl rfl), hI511⟩⟩
 rintro D r wd513 ⟨G509, hG510, hReg512, hI511⟩ hDi hpre hpost
 obtain ⟨r0, rfl⟩ := Has.ex (cC (hReg512.get 4 rfl (hpre 4 rfl)) (cC (hReg512.get 5 rfl (hpre 5 rfl)) (cC (hReg512.get 9 rfl (hpre 9 rfl)) (cC (hReg512.get 10 rfl (hpre 10 rfl)) cN))))
 refine q_cv (vs := [agg [int .u8 ((a1.getD (Int.toNat v32) z_api_Kern).Left), int .u8 ((a1.getD (Int.toNat v32) z_api_Kern).Right), int .i64 ((a1.getD (Int.toNat v32) z_api_Kern).By)].toArray, agg [int .u8 a6.left, int .u8 a6.right].toArray]) bo70 rfl rfl (font_order_spec (a1 := (a1.getD (Int.toNat v32) z_api_Kern)) (a2 := a6) hI511 hy498) ?_ (hw := gY rfl rfl rfl (bool_yes h301))
 rintro _ wd311 ⟨G309, hG310, hI312, rfl⟩
 refine ⟨_, rfl, ?_⟩
 exact nl ⟨rfl, ⟨_, (gT hG510 hG310), (Regs.step hReg512 hDi rfl rfl rfl rfl), hI312⟩⟩
 rintro D r wd513 ⟨G509, hG510, hReg512, hI511⟩ hDi hpre hpost
 obtain ⟨r0, rfl⟩ := Has.ex (cC (hReg512.get 4 rfl (hpre 4 rfl)) (cC (hReg512.get 11 rfl (hpre 11 rfl)) cN))
 refine q_eql rfl rfl ?_ (hw := gY rfl rfl rfl (bool_yes h301))
 exact nl ⟨rfl, ⟨_, hG510, (Regs.step hReg512 hDi rfl rfl rfl rfl), hI511⟩⟩
 rintro D r wd513 ⟨G509, hG510, hReg512, hI511⟩ hDi hpre hpost
 obtain ⟨r0, rfl⟩ := Has.ex (cC (hReg512.get 4 rfl (hpre 4 rfl)) (cC (hReg512.get 12 rfl (hpre 12 rfl)) cN))
 refine q_pick true (v := bool (decide (y313 = 0))) (bool_yes h301) rfl ?_
 exact nl ⟨rfl, ⟨_, hG510, (Regs.step hReg512 hDi rfl rfl rfl rfl), hI511⟩⟩
 rintro D r wd513 ⟨G509, hG510, hReg512, hI511⟩ hDi hpre hpost
 obtain ⟨r0, rfl⟩ := Has.ex (cC (hReg512.get 0 rfl (hpre 0 rfl)) cN)
 refine q_as (v := int .i64 v32) rfl ?_
 exact nl ⟨rfl, ⟨_, hG510, (Regs.step hReg512 hDi rfl rfl rfl rfl), hI511⟩⟩
 rintro D r wd513 ⟨G509, hG510, hReg512, hI511⟩ hDi hpre hpost
 obtain ⟨r0, rfl⟩ := Has.ex (cC (hReg512.get 13 rfl (hpre 13 rfl)) cN)
 refine q_as (v := bool (decide (y313 = 0))) rfl ?_
 exact nl ⟨rfl, ⟨_, hG510, (Regs.step hReg512 hDi rfl rfl rfl rfl), hI511⟩⟩
 intro D r wd513 hall hR
 obtain ⟨G509, hG510, hReg512, hI511⟩ := hR
 obtain ⟨r0, rfl⟩ := Has.ex (cC (hReg512.get 14 rfl (hall 14 (Nat.le_of_ble_eq_true rfl))) (cC (hReg512.get 15 rfl (hall 15 (Nat.le_of_ble_eq_true rfl))) cN))
 cases H
 exact ⟨rfl, _, rfl, hG510, ⟨rfl, rfl, trivial⟩, hI511, trivial⟩
 replace H := iN h301 H
 refine wpc_drawL [0, 0, 0, 6, 14, 30, 30, 30, 222, 478, 30, 2046, 4094, 8190, 4095, 32767] (fun D r w => (∃ (G' : Gh), G33 ≤ G' ∧ Regs [(8, int .i64 (a1.length : Int)), (9, int .i64 v32)] [] [(0, 35, int .i64 v32), (1, 36, int .i64 v32), (2, 37, int .i64 (a1.length : Int)), (3, 38, bool (decide (v32 < (a1.length : Int)))), (4, 39, bool (decide (v32 < (a1.length : Int)))), (5, 40, undef), (6, 41, undef), (7, 42, undef), (8, 43, undef), (9, 44, undef), (10, 45, undef), (11, 46, undef), (12, 47, undef), (13, 48, bool false), (14, 6, int .i64 v32), (15, 7, bool false)] D r ∧ Hp G' (bx g10 [int .u8 a6.left, int .u8 a6.right] 119 :: L) w)) mixo rfl rfl ?_ ?_ ?_
 exact ⟨_, Gh.le_refl _, Regs.start ⟨rfl, rfl, trivial⟩ trivial, hI36.drew⟩
 refine ⟨?_, ?_, ?_, ?_, ?_, ?_, ?_, ?_, ?_, ?_, ?_, ?_, ?_, ?_, ?_, ?_, trivial⟩
 rintro D r wd518 ⟨G514, hG515, hReg517, hI516⟩ hDi hpre hpost
 obtain ⟨r0, rfl⟩ := Has.ex (cC (hReg517.ins.get 1 rfl) cN)
 refine q_mv (v := int .i64 v32) rfl ?_
 exact nl ⟨rfl, ⟨_, hG515, (Regs.step hReg517 hDi rfl rfl rfl rfl), hI516⟩⟩
 rintro D r wd518 ⟨G514, hG515, hReg517, hI516⟩ hDi hpre hpost
 obtain ⟨r0, rfl⟩ := Has.ex (cC (hReg517.ins.get 1 rfl) cN)
 refine q_mv (v := int .i64 v32) rfl ?_
 exact nl ⟨rfl, ⟨_, hG515, (Regs.step hReg517 hDi rfl rfl rfl rfl), hI516⟩⟩
 rintro D r wd518 ⟨G514, hG515, hReg517, hI516⟩ hDi hpre hpost
 obtain ⟨r0, rfl⟩ := Has.ex (cC (hReg517.ins.get 0 rfl) cN)
 refine q_mv (v := int .i64 (a1.length : Int)) rfl ?_
 exact nl ⟨rfl, ⟨_, hG515, (Regs.step hReg517 hDi rfl rfl rfl rfl), hI516⟩⟩
 rintro D r wd518 ⟨G514, hG515, hReg517, hI516⟩ hDi hpre hpost
 obtain ⟨r0, rfl⟩ := Has.ex (cC (hReg517.get 1 rfl (hpre 1 rfl)) (cC (hReg517.get 2 rfl (hpre 2 rfl)) cN))
 refine q_lss rfl rfl ?_
 exact nl ⟨rfl, ⟨_, hG515, (Regs.step hReg517 hDi rfl rfl rfl rfl), hI516⟩⟩
 rintro D r wd518 ⟨G514, hG515, hReg517, hI516⟩ hDi hpre hpost
 obtain ⟨r0, rfl⟩ := Has.ex (cC (hReg517.get 3 rfl (hpre 3 rfl)) cN)
 refine q_mv (v := bool (decide (v32 < (a1.length : Int)))) rfl ?_
 exact nl ⟨rfl, ⟨_, hG515, (Regs.step hReg517 hDi rfl rfl rfl rfl), hI516⟩⟩
 rintro D r wd518 ⟨G514, hG515, hReg517, hI516⟩ hDi hpre hpost
 obtain ⟨r0, rfl⟩ := Has.ex (cC (hReg517.get 4 rfl (hpre 4 rfl)) cN)
 refine wN (gN rfl rfl rfl (bool_no h301) rfl) ?_
 exact nl ⟨rfl, ⟨_, hG515, (Regs.step hReg517 hDi rfl rfl rfl rfl), hI516⟩⟩
 rintro D r wd518 ⟨G514, hG515, hReg517, hI516⟩ hDi hpre hpost
 obtain ⟨r0, rfl⟩ := Has.ex (cC (hReg517.get 4 rfl (hpre 4 rfl)) cN)
 refine wN (gN rfl rfl rfl (bool_no h301) rfl) ?_
 exact nl ⟨rfl, ⟨_, hG515, (Regs.step hReg517 hDi rfl rfl rfl rfl), hI516⟩⟩
 rintro D r wd518 ⟨G514, hG515, hReg517, hI516⟩ hDi hpre hpost
 obtain ⟨r0, rfl⟩ := Has.ex (cC (hReg517.get 4 rfl (hpre 4 rfl)) cN)
 refine wN (gN rfl rfl rfl (bool_no h301) rfl) ?_
 exact nl ⟨rfl, ⟨_, hG515, (Regs.step hReg517 hDi rfl rfl rfl rfl), hI516⟩⟩
 rintro D r wd518 ⟨G514, hG515, hReg517, hI516⟩ hDi hpre hpost
 obtain ⟨r0, rfl⟩ := Has.ex (cC (hReg517.get 4 rfl (hpre 4 rfl)) cN)
 refine wN (gN rfl rfl rfl (bool_no h301) rfl) ?_
 exact nl ⟨rfl, ⟨_, hG515, (Regs.step hReg517 hDi rfl rfl rfl rfl), hI516⟩⟩
 rintro D r wd518 ⟨G514, hG515, hReg517, hI516⟩ hDi hpre hpost
 obtain ⟨r0, rfl⟩ := Has.ex (cC (hReg517.get 4 rfl (hpre 4 rfl)) cN)
 refine wN (gN rfl rfl rfl (bool_no h301) rfl) ?_
 exact nl ⟨rfl, ⟨_, hG515, (Regs.step hReg517 hDi rfl rfl rfl rfl), hI516⟩⟩
 rintro D r wd518 ⟨G514, hG515, hReg517, hI516⟩ hDi hpre hpost
 obtain ⟨r0, rfl⟩ := Has.ex (cC (hReg517.get 4 rfl (hpre 4 rfl)) cN)
 refine wN (gN rfl rfl rfl (bool_no h301) rfl) ?_
 exact nl ⟨rfl, ⟨_, hG515, (Regs.step hReg517 hDi rfl rfl rfl rfl), hI516⟩⟩
 rintro D r wd518 ⟨G514, hG515, hReg517, hI516⟩ hDi hpre hpost
 obtain ⟨r0, rfl⟩ := Has.ex (cC (hReg517.get 4 rfl (hpre 4 rfl)) cN)
 refine wN (gN rfl rfl rfl (bool_no h301) rfl) ?_
 exact nl ⟨rfl, ⟨_, hG515, (Regs.step hReg517 hDi rfl rfl rfl rfl), hI516⟩⟩
 rintro D r wd518 ⟨G514, hG515, hReg517, hI516⟩ hDi hpre hpost
 obtain ⟨r0, rfl⟩ := Has.ex (cC (hReg517.get 4 rfl (hpre 4 rfl)) cN)
 refine wN (gN rfl rfl rfl (bool_no h301) rfl) ?_
 exact nl ⟨rfl, ⟨_, hG515, (Regs.step hReg517 hDi rfl rfl rfl rfl), hI516⟩⟩
 rintro D r wd518 ⟨G514, hG515, hReg517, hI516⟩ hDi hpre hpost
 obtain ⟨r0, rfl⟩ := Has.ex (cC (hReg517.get 4 rfl (hpre 4 rfl)) (cC (hReg517.get 12 rfl (hpre 12 rfl)) cN))
 refine q_pick false (v := bool false) (bool_no h301) rfl ?_
 exact nl ⟨rfl, ⟨_, hG515, (Regs.step hReg517 hDi rfl rfl rfl rfl), hI516⟩⟩
 rintro D r wd518 ⟨G514, hG515, hReg517, hI516⟩ hDi hpre hpost
 obtain ⟨r0, rfl⟩ := Has.ex (cC (hReg517.get 0 rfl (hpre 0 rfl)) cN)
 refine q_as (v := int .i64 v32) rfl ?_
 exact nl ⟨rfl, ⟨_, hG515, (Regs.step hReg517 hDi rfl rfl rfl rfl), hI516⟩⟩
 rintro D r wd518 ⟨G514, hG515, hReg517, hI516⟩ hDi hpre hpost
 obtain ⟨r0, rfl⟩ := Has.ex (cC (hReg517.get 13 rfl (hpre 13 rfl)) cN)
 refine q_as (v := bool false) rfl ?_
 exact nl ⟨rfl, ⟨_, hG515, (Regs.step hReg517 hDi rfl rfl rfl rfl), hI516⟩⟩
 intro D r wd518 hall hR
 obtain ⟨G514, hG515, hReg517, hI516⟩ := hR
 obtain ⟨r0, rfl⟩ := Has.ex (cC (hReg517.get 14 rfl (hall 14 (Nat.le_of_ble_eq_true rfl))) (cC (hReg517.get 15 rfl (hall 15 (Nat.le_of_ble_eq_true rfl))) cN))
 cases H
 exact ⟨rfl, _, rfl, hG515, ⟨rfl, rfl, trivial⟩, hI516, trivial⟩
 clear hC
 rintro e r ds wd298 ⟨rfl, G296, rfl, hG297, hHas, hI299, _⟩
 rw [hHas.eq]; clear hHas
 refine hK279 _ _ _ ?_
 refine wpc_ret ?_
 have hI519 := Hp.sub hI299 (sd se)
 cases H
 exact ⟨.inr rfl, rfl, _, ⟨_, _, rfl, rfl, ⟨_, _, rfl, rfl, rfl⟩⟩, _, (gT hG34 hG297), hI519, rfl⟩
set_option maxHeartbeats 1000000 in
theorem font_find_font_pair_k1_spec {a1 : List api_Kern} {a6 : font_pair} {A2 : Option Addr} {c3 : Nat} {r1056 : api_Kern} {r1057 : Bool} {G : Gh} {L : List Itm} {w : World} (hI : Hp G (L) w) (hl4 : a1.length ≤ c3) (hD5 : Dat k_api_Kern G A2 a1) (H : font_find_font_pair_k1 a1 a6 = some (r1056, r1057)) :
    Calls Tryz.prog 83 [slice A2 a1.length c3, agg [int .u8 a6.left, int .u8 a6.right].toArray, func (.func 70) [].toArray [].toArray].toArray w fun e w' => ∃ (G' : Gh), G ≤ G' ∧ Hp G' (L) w' ∧ e = .returned (tuple [agg [int .u8 r1056.Left, int .u8 r1056.Right, int .i64 r1056.By].toArray, bool r1057].toArray) := by
 refine calls_intro (N := 25) Tryz.func83 rfl rfl (Nat.le_of_ble_eq_true rfl) ?_
 unfold font_find_font_pair_k1 at H
 refine sr fun K7 hK8 => ?_
 refine q_box hI (v := agg [int .u8 a6.left, int .u8 a6.right].toArray) (vs := [int .u8 a6.left, int .u8 a6.right]) rfl rfl (fun g10 wd11 hI12 => ?_)
 refine q_alloc hI12 ze114 (fun g14 wd15 hI16 => ?_)
 refine q_as (v := bool false) rfl ?_
 refine nl ?_
 refine hK8 _ _ _ ?_
 refine sr fun K17 hK18 => ?_
 refine q_mv (v := slice A2 a1.length c3) rfl ?_
 refine q_ldA hI16 1 (cs := [int .u8 a6.left, int .u8 a6.right]) ag119 rfl rfl rfl rfl ?_
 refine q_mv (v := func (.func 70) [].toArray [].toArray) rfl ?_
 obtain ⟨⟨y24, y25⟩, hy19, H⟩ := bS H
 refine q_cv (vs := [slice A2 a1.length c3, agg [int .u8 a6.left, int .u8 a6.right].toArray, func (.func 70) [].toArray [].toArray]) bo110 rfl rfl (slices_BinarySearchFunc_font_pair_k1_spec (a1 := a1) (a6 := a6) hI16 hl4 hD5 hy19) ?_
 rintro _ wd22 ⟨G20, hG21, hI23, rfl⟩
 refine ⟨_, rfl, ?_⟩
 refine q_mv (v := tuple [int .i64 y24, bool y25].toArray) rfl ?_
 refine q_ex (v := int .i64 y24) rfl rfl ?_
 refine q_ex (v := bool y25) rfl rfl ?_
 refine q_as (v := int .i64 y24) rfl ?_
 refine q_as (v := bool y25) rfl ?_
 refine nl ?_
 refine hK18 _ _ _ ?_
 refine sQ fun K26 hK27 => ?_
 refine sr fun K28 hK29 => ?_
 refine q_mv (v := bool y25) rfl ?_
 refine q_not rfl ?_
 refine nl ?_
 refine hK29 _ _ _ ?_
 by_cases h30 : (!y25) = true
 replace H := iY h30 H
 refine wpc_true (bval_yes h30) ?_
 refine sr fun K31 hK32 => ?_
 refine q_alloc hI23 ze114 (fun g34 wd35 hI36 => ?_)
 refine nl ?_
 refine hK32 _ _ _ ?_
 refine sr fun K37 hK38 => ?_
 refine q_ldA hI36 0 (cs := [int .u8 0, int .u8 0, int .i64 0]) ag114 rfl rfl rfl rfl ?_
 refine q_stA hI36 1 (v := agg [int .u8 0, int .u8 0, int .i64 0].toArray) (cs := [int .u8 0, int .u8 0, int .i64 0]) (vs' := [int .u8 0, int .u8 0, int .i64 0]) ag114 rfl rfl rfl rfl rfl rfl (Nat.le_of_ble_eq_true rfl) rfl (fun wd39 hI40 => ?_)
 refine q_as (v := bool false) rfl ?_
 refine nl ?_
 refine hK38 _ _ _ ?_
 refine wpc_ret ?_
 have hr41 := res_cell (P := Tryz.prog) hI40 1 (cs := [int .u8 0, int .u8 0, int .i64 0]) (g := g14) (o := 0) ag114 rfl rfl rfl
 have hI42 := Hp.sub hI40 (sd (sd (sd se)))
 cases H
 exact ⟨.inr rfl, rfl, _, ⟨_, _, _, rfl, rfl, hr41, ⟨_, _, rfl, rfl, rfl⟩⟩, _, hG21, hI42, rfl⟩
 replace H := iN h30 H
 refine wpc_false (bval_no h30) ?_
 refine wpc_skip ?_
 refine hK27 _ _ _ ?_
 refine sr fun K43 hK44 => ?_
 refine q_mv (v := slice A2 a1.length c3) rfl ?_
 refine q_mv (v := int .i64 y24) rfl ?_
 obtain ⟨⟨h45, h45'⟩, H⟩ := iS H
 obtain ⟨ad46, cs47, hA48, hK49, hn50, hc51⟩ := Dat.get (Dat.mono hG21 hD5) z_api_Kern (y24) h45 h45'
 obtain ⟨rfl⟩ := open_api_Kern hK49
 refine q_ia el23 rfl hA48 rfl h45 h45' ?_
 refine q_lfA hI23 ag114 rfl (cs := [int .u8 ((a1.getD (Int.toNat y24) z_api_Kern).Left), int .u8 ((a1.getD (Int.toNat y24) z_api_Kern).Right), int .i64 ((a1.getD (Int.toNat y24) z_api_Kern).By)]) rfl (fun j v hv => gR.cel _ _ (hc51 j v hv)) ?_
 refine q_stA hI23 0 (v := agg [int .u8 ((a1.getD (Int.toNat y24) z_api_Kern).Left), int .u8 ((a1.getD (Int.toNat y24) z_api_Kern).Right), int .i64 ((a1.getD (Int.toNat y24) z_api_Kern).By)].toArray) (cs := [int .u8 ((a1.getD (Int.toNat y24) z_api_Kern).Left), int .u8 ((a1.getD (Int.toNat y24) z_api_Kern).Right), int .i64 ((a1.getD (Int.toNat y24) z_api_Kern).By)]) (vs' := [int .u8 ((a1.getD (Int.toNat y24) z_api_Kern).Left), int .u8 ((a1.getD (Int.toNat y24) z_api_Kern).Right), int .i64 ((a1.getD (Int.toNat y24) z_api_Kern).By)]) ag114 rfl rfl rfl rfl rfl rfl (Nat.le_of_ble_eq_true rfl) rfl (fun wd52 hI53 => ?_)
 refine q_as (v := bool true) rfl ?_
 refine nl ?_
 refine hK44 _ _ _ ?_
 refine wpc_ret ?_
 have hr54 := res_cell (P := Tryz.prog) hI53 0 (cs := [int .u8 ((a1.getD (Int.toNat y24) z_api_Kern).Left), int .u8 ((a1.getD (Int.toNat y24) z_api_Kern).Right), int .i64 ((a1.getD (Int.toNat y24) z_api_Kern).By)]) (g := g14) (o := 0) ag114 rfl rfl rfl
 have hI55 := Hp.sub hI53 (sd (sd se))
 cases H
 exact ⟨.inr rfl, rfl, _, ⟨_, _, _, rfl, rfl, hr54, ⟨_, _, rfl, rfl, rfl⟩⟩, _, hG21, hI55, rfl⟩
set_option maxHeartbeats 1000000 in
theorem font_Raw_spec {a1 : api_Font} {a10 : ByteArray} {A2 : Option Addr} {c3 : Nat} {A6 : Option Addr} {c7 : Nat} {r1150 : Int} {r1151 : Int} {G : Gh} {L : List Itm} {w : World} (hI : Hp G (L) w) (hl4 : a1.Glyphs.length ≤ c3) (hD5 : Dat k_api_Glyph G A2 a1.Glyphs) (hl8 : a1.Kerns.length ≤ c7) (hD9 : Dat k_api_Kern G A6 a1.Kerns) (H : font_Raw a1 a10 = some (r1150, r1151)) :
    Calls Tryz.prog 50 [agg [slice A2 a1.Glyphs.length c3, slice A6 a1.Kerns.length c7].toArray, string a10].toArray w fun e w' => ∃ (G' : Gh), G ≤ G' ∧ Hp G' (L) w' ∧ e = .returned (tuple [int .i64 r1150, int .i64 r1151].toArray) := by
 refine calls_intro_m (N := 52) Tryz.func50 rfl rfl (Nat.le_of_ble_eq_true rfl) ?_
 unfold font_Raw at H
 refine sr fun K11 hK12 => ?_
 refine q_box hI (v := agg [slice A2 a1.Glyphs.length c3, slice A6 a1.Kerns.length c7].toArray) (vs := [slice A2 a1.Glyphs.length c3, slice A6 a1.Kerns.length c7]) rfl rfl (fun g14 wd15 hI16 => ?_)
 refine q_as (v := int .i64 0) rfl ?_
 refine q_as (v := int .i64 0) rfl ?_
 refine nl ?_
 refine hK12 _ _ _ ?_
 refine sr fun K17 hK18 => ?_
 refine q_ldA hI16 0 (cs := [slice A2 a1.Glyphs.length c3, slice A6 a1.Kerns.length c7]) ag25 rfl rfl rfl rfl ?_
 refine q_mv (v := string a10) rfl ?_
 obtain ⟨⟨y24, y25⟩, hy19, H⟩ := bS H
 refine q_cv (vs := [agg [slice A2 a1.Glyphs.length c3, slice A6 a1.Kerns.length c7].toArray, string a10]) bo56 rfl rfl (font_Has_spec (a1 := a1) (a10 := a10) hI16 hl4 hD5 hl8 hD9 hy19) ?_
 rintro _ wd22 ⟨G20, hG21, hI23, rfl⟩
 refine ⟨_, rfl, ?_⟩
 refine q_mv (v := tuple [bool y24, int .i64 y25].toArray) rfl ?_
 refine q_ex (v := bool y24) rfl rfl ?_
 refine q_ex (v := int .i64 y25) rfl rfl ?_
 refine q_as (v := bool y24) rfl ?_
 refine q_as (v := int .i64 y25) rfl ?_
 refine nl ?_
 refine hK18 _ _ _ ?_
 refine sQ fun K26 hK27 => ?_
 refine wpc_block ?_
 refine sr fun K28 hK29 => ?_
 refine q_mv (v := int .i64 y25) rfl ?_
 refine q_neq rfl rfl ?_
 refine q_as (v := bool (decide (¬ y25 = 0))) rfl ?_
 refine nl ?_
 refine hK29 _ _ _ ?_
 by_cases h30 : ¬ y25 = 0
 replace H := iY h30 H
 refine wpc_true (bool_yes h30) ?_
 refine sr fun K31 hK32 => ?_
 refine q_mv (v := int .i64 y25) rfl ?_
 refine q_as (v := int .i64 0) rfl ?_
 refine q_as (v := int .i64 y25) rfl ?_
 refine nl ?_
 refine hK32 _ _ _ ?_
 refine wpc_ret ?_
 refine ⟨.inr rfl, ([] : List Nat), _, _, rfl, Hp.marks (K := [bx g14 [slice A2 a1.Glyphs.length c3, slice A6 a1.Kerns.length c7] 25]) hI23, fun wd34 hI33 => ?_⟩
 have hI35 := Hp.sub hI33 (sd se)
 cases H
 exact ⟨_, ⟨_, _, rfl, rfl, ⟨_, _, rfl, rfl, rfl⟩⟩, _, hG21, hI35, rfl⟩
 replace H := iN h30 H
 refine wpc_false (bool_no h30) ?_
 refine sr fun K36 hK37 => ?_
 refine q_mv (v := bool y24) rfl ?_
 refine q_not rfl ?_
 refine q_as (v := bool (!y24)) rfl ?_
 refine nl ?_
 refine hK37 _ _ _ ?_
 by_cases h38 : (!y24) = true
 replace H := iY h38 H
 refine wpc_true (bval_yes h38) ?_
 refine sr fun K39 hK40 => ?_
 refine q_as (v := int .i64 0) rfl ?_
 refine q_as (v := int .i64 20) rfl ?_
 refine nl ?_
 refine hK40 _ _ _ ?_
 refine wpc_ret ?_
 refine ⟨.inr rfl, ([] : List Nat), _, _, rfl, Hp.marks (K := [bx g14 [slice A2 a1.Glyphs.length c3, slice A6 a1.Kerns.length c7] 25]) hI23, fun wd42 hI41 => ?_⟩
 have hI43 := Hp.sub hI41 (sd se)
 cases H
 exact ⟨_, ⟨_, _, rfl, rfl, ⟨_, _, rfl, rfl, rfl⟩⟩, _, hG21, hI43, rfl⟩
 replace H := iN h38 H
 refine wpc_false (bval_no h38) ?_
 refine wpc_skip ?_
 refine hK27 _ _ _ ?_
 refine sr fun K44 hK45 => ?_
 refine q_alloc hI23 ze3 (fun g47 wd48 hI49 => ?_)
 refine q_stA hI49 0 (v := int .i64 0) (cs := [int .i64 0]) (vs' := [int .i64 0]) ag3 rfl rfl rfl rfl rfl rfl (Nat.le_of_ble_eq_true rfl) rfl (fun wd50 hI51 => ?_)
 refine nl ?_
 refine hK45 _ _ _ ?_
 refine sQ fun K52 hK53 => ?_
 refine sr fun K54 hK55 => ?_
 refine q_mv (v := string a10) rfl ?_
 obtain ⟨y63, hy56, H⟩ := bS H
 refine q_cv (vs := [string a10]) bo82 rfl rfl (font_pairs_spec (a1 := a10) hI51 hy56) ?_
 rintro _ wd59 ⟨g62, G57, hG58, hI60, rfl⟩
 refine ⟨_, rfl, ?_⟩
 refine nl ?_
 refine hK55 _ _ _ ?_
 refine wpc_block ?_
 obtain ⟨⟨v65, jo69⟩, hr129, H⟩ := bS H
 refine wpc_range hI60 bo109 rfl (fun fn tmps gl gd64 wd148 hA126 hI127 => ?_)
 have hY128 : Yl Tryz.prog (rnd (fun (u : Int) (x : font_pair) => font_Raw_r67 a1 u x)) (encS k_font_pair) _ gl := yl_intro (pp := [29]) (gdd := gd64) hI127 (fun (u : Int) (x : font_pair) => font_Raw_r67 a1 u x) [] (fun (u : Int) (G' : Gh) (K : List Itm) => ∃ (_ : G57 ≤ G'), K = bx g47 [int .i64 u] 3 :: bx g14 [slice A2 a1.Glyphs.length c3, slice A6 a1.Kerns.length c7] 25 :: (List.map mkI (gd64 :: ([] : List Nat)) ++ L) ∧ True) hA126 (fun _ _ _ h => (fun h => encS_len h) h) (fun hG' ⟨h0', hK', _⟩ => ⟨gT h0' hG', hK', trivial⟩) (by
 rintro Rd Bs v65 u' x75 jo' G71 K M wd73 vs ⟨hG72, rfl, _⟩ ⟨_, rfl, hK76⟩ H hI77
 obtain ⟨rfl⟩ := open_font_pair hK76
 replace H : font_Raw_r67 a1 v65 x75 = some (u', jo') := H
 unfold font_Raw_r67 at H
 refine wpc_region ?_
 refine q_alloc hI77 ze119 (fun g79 wd80 hI81 => ?_)
 refine q_stA hI81 0 (v := agg [int .u8 x75.left, int .u8 x75.right].toArray) (cs := [int .u8 x75.left, int .u8 x75.right]) (vs' := [int .u8 x75.left, int .u8 x75.right]) ag119 rfl rfl rfl rfl rfl rfl (Nat.le_of_ble_eq_true rfl) rfl (fun wd82 hI83 => ?_)
 refine nl ?_
 have hI86 := Hp.front hI83 3 rfl
 have hI87 := Hp.front hI86 3 rfl
 have hI88 := Hp.front hI87 2 rfl
 have hI89 := Hp.front hI88 3 rfl
 refine ⟨rfl, rfl, _, _, gR, hI89, fun wd85 hI84 => ?_⟩
 refine wpc_block ?_
 refine sr fun K90 hK91 => ?_
 refine q_ldA hI84 3 (cs := [slice A2 a1.Glyphs.length c3, slice A6 a1.Kerns.length c7]) ag25 rfl rfl rfl rfl ?_
 refine q_fa (a' := ⟨g79, 1, none⟩) fl119_1 rfl (add_plain _ _ _) ?_
 refine q_ld hI84 1 (v := int .u8 x75.right) ag5 rfl rfl rfl ?_
 obtain ⟨⟨y97, y98⟩, hy92, H⟩ := bS H
 refine q_cv (vs := [agg [slice A2 a1.Glyphs.length c3, slice A6 a1.Kerns.length c7].toArray, int .u8 x75.right]) bo69 rfl rfl (font_glyph_spec (a1 := a1) (a10 := x75.right) hI84 hl4 (Dat.mono (gT (gT hG21 hG58) hG72) hD5) hl8 (Dat.mono (gT (gT hG21 hG58) hG72) hD9) hy92) ?_
 rintro _ wd95 ⟨G93, hG94, hI96, rfl⟩
 refine ⟨_, rfl, ?_⟩
 refine q_mv (v := tuple [agg [int .u8 y97.Byte, int .i64 y97.Advance].toArray, bool y98].toArray) rfl ?_
 refine q_ex (v := agg [int .u8 y97.Byte, int .i64 y97.Advance].toArray) rfl rfl ?_
 refine q_ex (v := bool y98) rfl rfl ?_
 refine q_alloc hI96 ze98 (fun g100 wd101 hI102 => ?_)
 refine q_stA hI102 0 (v := agg [int .u8 y97.Byte, int .i64 y97.Advance].toArray) (cs := [int .u8 y97.Byte, int .i64 y97.Advance]) (vs' := [int .u8 y97.Byte, int .i64 y97.Advance]) ag98 rfl rfl rfl rfl rfl rfl (Nat.le_of_ble_eq_true rfl) rfl (fun wd103 hI104 => ?_)
 refine q_as (v := bool y98) rfl ?_
 refine nl ?_
 refine hK91 _ _ _ ?_
 refine sr fun K105 hK106 => ?_
 refine q_fa (a' := ⟨g14, 1, none⟩) fl25_1 rfl (add_plain _ _ _) ?_
 refine q_ld hI104 4 (v := slice A6 a1.Kerns.length c7) ag23 rfl rfl rfl ?_
 refine q_ldA hI104 2 (cs := [int .u8 x75.left, int .u8 x75.right]) ag119 rfl rfl rfl rfl ?_
 obtain ⟨⟨y112, y113⟩, hy107, H⟩ := bS H
 refine q_cv (vs := [slice A6 a1.Kerns.length c7, agg [int .u8 x75.left, int .u8 x75.right].toArray, func (.func 70) [].toArray [].toArray]) bo83 rfl rfl (font_find_font_pair_k1_spec (a1 := a1.Kerns) (a6 := x75) hI104 hl8 (Dat.mono (gT (gT (gT hG21 hG58) hG72) hG94) hD9) hy107) ?_
 rintro _ wd110 ⟨G108, hG109, hI111, rfl⟩
 refine ⟨_, rfl, ?_⟩
 refine q_mv (v := tuple [agg [int .u8 y112.Left, int .u8 y112.Right, int .i64 y112.By].toArray, bool y113].toArray) rfl ?_
 refine q_ex (v := agg [int .u8 y112.Left, int .u8 y112.Right, int .i64 y112.By].toArray) rfl rfl ?_
 refine q_ex (v := bool y113) rfl rfl ?_
 refine q_alloc hI111 ze114 (fun g115 wd116 hI117 => ?_)
 refine q_stA hI117 0 (v := agg [int .u8 y112.Left, int .u8 y112.Right, int .i64 y112.By].toArray) (cs := [int .u8 y112.Left, int .u8 y112.Right, int .i64 y112.By]) (vs' := [int .u8 y112.Left, int .u8 y112.Right, int .i64 y112.By]) ag114 rfl rfl rfl rfl rfl rfl (Nat.le_of_ble_eq_true rfl) rfl (fun wd118 hI119 => ?_)
 refine q_as (v := bool y113) rfl ?_
 refine nl ?_
 refine hK106 _ _ _ ?_
 refine wpc_region ?_
 refine q_ld hI119 4 (v := int .i64 v65) ag3 rfl rfl rfl ?_
 refine q_fa (a' := ⟨g100, 1, none⟩) fl98_1 rfl (add_plain _ _ _) ?_
 refine q_ld hI119 1 (v := int .i64 y97.Advance) ag3 rfl rfl rfl ?_
 refine q_fa (a' := ⟨g115, 2, none⟩) fl114_2 rfl (add_plain _ _ _) ?_
 refine q_ld hI119 0 (v := int .i64 y112.By) ag3 rfl rfl rfl ?_
 refine q_add rfl rfl ?_
 refine q_add rfl rfl ?_
 refine q_stA hI119 4 (v := int .i64 (w64 (v65 + (w64 (y97.Advance + y112.By))))) (cs := [int .i64 (w64 (v65 + (w64 (y97.Advance + y112.By))))]) (vs' := [int .i64 (w64 (v65 + (w64 (y97.Advance + y112.By))))]) ag3 rfl rfl rfl rfl rfl rfl (Nat.le_of_ble_eq_true rfl) rfl (fun wd120 hI121 => ?_)
 refine nl ?_
 have hI122 := Hp.front hI121 5 rfl
 have hI123 := Hp.front hI122 5 rfl
 have hI124 := Hp.front hI123 4 rfl
 have hI125 := Hp.sub hI124 (sk (sk (sk (sd (sd (sd se))))))
 cases H
 exact ⟨rfl, _, _, (gT hG94 hG109), ⟨(gT (gT hG72 hG94) hG109), rfl, trivial⟩, hI125⟩)
 have hI149 := Hp.sink (A := [bx g62 [string y63] 9]) (K := [bx g47 [int .i64 0] 3, bx g14 [slice A2 a1.Glyphs.length c3, slice A6 a1.Kerns.length c7] 25]) hI127
 refine (font_pairs_1_k1_spec (sy := (0, none)) hI149 hY128 ⟨_, rfl, Gh.le_refl _, rfl, trivial⟩ hr129).mono ?_
 rintro _ wd132 ⟨T136, G130, hG1310, hI133, ⟨K, rfl, hG131, rfl, _⟩, rfl⟩
 have hH138 := Hp.front hI133 1 rfl
 rcases jo69 with _ | j
 refine ⟨_, rfl, LoopState.ready, none, G130, _, (fun h => nomatch h), hH138, fun wd134 hI135 => ?_⟩
 refine hK53 _ _ _ ?_
 refine sr fun K143 hK144 => ?_
 refine q_ld hI135 1 (v := int .i64 v65) ag3 rfl rfl rfl ?_
 refine q_as (v := int .i64 v65) rfl ?_
 refine q_as (v := int .i64 0) rfl ?_
 refine nl ?_
 refine hK144 _ _ _ ?_
 refine wpc_ret ?_
 refine ⟨.inr rfl, (gd64 :: ([] : List Nat)), _, _, rfl, Hp.marks (K := [bx g62 [string y63] 9, bx g47 [int .i64 v65] 3, bx g14 [slice A2 a1.Glyphs.length c3, slice A6 a1.Kerns.length c7] 25]) hI135, fun wd146 hI145 => ?_⟩
 have hI147 := Hp.sub hI145 (sd (sd (sd se)))
 cases H
 exact ⟨_, ⟨_, _, rfl, rfl, ⟨_, _, rfl, rfl, rfl⟩⟩, _, (gT (gT hG21 hG58) hG131), hI147, rfl⟩
 cases H
set_option maxHeartbeats 1000000 in
theorem font_Width_spec {a1 : api_Font} {a10 : ByteArray} {a11 : Int} {A2 : Option Addr} {c3 : Nat} {A6 : Option Addr} {c7 : Nat} {r1060 : Int} {r1061 : Int} {G : Gh} {L : List Itm} {w : World} (hI : Hp G (L) w) (hl4 : a1.Glyphs.length ≤ c3) (hD5 : Dat k_api_Glyph G A2 a1.Glyphs) (hl8 : a1.Kerns.length ≤ c7) (hD9 : Dat k_api_Kern G A6 a1.Kerns) (H : font_Width a1 a10 a11 = some (r1060, r1061)) :
    Calls Tryz.prog 21 [agg [slice A2 a1.Glyphs.length c3, slice A6 a1.Kerns.length c7].toArray, string a10, int .i64 a11].toArray w fun e w' => ∃ (G' : Gh), G ≤ G' ∧ Hp G' (L) w' ∧ e = .returned (tuple [int .i64 r1060, int .i64 r1061].toArray) := by
 refine calls_intro (N := 34) Tryz.func21 rfl rfl (Nat.le_of_ble_eq_true rfl) ?_
 unfold font_Width at H
 refine sr fun K12 hK13 => ?_
 refine q_box hI (v := agg [slice A2 a1.Glyphs.length c3, slice A6 a1.Kerns.length c7].toArray) (vs := [slice A2 a1.Glyphs.length c3, slice A6 a1.Kerns.length c7]) rfl rfl (fun g15 wd16 hI17 => ?_)
 refine q_as (v := int .i64 0) rfl ?_
 refine q_as (v := int .i64 0) rfl ?_
 refine nl ?_
 refine hK13 _ _ _ ?_
 refine sr fun K18 hK19 => ?_
 refine q_ldA hI17 0 (cs := [slice A2 a1.Glyphs.length c3, slice A6 a1.Kerns.length c7]) ag25 rfl rfl rfl rfl ?_
 refine q_mv (v := string a10) rfl ?_
 obtain ⟨⟨y25, y26⟩, hy20, H⟩ := bS H
 refine q_cv (vs := [agg [slice A2 a1.Glyphs.length c3, slice A6 a1.Kerns.length c7].toArray, string a10]) bo50 rfl rfl (font_Raw_spec (a1 := a1) (a10 := a10) hI17 hl4 hD5 hl8 hD9 hy20) ?_
 rintro _ wd23 ⟨G21, hG22, hI24, rfl⟩
 refine ⟨_, rfl, ?_⟩
 refine q_mv (v := tuple [int .i64 y25, int .i64 y26].toArray) rfl ?_
 refine q_ex (v := int .i64 y25) rfl rfl ?_
 refine q_ex (v := int .i64 y26) rfl rfl ?_
 refine q_as (v := int .i64 y25) rfl ?_
 refine q_as (v := int .i64 y26) rfl ?_
 refine nl ?_
 refine hK19 _ _ _ ?_
 refine sQ fun K27 hK28 => ?_
 refine sr fun K29 hK30 => ?_
 refine q_mv (v := int .i64 y26) rfl ?_
 refine q_eql rfl rfl ?_
 refine q_mv (v := bool (decide (y26 = 1))) rfl ?_
 obtain ⟨v31, hC, H⟩ := bS H
 refine wpq_split 3 (K := fun e r ds w => e = .normal ∧ ∃ (G32 : Gh), ds = [] ∧ G21 ≤ G32 ∧ Has [(2, int .i64 a11), (8, int .i64 y25), (9, int .i64 y26), (21, bool v31)] r ∧ Hp G32 (bx g15 [slice A2 a1.Glyphs.length c3, slice A6 a1.Kerns.length c7] 25 :: L) w ∧ True) ?_ ?_
 replace H := hC
 by_cases h37 : y26 = 1
 replace H := iY h37 H
 refine wN (gN rfl rfl rfl (bool_yes h37) rfl) ?_
 refine wN (gN rfl rfl rfl (bool_yes h37) rfl) ?_
 refine q_pick true (v := bool true) (bool_yes h37) rfl ?_
 refine nl ?_
 cases H
 exact ⟨rfl, _, rfl, gR, ⟨rfl, rfl, rfl, rfl, trivial⟩, hI24, trivial⟩
 replace H := iN h37 H
 refine q_mv (v := int .i64 a11) rfl ?_ (hw := gY rfl rfl rfl (bool_no h37))
 refine q_lss rfl rfl ?_ (hw := gY rfl rfl rfl (bool_no h37))
 refine q_pick false (v := bool (decide (a11 < 50))) (bool_no h37) rfl ?_
 refine nl ?_
 cases H
 exact ⟨rfl, _, rfl, gR, ⟨rfl, rfl, rfl, rfl, trivial⟩, hI24, trivial⟩
 clear hC
 rintro e r ds wd34 ⟨rfl, G32, rfl, hG33, hHas, hI35, _⟩
 rw [hHas.eq]; clear hHas
 refine q_mv (v := bool v31) rfl ?_
 obtain ⟨v38, hC, H⟩ := bS H
 refine wpq_split 3 (K := fun e r ds w => e = .normal ∧ ∃ (G39 : Gh), ds = [] ∧ G32 ≤ G39 ∧ Has [(2, int .i64 a11), (8, int .i64 y25), (9, int .i64 y26), (25, bool v38)] r ∧ Hp G39 (bx g15 [slice A2 a1.Glyphs.length c3, slice A6 a1.Kerns.length c7] 25 :: L) w ∧ True) ?_ ?_
 replace H := hC
 by_cases h44 : v31 = true
 replace H := iY h44 H
 refine wN (gN rfl rfl rfl (bval_yes h44) rfl) ?_
 refine wN (gN rfl rfl rfl (bval_yes h44) rfl) ?_
 refine q_pick true (v := bool true) (bval_yes h44) rfl ?_
 refine nl ?_
 cases H
 exact ⟨rfl, _, rfl, gR, ⟨rfl, rfl, rfl, rfl, trivial⟩, hI35, trivial⟩
 replace H := iN h44 H
 refine q_mv (v := int .i64 a11) rfl ?_ (hw := gY rfl rfl rfl (bval_no h44))
 refine q_gtr rfl rfl ?_ (hw := gY rfl rfl rfl (bval_no h44))
 refine q_pick false (v := bool (decide (300 < a11))) (bval_no h44) rfl ?_
 refine nl ?_
 cases H
 exact ⟨rfl, _, rfl, gR, ⟨rfl, rfl, rfl, rfl, trivial⟩, hI35, trivial⟩
 clear hC
 rintro e r ds wd41 ⟨rfl, G39, rfl, hG40, hHas, hI42, _⟩
 rw [hHas.eq]; clear hHas
 refine nl ?_
 refine hK30 _ _ _ ?_
 by_cases h45 : v38 = true
 replace H := iY h45 H
 refine wpc_true (bval_yes h45) ?_
 refine sr fun K46 hK47 => ?_
 refine q_as (v := int .i64 0) rfl ?_
 refine q_as (v := int .i64 1) rfl ?_
 refine nl ?_
 refine hK47 _ _ _ ?_
 refine wpc_ret ?_
 have hI48 := Hp.sub hI42 (sd se)
 cases H
 exact ⟨.inr rfl, rfl, _, ⟨_, _, rfl, rfl, ⟨_, _, rfl, rfl, rfl⟩⟩, _, (gT (gT hG22 hG33) hG40), hI48, rfl⟩
 replace H := iN h45 H
 refine wpc_false (bval_no h45) ?_
 refine wpc_skip ?_
 refine hK28 _ _ _ ?_
 refine sQ fun K49 hK50 => ?_
 refine sr fun K51 hK52 => ?_
 refine q_mv (v := int .i64 y26) rfl ?_
 refine q_neq rfl rfl ?_
 refine nl ?_
 refine hK52 _ _ _ ?_
 by_cases h53 : ¬ y26 = 0
 replace H := iY h53 H
 refine wpc_true (bool_yes h53) ?_
 refine sr fun K54 hK55 => ?_
 refine q_mv (v := int .i64 y26) rfl ?_
 refine q_as (v := int .i64 0) rfl ?_
 refine q_as (v := int .i64 y26) rfl ?_
 refine nl ?_
 refine hK55 _ _ _ ?_
 refine wpc_ret ?_
 have hI56 := Hp.sub hI42 (sd se)
 cases H
 exact ⟨.inr rfl, rfl, _, ⟨_, _, rfl, rfl, ⟨_, _, rfl, rfl, rfl⟩⟩, _, (gT (gT hG22 hG33) hG40), hI56, rfl⟩
 replace H := iN h53 H
 refine wpc_false (bool_no h53) ?_
 refine wpc_skip ?_
 refine hK50 _ _ _ ?_
 refine sr fun K57 hK58 => ?_
 refine q_mv (v := int .i64 y25) rfl ?_
 refine q_mv (v := int .i64 a11) rfl ?_
 refine q_mul rfl rfl ?_
 refine q_add rfl rfl ?_
 refine q_quo rfl rfl (by decide) ?_
 refine q_as (v := int .i64 (w64 (Int.tdiv (w64 ((w64 (y25 * a11)) + 99)) 100))) rfl ?_
 refine q_as (v := int .i64 0) rfl ?_
 refine nl ?_
 refine hK58 _ _ _ ?_
 refine wpc_ret ?_
 have hI59 := Hp.sub hI42 (sd se)
 cases H
 exact ⟨.inr rfl, rfl, _, ⟨_, _, rfl, rfl, ⟨_, _, rfl, rfl, rfl⟩⟩, _, (gT (gT hG22 hG33) hG40), hI59, rfl⟩
set_option maxHeartbeats 1000000 in
theorem slices_IndexFunc_api_Break_k1_spec {a1 : List api_Break} {A2 : Option Addr} {c3 : Nat} {r1066 : Int} {G : Gh} {L : List Itm} {w : World} (hI : Hp G (L) w) (hl4 : a1.length ≤ c3) (hD5 : Dat k_api_Break G A2 a1) (H : slices_IndexFunc_api_Break_k1 a1 = some r1066) :
    Calls Tryz.prog 59 [slice A2 a1.length c3, func (.func 55) [].toArray [].toArray].toArray w fun e w' => ∃ (G' : Gh), G ≤ G' ∧ Hp G' (L) w' ∧ e = .returned (int .i64 r1066) := by
 refine calls_intro (N := 19) Tryz.func59 rfl rfl (Nat.le_of_ble_eq_true rfl) ?_
 unfold slices_IndexFunc_api_Break_k1 at H
 refine sr fun K6 hK7 => ?_
 refine q_as (v := int .i64 0) rfl ?_
 refine nl ?_
 refine hK7 _ _ _ ?_
 refine sQ fun K8 hK9 => ?_
 refine sr fun K10 hK11 => ?_
 refine q_mv (v := slice A2 a1.length c3) rfl ?_
 refine q_len so45 rfl ?_
 refine q_mv (v := int .i64 0) rfl ?_
 refine nl ?_
 refine hK11 _ _ _ ?_
 refine wpc_block ?_
 obtain ⟨o32, hC, H⟩ := bS H
 refine wpc_mono (Q := fun e r ds w => match (generalizing := false) o32 with | (Sum.inl v23) => e = .ret ∧ ∃ (G24 : Gh), ds = [] ∧ G ≤ G24 ∧ Has [(4, int .i64 v23)] r ∧ Hp G24 (L) w ∧ True | (Sum.inr _) => e = .exit 0 ∧ ∃ (G28 : Gh), ds = [] ∧ G ≤ G28 ∧ Has [] r ∧ Hp G28 (L) w ∧ True) ?_ ?_
 clear H
 refine wpc_loop fun I hLp => ?_
 refine slices_IndexFunc_api_Break_k1_l22.partial_correctness a1 (fun v16 o => ∀ (G33 : Gh) (r : Rg) (w : World), G ≤ G33 → Has [(0, slice A2 a1.length c3), (1, func (.func 55) [].toArray [].toArray), (7, int .i64 (a1.length : Int)), (8, int .i64 v16)] r → Hp G33 (L) w → o = o32 → I r [] w) ?_ 0 _ hC _ _ _ gR ⟨rfl, rfl, rfl, rfl, trivial⟩ hI rfl
 intro _ ih v16 o H G33 r wd35 hG34 hHas hI36 ho
 rw [ho] at H; clear ho
 rw [hHas.eq]; clear hHas
 refine hLp _ _ _ ?_
 refine sr fun K37 hK38 => ?_
 refine q_lss rfl rfl ?_
 refine nl ?_
 refine hK38 _ _ _ ?_
 refine sQ fun K39 hK40 => ?_
 by_cases h41 : v16 < (a1.length : Int)
 replace H := iY h41 H
 refine wpc_true (bool_yes h41) ?_
 refine wpc_skip ?_
 refine hK40 _ _ _ ?_
 refine sQ fun K42 hK43 => ?_
 refine wpc_block ?_
 refine sr fun K44 hK45 => ?_
 refine q_mv (v := int .i64 v16) rfl ?_
 refine q_as (v := int .i64 v16) rfl ?_
 refine nl ?_
 refine hK45 _ _ _ ?_
 refine sr fun K46 hK47 => ?_
 refine q_mv (v := func (.func 55) [].toArray [].toArray) rfl ?_
 refine q_mv (v := slice A2 a1.length c3) rfl ?_
 refine q_mv (v := int .i64 v16) rfl ?_
 obtain ⟨⟨h48, h48'⟩, H⟩ := iS H
 obtain ⟨ad49, cs50, hA51, hK52, hn53, hc54⟩ := Dat.get (Dat.mono hG34 hD5) z_api_Break (v16) h48 h48'
 obtain ⟨rfl⟩ := open_api_Break hK52
 refine q_ia el45 rfl hA51 rfl h48 h48' ?_
 refine q_lfA hI36 ag51 rfl (cs := [int .i64 ((a1.getD (Int.toNat v16) z_api_Break).At), bool ((a1.getD (Int.toNat v16) z_api_Break).Hyphen)]) rfl (fun j v hv => gR.cel _ _ (hc54 j v hv)) ?_
 obtain ⟨y60, hy55, H⟩ := bS H
 refine q_cv (vs := [agg [int .i64 ((a1.getD (Int.toNat v16) z_api_Break).At), bool ((a1.getD (Int.toNat v16) z_api_Break).Hyphen)].toArray]) bo55 rfl rfl (inline_prepare_1_spec (a1 := (a1.getD (Int.toNat v16) z_api_Break)) hI36 hy55) ?_
 rintro _ wd58 ⟨G56, hG57, hI59, rfl⟩
 refine ⟨_, rfl, ?_⟩
 refine nl ?_
 refine hK47 _ _ _ ?_
 by_cases h61 : y60 = true
 replace H := iY h61 H
 refine wpc_true (bval_yes h61) ?_
 refine sr fun K62 hK63 => ?_
 refine q_mv (v := int .i64 v16) rfl ?_
 refine q_as (v := int .i64 v16) rfl ?_
 refine nl ?_
 refine hK63 _ _ _ ?_
 refine wpc_ret ?_
 cases H
 exact ⟨rfl, _, rfl, (gT hG34 hG57), ⟨rfl, trivial⟩, hI59, trivial⟩
 replace H := iN h61 H
 refine wpc_false (bval_no h61) ?_
 refine wpc_skip ?_
 refine hK43 _ _ _ ?_
 refine wpc_region ?_
 refine q_add rfl rfl ?_
 refine q_mv (v := int .i64 (w64 (v16 + 1))) rfl ?_
 refine nl ?_
 exact ih _ _ H _ _ _ (gT hG34 hG57) ⟨rfl, rfl, rfl, rfl, trivial⟩ hI59 rfl
 replace H := iN h41 H
 refine wpc_false (bool_no h41) ?_
 refine wpc_exit ?_
 cases H
 exact ⟨rfl, _, rfl, hG34, trivial, hI36, trivial⟩
 clear hC
 rcases o32 with v23 | _
 rintro e r ds wd26 ⟨rfl, G24, rfl, hG25, hHas, hI27, _⟩
 rw [hHas.eq]; clear hHas
 cases H
 exact ⟨.inr rfl, rfl, _, ⟨_, _, rfl, rfl, rfl⟩, _, hG25, hI27, rfl⟩
 rintro e r ds wd30 ⟨rfl, G28, rfl, hG29, hHas, hI31, _⟩
 rw [hHas.eq]; clear hHas
 refine hK9 _ _ _ ?_
 refine sr fun K64 hK65 => ?_
 refine q_as (v := int .i64 (-1)) rfl ?_
 refine nl ?_
 refine hK65 _ _ _ ?_
 refine wpc_ret ?_
 cases H
 exact ⟨.inr rfl, rfl, _, ⟨_, _, rfl, rfl, rfl⟩, _, hG29, hI31, rfl⟩
set_option maxHeartbeats 1000000 in
theorem slices_ContainsFunc_api_Break_k1_spec {a1 : List api_Break} {A2 : Option Addr} {c3 : Nat} {r1016 : Bool} {G : Gh} {L : List Itm} {w : World} (hI : Hp G (L) w) (hl4 : a1.length ≤ c3) (hD5 : Dat k_api_Break G A2 a1) (H : slices_ContainsFunc_api_Break_k1 a1 = some r1016) :
    Calls Tryz.prog 54 [slice A2 a1.length c3, func (.func 55) [].toArray [].toArray].toArray w fun e w' => ∃ (G' : Gh), G ≤ G' ∧ Hp G' (L) w' ∧ e = .returned (bool r1016) := by
 refine calls_intro (N := 9) Tryz.func54 rfl rfl (Nat.le_of_ble_eq_true rfl) ?_
 unfold slices_ContainsFunc_api_Break_k1 at H
 refine sr fun K6 hK7 => ?_
 refine q_as (v := bool false) rfl ?_
 refine nl ?_
 refine hK7 _ _ _ ?_
 refine sr fun K8 hK9 => ?_
 refine q_mv (v := slice A2 a1.length c3) rfl ?_
 refine q_mv (v := func (.func 55) [].toArray [].toArray) rfl ?_
 obtain ⟨y15, hy10, H⟩ := bS H
 refine q_cv (vs := [slice A2 a1.length c3, func (.func 55) [].toArray [].toArray]) bo59 rfl rfl (slices_IndexFunc_api_Break_k1_spec (a1 := a1) hI hl4 hD5 hy10) ?_
 rintro _ wd13 ⟨G11, hG12, hI14, rfl⟩
 refine ⟨_, rfl, ?_⟩
 refine q_geq rfl rfl ?_
 refine q_as (v := bool (decide (0 ≤ y15))) rfl ?_
 refine nl ?_
 refine hK9 _ _ _ ?_
 refine wpc_ret ?_
 cases H
 exact ⟨.inr rfl, rfl, _, ⟨_, _, rfl, rfl, rfl⟩, _, hG12, hI14, rfl⟩
set_option maxHeartbeats 1000000 in
theorem inline_prepare_spec {a1 : api_Font} {a10 : api_Breaks} {a15 : ByteArray} {a16 : Int} {A2 : Option Addr} {c3 : Nat} {A6 : Option Addr} {c7 : Nat} {A11 : Option Addr} {c12 : Nat} {rr : (Sum (ByteArray × (List api_Break)) (Sum (ByteArray × (List api_Break)) (ByteArray × (List api_Break) × api_Font × Int)))} {G : Gh} {L : List Itm} {w : World} (hI : Hp G (L) w) (hl4 : a1.Glyphs.length ≤ c3) (hD5 : Dat k_api_Glyph G A2 a1.Glyphs) (hl8 : a1.Kerns.length ≤ c7) (hD9 : Dat k_api_Kern G A6 a1.Kerns) (hl13 : a10.Keep.length ≤ c12) (hD14 : Dat Kd.str G A11 a10.Keep) (H : inline_prepare a1 a10 a15 a16 = some rr) :
    Calls Tryz.prog 26 [agg [slice A2 a1.Glyphs.length c3, slice A6 a1.Kerns.length c7].toArray, agg [int .i64 a10.Before, int .i64 a10.Behind, slice A11 a10.Keep.length c12].toArray, string a15, int .i64 a16].toArray w fun e w' => match (generalizing := false) rr with | (Sum.inl (r1226, r1227)) => ∃ (A1228 : Option Addr) (c1229 : Nat) (G' : Gh), G ≤ G' ∧ Hp G' (tk (slice A1228 r1227.length c1229) 2 51 :: L) w' ∧ r1227.length ≤ c1229 ∧ Dat k_api_Break G' A1228 r1227 ∧ Own A1228 c1229 ∧ e = .returned (tuple [agg [string r1226, slice A1228 r1227.length c1229, Value.nilFunc].toArray, int .i64 1].toArray) | (Sum.inr (Sum.inl (r2234, r2235))) => ∃ (A2236 : Option Addr) (c2237 : Nat) (G' : Gh), G ≤ G' ∧ Hp G' (tk (slice A2236 r2235.length c2237) 2 51 :: L) w' ∧ r2235.length ≤ c2237 ∧ Dat k_api_Break G' A2236 r2235 ∧ Own A2236 c2237 ∧ e = .returned (tuple [agg [string r2234, slice A2236 r2235.length c2237, Value.nilFunc].toArray, int .i64 20].toArray) | (Sum.inr (Sum.inr (r3242, r3243, r3252, r3263))) => ∃ (A3244 : Option Addr) (c3245 : Nat) (g3251 : Nat) (A3253 : Option Addr) (c3254 : Nat) (A3257 : Option Addr) (c3258 : Nat) (g3262 : Nat) (G' : Gh), G ≤ G' ∧ Hp G' (tk (slice A3244 r3243.length c3245) 2 51 :: bx g3251 [slice A3253 r3252.Glyphs.length c3254, slice A3257 r3252.Kerns.length c3258] 25 :: bx g3262 [int .i64 r3263] 3 :: L) w' ∧ r3243.length ≤ c3245 ∧ Dat k_api_Break G' A3244 r3243 ∧ Own A3244 c3245 ∧ r3252.Glyphs.length ≤ c3254 ∧ Dat k_api_Glyph G' A3253 r3252.Glyphs ∧ r3252.Kerns.length ≤ c3258 ∧ Dat k_api_Kern G' A3257 r3252.Kerns ∧ e = .returned (tuple [agg [string r3242, slice A3244 r3243.length c3245, func (.func 57) [].toArray [pointer (some ⟨g3251, 0, none⟩), pointer (some ⟨g3262, 0, none⟩)].toArray].toArray, int .i64 0].toArray) := by
 refine calls_intro (N := 68) Tryz.func26 rfl rfl (Nat.le_of_ble_eq_true rfl) ?_
 unfold inline_prepare at H
 refine sr fun K17 hK18 => ?_
 refine q_box hI (v := agg [slice A2 a1.Glyphs.length c3, slice A6 a1.Kerns.length c7].toArray) (vs := [slice A2 a1.Glyphs.length c3, slice A6 a1.Kerns.length c7]) rfl rfl (fun g20 wd21 hI22 => ?_)
 refine q_box hI22 (v := agg [int .i64 a10.Before, int .i64 a10.Behind, slice A11 a10.Keep.length c12].toArray) (vs := [int .i64 a10.Before, int .i64 a10.Behind, slice A11 a10.Keep.length c12]) rfl rfl (fun g24 wd25 hI26 => ?_)
 refine q_box hI26 (v := int .i64 a16) (vs := [int .i64 a16]) rfl rfl (fun g28 wd29 hI30 => ?_)
 refine q_alloc hI30 ze68 (fun g32 wd33 hI34 => ?_)
 refine q_as (v := int .i64 0) rfl ?_
 refine nl ?_
 refine hK18 _ _ _ ?_
 refine sr fun K35 hK36 => ?_
 refine q_ldA hI34 2 (cs := [int .i64 a10.Before, int .i64 a10.Behind, slice A11 a10.Keep.length c12]) ag28 rfl rfl rfl rfl ?_
 refine q_mv (v := string a15) rfl ?_
 obtain ⟨⟨y42, y49⟩, hy37, H⟩ := bS H
 refine q_cv (vs := [agg [int .i64 a10.Before, int .i64 a10.Behind, slice A11 a10.Keep.length c12].toArray, string a15]) bo19 rfl rfl (breaks_List_spec (a1 := a10) (a6 := a15) hI34 hl13 hD14 hy37) ?_
 rintro _ wd40 ⟨A43, c44, G38, hG39, hI41, hl45, hD46, ho47, rfl⟩
 refine ⟨_, rfl, ?_⟩
 refine q_mv (v := tuple [slice A43 y42.length c44, int .i64 y49].toArray) rfl ?_
 refine q_ex (v := slice A43 y42.length c44) rfl rfl ?_
 refine q_ex (v := int .i64 y49) rfl rfl ?_
 refine q_as (v := slice A43 y42.length c44) rfl ?_
 refine q_as (v := int .i64 y49) rfl ?_
 refine nl ?_
 refine hK36 _ _ _ ?_
 refine sQ fun K50 hK51 => ?_
 refine sr fun K52 hK53 => ?_
 refine q_mv (v := int .i64 y49) rfl ?_
 refine q_neq rfl rfl ?_
 refine q_mv (v := bool (decide (¬ y49 = 0))) rfl ?_
 obtain ⟨v54, hC, H⟩ := bS H
 refine wpq_split 4 (K := fun e r ds w => e = .normal ∧ ∃ (G55 : Gh), ds = [] ∧ G38 ≤ G55 ∧ Has [(2, string a15), (4, pointer (some ⟨g20, 0, none⟩)), (7, pointer (some ⟨g28, 0, none⟩)), (8, pointer (some ⟨g32, 0, none⟩)), (10, slice A43 y42.length c44), (30, bool v54)] r ∧ Hp G55 (bx g32 [string (⟨#[]⟩ : ByteArray), slice none 0 0, Value.nilFunc] 68 :: bx g28 [int .i64 a16] 3 :: bx g24 [int .i64 a10.Before, int .i64 a10.Behind, slice A11 a10.Keep.length c12] 28 :: bx g20 [slice A2 a1.Glyphs.length c3, slice A6 a1.Kerns.length c7] 25 :: tk (slice A43 y42.length c44) 2 51 :: L) w ∧ True) ?_ ?_
 replace H := hC
 by_cases h60 : ¬ y49 = 0
 replace H := iY h60 H
 refine wN (gN rfl rfl rfl (bool_yes h60) rfl) ?_
 refine wN (gN rfl rfl rfl (bool_yes h60) rfl) ?_
 refine wN (gN rfl rfl rfl (bool_yes h60) rfl) ?_
 refine q_pick true (v := bool true) (bool_yes h60) rfl ?_
 refine nl ?_
 have hI61 := Hp.front hI41 4 rfl
 have hI62 := Hp.front hI61 4 rfl
 have hI63 := Hp.front hI62 4 rfl
 have hI64 := Hp.front hI63 4 rfl
 cases H
 exact ⟨rfl, _, rfl, gR, ⟨rfl, rfl, rfl, rfl, rfl, rfl, trivial⟩, hI64, trivial⟩
 replace H := iN h60 H
 refine q_ldA hI41 4 (cs := [slice A2 a1.Glyphs.length c3, slice A6 a1.Kerns.length c7]) ag25 rfl rfl rfl rfl ?_ (hw := gY rfl rfl rfl (bool_no h60))
 obtain ⟨y70, hy65, H⟩ := bS H
 refine q_cv (vs := [agg [slice A2 a1.Glyphs.length c3, slice A6 a1.Kerns.length c7].toArray]) bo36 rfl rfl (font_Valid_spec (a1 := a1) hI41 hl4 (Dat.mono hG39 hD5) hl8 (Dat.mono hG39 hD9) hy65) ?_ (hw := gY rfl rfl rfl (bool_no h60))
 rintro _ wd68 ⟨G66, hG67, hI69, rfl⟩
 refine ⟨_, rfl, ?_⟩
 refine q_not rfl ?_ (hw := gY rfl rfl rfl (bool_no h60))
 refine q_pick false (v := bool (!y70)) (bool_no h60) rfl ?_
 refine nl ?_
 have hI71 := Hp.front hI69 4 rfl
 have hI72 := Hp.front hI71 4 rfl
 have hI73 := Hp.front hI72 4 rfl
 have hI74 := Hp.front hI73 4 rfl
 cases H
 exact ⟨rfl, _, rfl, hG67, ⟨rfl, rfl, rfl, rfl, rfl, rfl, trivial⟩, hI74, trivial⟩
 clear hC
 rintro e r ds wd57 ⟨rfl, G55, rfl, hG56, hHas, hI58, _⟩
 rw [hHas.eq]; clear hHas
 refine q_mv (v := bool v54) rfl ?_
 obtain ⟨v75, hC, H⟩ := bS H
 refine wpq_split 4 (K := fun e r ds w => e = .normal ∧ ∃ (G76 : Gh), ds = [] ∧ G55 ≤ G76 ∧ Has [(2, string a15), (4, pointer (some ⟨g20, 0, none⟩)), (7, pointer (some ⟨g28, 0, none⟩)), (8, pointer (some ⟨g32, 0, none⟩)), (10, slice A43 y42.length c44), (35, bool v75)] r ∧ Hp G76 (bx g32 [string (⟨#[]⟩ : ByteArray), slice none 0 0, Value.nilFunc] 68 :: bx g28 [int .i64 a16] 3 :: bx g24 [int .i64 a10.Before, int .i64 a10.Behind, slice A11 a10.Keep.length c12] 28 :: bx g20 [slice A2 a1.Glyphs.length c3, slice A6 a1.Kerns.length c7] 25 :: tk (slice A43 y42.length c44) 2 51 :: L) w ∧ True) ?_ ?_
 replace H := hC
 by_cases h81 : v54 = true
 replace H := iY h81 H
 refine wN (gN rfl rfl rfl (bval_yes h81) rfl) ?_
 refine wN (gN rfl rfl rfl (bval_yes h81) rfl) ?_
 refine wN (gN rfl rfl rfl (bval_yes h81) rfl) ?_
 refine q_pick true (v := bool true) (bval_yes h81) rfl ?_
 refine nl ?_
 cases H
 exact ⟨rfl, _, rfl, gR, ⟨rfl, rfl, rfl, rfl, rfl, rfl, trivial⟩, hI58, trivial⟩
 replace H := iN h81 H
 refine q_ld hI58 1 (v := int .i64 a16) ag3 rfl rfl rfl ?_ (hw := gY rfl rfl rfl (bval_no h81))
 obtain ⟨y87, hy82, H⟩ := bS H
 refine q_cv (vs := [int .i64 a16, int .i64 50, int .i64 300]) bo25 rfl rfl (inline_within_int_spec (a1 := a16) (a2 := 50) (a3 := 300) hI58 hy82) ?_ (hw := gY rfl rfl rfl (bval_no h81))
 rintro _ wd85 ⟨G83, hG84, hI86, rfl⟩
 refine ⟨_, rfl, ?_⟩
 refine q_not rfl ?_ (hw := gY rfl rfl rfl (bval_no h81))
 refine q_pick false (v := bool (!y87)) (bval_no h81) rfl ?_
 refine nl ?_
 cases H
 exact ⟨rfl, _, rfl, hG84, ⟨rfl, rfl, rfl, rfl, rfl, rfl, trivial⟩, hI86, trivial⟩
 clear hC
 rintro e r ds wd78 ⟨rfl, G76, rfl, hG77, hHas, hI79, _⟩
 rw [hHas.eq]; clear hHas
 refine nl ?_
 refine hK53 _ _ _ ?_
 by_cases h88 : v75 = true
 replace H := iY h88 H
 refine wpc_true (bval_yes h88) ?_
 refine sr fun K89 hK90 => ?_
 refine q_build (vs := []) (cs := [string (⟨#[]⟩ : ByteArray), slice none 0 0, Value.nilFunc]) ze68 pl68 rfl rfl ?_
 refine q_stA hI79 0 (v := agg [string (⟨#[]⟩ : ByteArray), slice none 0 0, Value.nilFunc].toArray) (cs := [string (⟨#[]⟩ : ByteArray), slice none 0 0, Value.nilFunc]) (vs' := [string (⟨#[]⟩ : ByteArray), slice none 0 0, Value.nilFunc]) ag68 rfl rfl rfl rfl rfl rfl (Nat.le_of_ble_eq_true rfl) rfl (fun wd91 hI92 => ?_)
 refine q_as (v := int .i64 1) rfl ?_
 refine nl ?_
 refine hK90 _ _ _ ?_
 refine wpc_ret ?_
 have hr93 := res_cell (P := Tryz.prog) hI92 0 (cs := [string (⟨#[]⟩ : ByteArray), slice none 0 0, Value.nilFunc]) (g := g32) (o := 0) ag68 rfl rfl rfl
 have hI94 := Hp.emp hI92
 have hI96 := Hp.sub hI94 (sk (sd (sd (sd (sd (sd se))))))
 cases H
 exact ⟨.inr rfl, rfl, _, ⟨_, _, _, rfl, rfl, hr93, ⟨_, _, rfl, rfl, rfl⟩⟩, none, 0, _, (gT (gT hG39 hG56) hG77), hI96, (show ([] : List api_Break).length ≤ 0 from Nat.le_refl 0), (Dat.nil _ _ _), Own.nil, rfl⟩
 replace H := iN h88 H
 refine wpc_false (bval_no h88) ?_
 refine wpc_skip ?_
 refine hK51 _ _ _ ?_
 refine sr fun K97 hK98 => ?_
 refine q_mv (v := string a15) rfl ?_
 refine q_as (v := string a15) rfl ?_
 refine nl ?_
 refine hK98 _ _ _ ?_
 refine sQ fun K99 hK100 => ?_
 refine sr fun K101 hK102 => ?_
 refine q_mv (v := slice A43 y42.length c44) rfl ?_
 obtain ⟨y108, hy103, H⟩ := bS H
 refine q_cv (vs := [slice A43 y42.length c44, func (.func 55) [].toArray [].toArray]) bo54 rfl rfl (slices_ContainsFunc_api_Break_k1_spec (a1 := y42) hI79 hl45 (Dat.mono (gT hG56 hG77) hD46) hy103) ?_
 rintro _ wd106 ⟨G104, hG105, hI107, rfl⟩
 refine ⟨_, rfl, ?_⟩
 refine nl ?_
 refine hK102 _ _ _ ?_
 by_cases h109 : y108 = true
 replace H := iY h109 H
 refine wpc_true (bval_yes h109) ?_
 refine sr fun K110 hK111 => ?_
 refine q_as (v := string (⟨#[45]⟩ : ByteArray)) rfl ?_
 refine nl ?_
 refine hK111 _ _ _ ?_
 refine sr fun K112 hK113 => ?_
 refine q_ldA hI107 3 (cs := [slice A2 a1.Glyphs.length c3, slice A6 a1.Kerns.length c7]) ag25 rfl rfl rfl rfl ?_
 refine q_mv (v := string a15) rfl ?_
 obtain ⟨⟨y119, y120⟩, hy114, H⟩ := bS H
 refine q_cv (vs := [agg [slice A2 a1.Glyphs.length c3, slice A6 a1.Kerns.length c7].toArray, string a15]) bo56 rfl rfl (font_Has_spec (a1 := a1) (a10 := a15) hI107 hl4 (Dat.mono (gT (gT (gT hG39 hG56) hG77) hG105) hD5) hl8 (Dat.mono (gT (gT (gT hG39 hG56) hG77) hG105) hD9) hy114) ?_
 rintro _ wd117 ⟨G115, hG116, hI118, rfl⟩
 refine ⟨_, rfl, ?_⟩
 refine q_mv (v := tuple [bool y119, int .i64 y120].toArray) rfl ?_
 refine q_ex (v := bool y119) rfl rfl ?_
 refine q_ex (v := int .i64 y120) rfl rfl ?_
 refine q_as (v := bool y119) rfl ?_
 refine q_as (v := int .i64 y120) rfl ?_
 refine nl ?_
 refine hK113 _ _ _ ?_
 refine sr fun K121 hK122 => ?_
 refine q_mv (v := bool y119) rfl ?_
 refine q_not rfl ?_
 refine nl ?_
 refine hK122 _ _ _ ?_
 by_cases h123 : (!y119) = true
 replace H := iY h123 H
 refine wpc_true (bval_yes h123) ?_
 refine sr fun K124 hK125 => ?_
 refine q_build (vs := []) (cs := [string (⟨#[]⟩ : ByteArray), slice none 0 0, Value.nilFunc]) ze68 pl68 rfl rfl ?_
 refine q_stA hI118 0 (v := agg [string (⟨#[]⟩ : ByteArray), slice none 0 0, Value.nilFunc].toArray) (cs := [string (⟨#[]⟩ : ByteArray), slice none 0 0, Value.nilFunc]) (vs' := [string (⟨#[]⟩ : ByteArray), slice none 0 0, Value.nilFunc]) ag68 rfl rfl rfl rfl rfl rfl (Nat.le_of_ble_eq_true rfl) rfl (fun wd126 hI127 => ?_)
 refine q_as (v := int .i64 20) rfl ?_
 refine nl ?_
 refine hK125 _ _ _ ?_
 refine wpc_ret ?_
 have hr128 := res_cell (P := Tryz.prog) hI127 0 (cs := [string (⟨#[]⟩ : ByteArray), slice none 0 0, Value.nilFunc]) (g := g32) (o := 0) ag68 rfl rfl rfl
 have hI129 := Hp.emp hI127
 have hI131 := Hp.sub hI129 (sk (sd (sd (sd (sd (sd se))))))
 cases H
 exact ⟨.inr rfl, rfl, _, ⟨_, _, _, rfl, rfl, hr128, ⟨_, _, rfl, rfl, rfl⟩⟩, none, 0, _, (gT (gT (gT (gT hG39 hG56) hG77) hG105) hG116), hI131, (show ([] : List api_Break).length ≤ 0 from Nat.le_refl 0), (Dat.nil _ _ _), Own.nil, rfl⟩
 replace H := iN h123 H
 refine wpc_false (bval_no h123) ?_
 refine wpc_skip ?_
 refine hK100 _ _ _ ?_
 refine sQ fun K132 hK133 => ?_
 refine sr fun K134 hK135 => ?_
 refine q_ldA hI118 3 (cs := [slice A2 a1.Glyphs.length c3, slice A6 a1.Kerns.length c7]) ag25 rfl rfl rfl rfl ?_
 refine q_mv (v := string (⟨#[45]⟩ : ByteArray)) rfl ?_
 obtain ⟨⟨y141, y142⟩, hy136, H⟩ := bS H
 refine q_cv (vs := [agg [slice A2 a1.Glyphs.length c3, slice A6 a1.Kerns.length c7].toArray, string (⟨#[45]⟩ : ByteArray)]) bo56 rfl rfl (font_Has_spec (a1 := a1) (a10 := (⟨#[45]⟩ : ByteArray)) hI118 hl4 (Dat.mono (gT (gT (gT (gT hG39 hG56) hG77) hG105) hG116) hD5) hl8 (Dat.mono (gT (gT (gT (gT hG39 hG56) hG77) hG105) hG116) hD9) hy136) ?_
 rintro _ wd139 ⟨G137, hG138, hI140, rfl⟩
 refine ⟨_, rfl, ?_⟩
 refine q_mv (v := tuple [bool y141, int .i64 y142].toArray) rfl ?_
 refine q_ex (v := bool y141) rfl rfl ?_
 refine q_ex (v := int .i64 y142) rfl rfl ?_
 refine q_as (v := bool y141) rfl ?_
 refine q_as (v := int .i64 y142) rfl ?_
 refine nl ?_
 refine hK135 _ _ _ ?_
 refine sr fun K143 hK144 => ?_
 refine q_mv (v := bool y141) rfl ?_
 refine q_not rfl ?_
 refine nl ?_
 refine hK144 _ _ _ ?_
 by_cases h145 : (!y141) = true
 replace H := iY h145 H
 refine wpc_true (bval_yes h145) ?_
 refine sr fun K146 hK147 => ?_
 refine q_build (vs := []) (cs := [string (⟨#[]⟩ : ByteArray), slice none 0 0, Value.nilFunc]) ze68 pl68 rfl rfl ?_
 refine q_stA hI140 0 (v := agg [string (⟨#[]⟩ : ByteArray), slice none 0 0, Value.nilFunc].toArray) (cs := [string (⟨#[]⟩ : ByteArray), slice none 0 0, Value.nilFunc]) (vs' := [string (⟨#[]⟩ : ByteArray), slice none 0 0, Value.nilFunc]) ag68 rfl rfl rfl rfl rfl rfl (Nat.le_of_ble_eq_true rfl) rfl (fun wd148 hI149 => ?_)
 refine q_as (v := int .i64 20) rfl ?_
 refine nl ?_
 refine hK147 _ _ _ ?_
 refine wpc_ret ?_
 have hr150 := res_cell (P := Tryz.prog) hI149 0 (cs := [string (⟨#[]⟩ : ByteArray), slice none 0 0, Value.nilFunc]) (g := g32) (o := 0) ag68 rfl rfl rfl
 have hI151 := Hp.emp hI149
 have hI153 := Hp.sub hI151 (sk (sd (sd (sd (sd (sd se))))))
 cases H
 exact ⟨.inr rfl, rfl, _, ⟨_, _, _, rfl, rfl, hr150, ⟨_, _, rfl, rfl, rfl⟩⟩, none, 0, _, (gT (gT (gT (gT (gT hG39 hG56) hG77) hG105) hG116) hG138), hI153, (show ([] : List api_Break).length ≤ 0 from Nat.le_refl 0), (Dat.nil _ _ _), Own.nil, rfl⟩
 replace H := iN h145 H
 refine wpc_false (bval_no h145) ?_
 refine wpc_skip ?_
 refine hK133 _ _ _ ?_
 refine sr fun K154 hK155 => ?_
 refine q_fn (vs := []) (us := [pointer (some ⟨g20, 0, none⟩), pointer (some ⟨g28, 0, none⟩)]) rfl rfl ?_
 refine q_as (v := func (.func 57) [].toArray [pointer (some ⟨g20, 0, none⟩), pointer (some ⟨g28, 0, none⟩)].toArray) rfl ?_
 refine nl ?_
 refine hK155 _ _ _ ?_
 refine sr fun K156 hK157 => ?_
 refine q_mv (v := string a15) rfl ?_
 refine q_mv (v := slice A43 y42.length c44) rfl ?_
 refine q_mv (v := string a15) rfl ?_
 refine q_lens so9 rfl ?_
 refine q_build (vs := [(0, int .i64 (a15.size : Int))]) (cs := [int .i64 (a15.size : Int), bool false]) ze51 pl51 rfl rfl ?_
 refine q_bs hI140 (vs := [(0, agg [int .i64 (a15.size : Int), bool false].toArray)]) (cs := [int .i64 (a15.size : Int), bool false]) el45 ze51 rfl (by decide) rfl rfl (fun g159 wd160 hI161 => ?_)
 obtain ⟨h171, H⟩ := iS H
 refine q_app (xs := y42) (ys := [(⟨(a15.size : Int), false⟩ : api_Break)]) k_api_Break hI161 5 el45 ze51 rfl rfl rfl rfl ho47 hl45 (Dat.mono (gT (gT (gT (gT hG56 hG77) hG105) hG116) hG138) hD46) (src_bx hI161 0 so45 rfl rfl) ⟨[int .i64 (a15.size : Int), bool false], _, rfl, (mk_api_Break (x := (⟨(a15.size : Int), false⟩ : api_Break))), rfl⟩ rfl (by simp only [List.length_cons, List.length_nil]; omega) (by simp only [List.length_cons, List.length_nil]; omega) (fun A162 c163 G164 wd165 hG166 ho167 hl168 hD169 hI170 => ?_)
 refine q_mv (v := func (.func 57) [].toArray [pointer (some ⟨g20, 0, none⟩), pointer (some ⟨g28, 0, none⟩)].toArray) rfl ?_
 refine q_build (vs := [(0, string a15), (1, slice A162 (y42 ++ [(⟨(a15.size : Int), false⟩ : api_Break)]).length c163), (2, func (.func 57) [].toArray [pointer (some ⟨g20, 0, none⟩), pointer (some ⟨g28, 0, none⟩)].toArray)]) (cs := [string a15, slice A162 (y42 ++ [(⟨(a15.size : Int), false⟩ : api_Break)]).length c163, func (.func 57) [].toArray [pointer (some ⟨g20, 0, none⟩), pointer (some ⟨g28, 0, none⟩)].toArray]) ze68 pl68 rfl rfl ?_
 refine q_stA hI170 1 (v := agg [string a15, slice A162 (y42 ++ [(⟨(a15.size : Int), false⟩ : api_Break)]).length c163, func (.func 57) [].toArray [pointer (some ⟨g20, 0, none⟩), pointer (some ⟨g28, 0, none⟩)].toArray].toArray) (cs := [string a15, slice A162 (y42 ++ [(⟨(a15.size : Int), false⟩ : api_Break)]).length c163, func (.func 57) [].toArray [pointer (some ⟨g20, 0, none⟩), pointer (some ⟨g28, 0, none⟩)].toArray]) (vs' := [string a15, slice A162 (y42 ++ [(⟨(a15.size : Int), false⟩ : api_Break)]).length c163, func (.func 57) [].toArray [pointer (some ⟨g20, 0, none⟩), pointer (some ⟨g28, 0, none⟩)].toArray]) ag68 rfl rfl rfl rfl rfl rfl (Nat.le_of_ble_eq_true rfl) rfl (fun wd172 hI173 => ?_)
 refine q_as (v := int .i64 0) rfl ?_
 refine nl ?_
 refine hK157 _ _ _ ?_
 refine wpc_ret ?_
 have hr174 := res_cell (P := Tryz.prog) hI173 1 (cs := [string a15, slice A162 (y42 ++ [(⟨(a15.size : Int), false⟩ : api_Break)]).length c163, func (.func 57) [].toArray [pointer (some ⟨g20, 0, none⟩), pointer (some ⟨g28, 0, none⟩)].toArray]) (g := g32) (o := 0) ag68 rfl rfl rfl
 have hI175 := Hp.front hI173 2 rfl
 have hI176 := Hp.front hI175 4 rfl
 have hI177 := Hp.front hI176 5 rfl
 have hI178 := Hp.sub hI177 (sk (sk (sk (sd (sd (sd se))))))
 cases H
 exact ⟨.inr rfl, rfl, _, ⟨_, _, _, rfl, rfl, hr174, ⟨_, _, rfl, rfl, rfl⟩⟩, A162, c163, g20, A2, c3, A6, c7, g28, _, (gT (gT (gT (gT (gT (gT hG39 hG56) hG77) hG105) hG116) hG138) hG166), hI178, hl168, hD169, ho167, hl4, (Dat.mono (gT (gT (gT (gT (gT (gT hG39 hG56) hG77) hG105) hG116) hG138) hG166) hD5), hl8, (Dat.mono (gT (gT (gT (gT (gT (gT hG39 hG56) hG77) hG105) hG116) hG138) hG166) hD9), rfl⟩
 replace H := iN h109 H
 refine wpc_false (bval_no h109) ?_
 refine wpc_skip ?_
 refine hK100 _ _ _ ?_
 refine sQ fun K179 hK180 => ?_
 refine sr fun K181 hK182 => ?_
 refine q_ldA hI107 3 (cs := [slice A2 a1.Glyphs.length c3, slice A6 a1.Kerns.length c7]) ag25 rfl rfl rfl rfl ?_
 refine q_mv (v := string a15) rfl ?_
 obtain ⟨⟨y188, y189⟩, hy183, H⟩ := bS H
 refine q_cv (vs := [agg [slice A2 a1.Glyphs.length c3, slice A6 a1.Kerns.length c7].toArray, string a15]) bo56 rfl rfl (font_Has_spec (a1 := a1) (a10 := a15) hI107 hl4 (Dat.mono (gT (gT (gT hG39 hG56) hG77) hG105) hD5) hl8 (Dat.mono (gT (gT (gT hG39 hG56) hG77) hG105) hD9) hy183) ?_
 rintro _ wd186 ⟨G184, hG185, hI187, rfl⟩
 refine ⟨_, rfl, ?_⟩
 refine q_mv (v := tuple [bool y188, int .i64 y189].toArray) rfl ?_
 refine q_ex (v := bool y188) rfl rfl ?_
 refine q_ex (v := int .i64 y189) rfl rfl ?_
 refine q_as (v := bool y188) rfl ?_
 refine q_as (v := int .i64 y189) rfl ?_
 refine nl ?_
 refine hK182 _ _ _ ?_
 refine sr fun K190 hK191 => ?_
 refine q_mv (v := bool y188) rfl ?_
 refine q_not rfl ?_
 refine nl ?_
 refine hK191 _ _ _ ?_
 by_cases h192 : (!y188) = true
 replace H := iY h192 H
 refine wpc_true (bval_yes h192) ?_
 refine sr fun K193 hK194 => ?_
 refine q_build (vs := []) (cs := [string (⟨#[]⟩ : ByteArray), slice none 0 0, Value.nilFunc]) ze68 pl68 rfl rfl ?_
 refine q_stA hI187 0 (v := agg [string (⟨#[]⟩ : ByteArray), slice none 0 0, Value.nilFunc].toArray) (cs := [string (⟨#[]⟩ : ByteArray), slice none 0 0, Value.nilFunc]) (vs' := [string (⟨#[]⟩ : ByteArray), slice none 0 0, Value.nilFunc]) ag68 rfl rfl rfl rfl rfl rfl (Nat.le_of_ble_eq_true rfl) rfl (fun wd195 hI196 => ?_)
 refine q_as (v := int .i64 20) rfl ?_
 refine nl ?_
 refine hK194 _ _ _ ?_
 refine wpc_ret ?_
 have hr197 := res_cell (P := Tryz.prog) hI196 0 (cs := [string (⟨#[]⟩ : ByteArray), slice none 0 0, Value.nilFunc]) (g := g32) (o := 0) ag68 rfl rfl rfl
 have hI198 := Hp.emp hI196
 have hI200 := Hp.sub hI198 (sk (sd (sd (sd (sd (sd se))))))
 cases H
 exact ⟨.inr rfl, rfl, _, ⟨_, _, _, rfl, rfl, hr197, ⟨_, _, rfl, rfl, rfl⟩⟩, none, 0, _, (gT (gT (gT (gT hG39 hG56) hG77) hG105) hG185), hI200, (show ([] : List api_Break).length ≤ 0 from Nat.le_refl 0), (Dat.nil _ _ _), Own.nil, rfl⟩
 replace H := iN h192 H
 refine wpc_false (bval_no h192) ?_
 refine wpc_skip ?_
 refine hK180 _ _ _ ?_
 refine sr fun K201 hK202 => ?_
 refine q_fn (vs := []) (us := [pointer (some ⟨g20, 0, none⟩), pointer (some ⟨g28, 0, none⟩)]) rfl rfl ?_
 refine q_as (v := func (.func 57) [].toArray [pointer (some ⟨g20, 0, none⟩), pointer (some ⟨g28, 0, none⟩)].toArray) rfl ?_
 refine nl ?_
 refine hK202 _ _ _ ?_
 refine sr fun K203 hK204 => ?_
 refine q_mv (v := string a15) rfl ?_
 refine q_mv (v := slice A43 y42.length c44) rfl ?_
 refine q_mv (v := string a15) rfl ?_
 refine q_lens so9 rfl ?_
 refine q_build (vs := [(0, int .i64 (a15.size : Int))]) (cs := [int .i64 (a15.size : Int), bool false]) ze51 pl51 rfl rfl ?_
 refine q_bs hI187 (vs := [(0, agg [int .i64 (a15.size : Int), bool false].toArray)]) (cs := [int .i64 (a15.size : Int), bool false]) el45 ze51 rfl (by decide) rfl rfl (fun g206 wd207 hI208 => ?_)
 obtain ⟨h218, H⟩ := iS H
 refine q_app (xs := y42) (ys := [(⟨(a15.size : Int), false⟩ : api_Break)]) k_api_Break hI208 5 el45 ze51 rfl rfl rfl rfl ho47 hl45 (Dat.mono (gT (gT (gT hG56 hG77) hG105) hG185) hD46) (src_bx hI208 0 so45 rfl rfl) ⟨[int .i64 (a15.size : Int), bool false], _, rfl, (mk_api_Break (x := (⟨(a15.size : Int), false⟩ : api_Break))), rfl⟩ rfl (by simp only [List.length_cons, List.length_nil]; omega) (by simp only [List.length_cons, List.length_nil]; omega) (fun A209 c210 G211 wd212 hG213 ho214 hl215 hD216 hI217 => ?_)
 refine q_mv (v := func (.func 57) [].toArray [pointer (some ⟨g20, 0, none⟩), pointer (some ⟨g28, 0, none⟩)].toArray) rfl ?_
 refine q_build (vs := [(0, string a15), (1, slice A209 (y42 ++ [(⟨(a15.size : Int), false⟩ : api_Break)]).length c210), (2, func (.func 57) [].toArray [pointer (some ⟨g20, 0, none⟩), pointer (some ⟨g28, 0, none⟩)].toArray)]) (cs := [string a15, slice A209 (y42 ++ [(⟨(a15.size : Int), false⟩ : api_Break)]).length c210, func (.func 57) [].toArray [pointer (some ⟨g20, 0, none⟩), pointer (some ⟨g28, 0, none⟩)].toArray]) ze68 pl68 rfl rfl ?_
 refine q_stA hI217 1 (v := agg [string a15, slice A209 (y42 ++ [(⟨(a15.size : Int), false⟩ : api_Break)]).length c210, func (.func 57) [].toArray [pointer (some ⟨g20, 0, none⟩), pointer (some ⟨g28, 0, none⟩)].toArray].toArray) (cs := [string a15, slice A209 (y42 ++ [(⟨(a15.size : Int), false⟩ : api_Break)]).length c210, func (.func 57) [].toArray [pointer (some ⟨g20, 0, none⟩), pointer (some ⟨g28, 0, none⟩)].toArray]) (vs' := [string a15, slice A209 (y42 ++ [(⟨(a15.size : Int), false⟩ : api_Break)]).length c210, func (.func 57) [].toArray [pointer (some ⟨g20, 0, none⟩), pointer (some ⟨g28, 0, none⟩)].toArray]) ag68 rfl rfl rfl rfl rfl rfl (Nat.le_of_ble_eq_true rfl) rfl (fun wd219 hI220 => ?_)
 refine q_as (v := int .i64 0) rfl ?_
 refine nl ?_
 refine hK204 _ _ _ ?_
 refine wpc_ret ?_
 have hr221 := res_cell (P := Tryz.prog) hI220 1 (cs := [string a15, slice A209 (y42 ++ [(⟨(a15.size : Int), false⟩ : api_Break)]).length c210, func (.func 57) [].toArray [pointer (some ⟨g20, 0, none⟩), pointer (some ⟨g28, 0, none⟩)].toArray]) (g := g32) (o := 0) ag68 rfl rfl rfl
 have hI222 := Hp.front hI220 2 rfl
 have hI223 := Hp.front hI222 4 rfl
 have hI224 := Hp.front hI223 5 rfl
 have hI225 := Hp.sub hI224 (sk (sk (sk (sd (sd (sd se))))))
 cases H
 exact ⟨.inr rfl, rfl, _, ⟨_, _, _, rfl, rfl, hr221, ⟨_, _, rfl, rfl, rfl⟩⟩, A209, c210, g20, A2, c3, A6, c7, g28, _, (gT (gT (gT (gT (gT hG39 hG56) hG77) hG105) hG185) hG213), hI225, hl215, hD216, ho214, hl4, (Dat.mono (gT (gT (gT (gT (gT hG39 hG56) hG77) hG105) hG185) hG213) hD5), hl8, (Dat.mono (gT (gT (gT (gT (gT hG39 hG56) hG77) hG105) hG185) hG213) hD9), rfl⟩
set_option maxHeartbeats 1000000 in
theorem slices_Backward_api_Break_spec {a1 : List api_Break} {A2 : Option Addr} {c3 : Nat} {r1016 : List api_Break} {G : Gh} {L : List Itm} {w : World} (hI : Hp G (L) w) (hl4 : a1.length ≤ c3) (hD5 : Dat k_api_Break G A2 a1) (H : slices_Backward_api_Break a1 = some r1016) :
    Calls Tryz.prog 60 [slice A2 a1.length c3].toArray w fun e w' => ∃ (g1015 : Nat) (A1017 : Option Addr) (c1018 : Nat) (G' : Gh), G ≤ G' ∧ Hp G' (bx g1015 [slice A1017 r1016.length c1018] 45 :: L) w' ∧ r1016.length ≤ c1018 ∧ Dat k_api_Break G' A1017 r1016 ∧ e = .returned (func (.func 85) [].toArray [pointer (some ⟨g1015, 0, none⟩)].toArray) := by
 refine calls_intro (N := 4) Tryz.func60 rfl rfl (Nat.le_of_ble_eq_true rfl) ?_
 unfold slices_Backward_api_Break at H
 refine sr fun K6 hK7 => ?_
 refine q_box hI (v := slice A2 a1.length c3) (vs := [slice A2 a1.length c3]) rfl rfl (fun g9 wd10 hI11 => ?_)
 refine q_as (v := Value.nilFunc) rfl ?_
 refine nl ?_
 refine hK7 _ _ _ ?_
 refine sr fun K12 hK13 => ?_
 refine q_fn (vs := []) (us := [pointer (some ⟨g9, 0, none⟩)]) rfl rfl ?_
 refine q_as (v := func (.func 85) [].toArray [pointer (some ⟨g9, 0, none⟩)].toArray) rfl ?_
 refine nl ?_
 refine hK13 _ _ _ ?_
 refine wpc_ret ?_
 cases H
 exact ⟨.inr rfl, rfl, _, ⟨_, _, rfl, rfl, rfl⟩, g9, A2, c3, _, gR, hI11, hl4, hD5, rfl⟩
set_option maxHeartbeats 1000000 in
theorem strings_Trim_spec {a0 : ByteArray} {a1 : ByteArray} {r0 : ByteArray} {G : Gh} {L : List Itm} {w : World} (hI : Hp G L w) (H : strings_Trim a0 a1 = some r0) :
    Calls Tryz.prog 71 [string a0, string a1].toArray w fun e w' => ∃ (G' : Gh), G ≤ G' ∧ Hp G' L w' ∧ e = .returned (string r0) := by
 unfold strings_Trim at H
 obtain ⟨hs, H⟩ := iS H
 split at H
 rename_i b hb
 obtain ⟨hc, H⟩ := iS H
 cases H
 rw [one_byte hb]
 exact of_drew hI (Any.strings_Trim_one Tryz.l160 a0 b hc w hs)
 cases H
set_option maxHeartbeats 1000000 in
theorem strings_ReplaceAll_spec {a0 : ByteArray} {a1 : ByteArray} {a2 : ByteArray} {r0 : ByteArray} {G : Gh} {L : List Itm} {w : World} (hI : Hp G L w) (hgl : Gl G) (H : strings_ReplaceAll a0 a1 a2 = some r0) :
    Calls Tryz.prog 72 [string a0, string a1, string a2].toArray w fun e w' => ∃ (G' : Gh), G ≤ G' ∧ Hp G' L w' ∧ e = .returned (string r0) := by
 unfold strings_ReplaceAll at H
 obtain ⟨⟨hs, h1, h2⟩, H⟩ := iS H
 cases H
 obtain ⟨m, hm⟩ := (hgl.get hI).maxlen
 exact of_below hI (Any.strings_ReplaceAll { Tryz.lM155 with } Tryz_extra a0 a1 a2 m w hs hm h1 (by rw [h2]; omega))
set_option maxHeartbeats 1000000 in
theorem inline_seen_spec {a1 : ByteArray} {a2 : Int} {a3 : Int} {a4 : Bool} {r1034 : ByteArray} {G : Gh} {L : List Itm} {w : World} (hI : Hp G (L) w) (hgl : Gl G) (H : inline_seen a1 a2 a3 a4 = some r1034) :
    Calls Tryz.prog 38 [string a1, int .i64 a2, int .i64 a3, bool a4].toArray w fun e w' => ∃ (G' : Gh), G ≤ G' ∧ Hp G' (L) w' ∧ e = .returned (string r1034) := by
 refine calls_intro (N := 20) Tryz.func38 rfl rfl (Nat.le_of_ble_eq_true rfl) ?_
 unfold inline_seen at H
 refine sr fun K5 hK6 => ?_
 refine q_as (v := string (⟨#[]⟩ : ByteArray)) rfl ?_
 refine nl ?_
 refine hK6 _ _ _ ?_
 refine sr fun K7 hK8 => ?_
 refine q_mv (v := string a1) rfl ?_
 refine q_mv (v := int .i64 a2) rfl ?_
 refine q_mv (v := int .i64 a3) rfl ?_
 obtain ⟨⟨h9, h10, h11⟩, H⟩ := iS H
 refine q_ss (l := a2) (h := a3) so9 rfl (.inr ⟨_, rfl, rfl⟩) (.inr ⟨_, rfl, rfl⟩) h9 h10 h11 ?_
 obtain ⟨y17, hy12, H⟩ := bS H
 refine q_cv (vs := [string (sub a1 a2 a3), string (⟨#[126]⟩ : ByteArray), string (⟨#[]⟩ : ByteArray)]) bo72 rfl rfl (strings_ReplaceAll_spec hI (hgl.mono gR) hy12) ?_
 rintro _ wd15 ⟨G13, hG14, hI16, rfl⟩
 refine ⟨_, rfl, ?_⟩
 obtain ⟨y23, hy18, H⟩ := bS H
 refine q_cv (vs := [string y17, string (⟨#[32]⟩ : ByteArray)]) bo71 rfl rfl (strings_Trim_spec hI16 hy18) ?_
 rintro _ wd21 ⟨G19, hG20, hI22, rfl⟩
 refine ⟨_, rfl, ?_⟩
 refine q_as (v := string y23) rfl ?_
 refine nl ?_
 refine hK8 _ _ _ ?_
 refine sQ fun K24 hK25 => ?_
 refine sr fun K26 hK27 => ?_
 refine q_mv (v := bool a4) rfl ?_
 refine nl ?_
 refine hK27 _ _ _ ?_
 by_cases h28 : a4 = true
 replace H := iY h28 H
 refine wpc_true (bval_yes h28) ?_
 refine wpc_region ?_
 refine q_mv (v := string y23) rfl ?_
 obtain ⟨h29, H⟩ := iS H
 refine q_str_add rfl rfl h29 ?_
 refine q_as (v := string (y23 ++ (⟨#[45]⟩ : ByteArray))) rfl ?_
 refine nl ?_
 refine hK25 _ _ _ ?_
 refine sr fun K30 hK31 => ?_
 refine q_mv (v := string (y23 ++ (⟨#[45]⟩ : ByteArray))) rfl ?_
 refine q_as (v := string (y23 ++ (⟨#[45]⟩ : ByteArray))) rfl ?_
 refine nl ?_
 refine hK31 _ _ _ ?_
 refine wpc_ret ?_
 cases H
 exact ⟨.inr rfl, rfl, _, ⟨_, _, rfl, rfl, rfl⟩, _, (gT hG14 hG20), hI22, rfl⟩
 replace H := iN h28 H
 refine wpc_false (bval_no h28) ?_
 refine wpc_skip ?_
 refine hK25 _ _ _ ?_
 refine sr fun K32 hK33 => ?_
 refine q_mv (v := string y23) rfl ?_
 refine q_as (v := string y23) rfl ?_
 refine nl ?_
 refine hK33 _ _ _ ?_
 refine wpc_ret ?_
 cases H
 exact ⟨.inr rfl, rfl, _, ⟨_, _, rfl, rfl, rfl⟩, _, (gT hG14 hG20), hI22, rfl⟩
set_option maxHeartbeats 1000000 in
theorem inline_setter_next_1_k1_spec {a1 : api_Break} {a4 : Int} {g3 : Nat} {r1015 : Bool} {G : Gh} {L : List Itm} {w : World} (hI : Hp G (bx g3 [int .i64 a4] 3 :: L) w) (H : inline_setter_next_1_k1 a1 a4 = some r1015) :
    Calls Tryz.prog 58 [agg [int .i64 a1.At, bool a1.Hyphen].toArray, pointer (some ⟨g3, 0, none⟩)].toArray w fun e w' => ∃ (G' : Gh), G ≤ G' ∧ Hp G' (bx g3 [int .i64 a4] 3 :: L) w' ∧ e = .returned (bool r1015) := by
 refine calls_intro (N := 8) Tryz.func58 rfl rfl (Nat.le_of_ble_eq_true rfl) ?_
 unfold inline_setter_next_1_k1 at H
 refine sr fun K5 hK6 => ?_
 refine q_box hI (v := agg [int .i64 a1.At, bool a1.Hyphen].toArray) (vs := [int .i64 a1.At, bool a1.Hyphen]) rfl rfl (fun g8 wd9 hI10 => ?_)
 refine q_as (v := bool false) rfl ?_
 refine nl ?_
 refine hK6 _ _ _ ?_
 refine sr fun K11 hK12 => ?_
 refine q_fa (a' := ⟨g8, 0, none⟩) fl51_0 rfl (add_plain _ _ _) ?_
 refine q_ld hI10 0 (v := int .i64 a1.At) ag3 rfl rfl rfl ?_
 refine q_ld hI10 1 (v := int .i64 a4) ag3 rfl rfl rfl ?_
 refine q_gtr rfl rfl ?_
 refine q_as (v := bool (decide (a4 < a1.At))) rfl ?_
 refine nl ?_
 refine hK12 _ _ _ ?_
 refine wpc_ret ?_
 have hI13 := Hp.front hI10 1 rfl
 have hI14 := Hp.sub hI13 (sk (sd se))
 cases H
 exact ⟨.inr rfl, rfl, _, ⟨_, _, rfl, rfl, rfl⟩, _, gR, hI14, rfl⟩
set_option maxHeartbeats 1000000 in
theorem slices_IndexFunc_api_Break_k2_spec {a1 : List api_Break} {a8 : Int} {A2 : Option Addr} {c3 : Nat} {g7 : Nat} {r1069 : Int} {G : Gh} {L : List Itm} {w : World} (hI : Hp G (bx g7 [int .i64 a8] 3 :: L) w) (hl4 : a1.length ≤ c3) (hD5 : Dat k_api_Break G A2 a1) (H : slices_IndexFunc_api_Break_k2 a1 a8 = some r1069) :
    Calls Tryz.prog 59 [slice A2 a1.length c3, func (.func 58) [].toArray [pointer (some ⟨g7, 0, none⟩)].toArray].toArray w fun e w' => ∃ (G' : Gh), G ≤ G' ∧ Hp G' (bx g7 [int .i64 a8] 3 :: L) w' ∧ e = .returned (int .i64 r1069) := by
 refine calls_intro (N := 19) Tryz.func59 rfl rfl (Nat.le_of_ble_eq_true rfl) ?_
 unfold slices_IndexFunc_api_Break_k2 at H
 refine sr fun K9 hK10 => ?_
 refine q_as (v := int .i64 0) rfl ?_
 refine nl ?_
 refine hK10 _ _ _ ?_
 refine sQ fun K11 hK12 => ?_
 refine sr fun K13 hK14 => ?_
 refine q_mv (v := slice A2 a1.length c3) rfl ?_
 refine q_len so45 rfl ?_
 refine q_mv (v := int .i64 0) rfl ?_
 refine nl ?_
 refine hK14 _ _ _ ?_
 refine wpc_block ?_
 obtain ⟨o35, hC, H⟩ := bS H
 refine wpc_mono (Q := fun e r ds w => match (generalizing := false) o35 with | (Sum.inl v26) => e = .ret ∧ ∃ (G27 : Gh), ds = [] ∧ G ≤ G27 ∧ Has [(4, int .i64 v26)] r ∧ Hp G27 (bx g7 [int .i64 a8] 3 :: L) w ∧ True | (Sum.inr _) => e = .exit 0 ∧ ∃ (G31 : Gh), ds = [] ∧ G ≤ G31 ∧ Has [] r ∧ Hp G31 (bx g7 [int .i64 a8] 3 :: L) w ∧ True) ?_ ?_
 clear H
 refine wpc_loop fun I hLp => ?_
 refine slices_IndexFunc_api_Break_k2_l25.partial_correctness a1 a8 (fun v19 o => ∀ (G36 : Gh) (r : Rg) (w : World), G ≤ G36 → Has [(0, slice A2 a1.length c3), (1, func (.func 58) [].toArray [pointer (some ⟨g7, 0, none⟩)].toArray), (7, int .i64 (a1.length : Int)), (8, int .i64 v19)] r → Hp G36 (bx g7 [int .i64 a8] 3 :: L) w → o = o35 → I r [] w) ?_ 0 _ hC _ _ _ gR ⟨rfl, rfl, rfl, rfl, trivial⟩ hI rfl
 intro _ ih v19 o H G36 r wd38 hG37 hHas hI39 ho
 rw [ho] at H; clear ho
 rw [hHas.eq]; clear hHas
 refine hLp _ _ _ ?_
 refine sr fun K40 hK41 => ?_
 refine q_lss rfl rfl ?_
 refine nl ?_
 refine hK41 _ _ _ ?_
 refine sQ fun K42 hK43 => ?_
 by_cases h44 : v19 < (a1.length : Int)
 replace H := iY h44 H
 refine wpc_true (bool_yes h44) ?_
 refine wpc_skip ?_
 refine hK43 _ _ _ ?_
 refine sQ fun K45 hK46 => ?_
 refine wpc_block ?_
 refine sr fun K47 hK48 => ?_
 refine q_mv (v := int .i64 v19) rfl ?_
 refine q_as (v := int .i64 v19) rfl ?_
 refine nl ?_
 refine hK48 _ _ _ ?_
 refine sr fun K49 hK50 => ?_
 refine q_mv (v := func (.func 58) [].toArray [pointer (some ⟨g7, 0, none⟩)].toArray) rfl ?_
 refine q_mv (v := slice A2 a1.length c3) rfl ?_
 refine q_mv (v := int .i64 v19) rfl ?_
 obtain ⟨⟨h51, h51'⟩, H⟩ := iS H
 obtain ⟨ad52, cs53, hA54, hK55, hn56, hc57⟩ := Dat.get (Dat.mono hG37 hD5) z_api_Break (v19) h51 h51'
 obtain ⟨rfl⟩ := open_api_Break hK55
 refine q_ia el45 rfl hA54 rfl h51 h51' ?_
 refine q_lfA hI39 ag51 rfl (cs := [int .i64 ((a1.getD (Int.toNat v19) z_api_Break).At), bool ((a1.getD (Int.toNat v19) z_api_Break).Hyphen)]) rfl (fun j v hv => gR.cel _ _ (hc57 j v hv)) ?_
 obtain ⟨y63, hy58, H⟩ := bS H
 refine q_cv (vs := [agg [int .i64 ((a1.getD (Int.toNat v19) z_api_Break).At), bool ((a1.getD (Int.toNat v19) z_api_Break).Hyphen)].toArray, pointer (some ⟨g7, 0, none⟩)]) bo58 rfl rfl (inline_setter_next_1_k1_spec (a1 := (a1.getD (Int.toNat v19) z_api_Break)) (a4 := a8) hI39 hy58) ?_
 rintro _ wd61 ⟨G59, hG60, hI62, rfl⟩
 refine ⟨_, rfl, ?_⟩
 refine nl ?_
 refine hK50 _ _ _ ?_
 by_cases h64 : y63 = true
 replace H := iY h64 H
 refine wpc_true (bval_yes h64) ?_
 refine sr fun K65 hK66 => ?_
 refine q_mv (v := int .i64 v19) rfl ?_
 refine q_as (v := int .i64 v19) rfl ?_
 refine nl ?_
 refine hK66 _ _ _ ?_
 refine wpc_ret ?_
 cases H
 exact ⟨rfl, _, rfl, (gT hG37 hG60), ⟨rfl, trivial⟩, hI62, trivial⟩
 replace H := iN h64 H
 refine wpc_false (bval_no h64) ?_
 refine wpc_skip ?_
 refine hK46 _ _ _ ?_
 refine wpc_region ?_
 refine q_add rfl rfl ?_
 refine q_mv (v := int .i64 (w64 (v19 + 1))) rfl ?_
 refine nl ?_
 exact ih _ _ H _ _ _ (gT hG37 hG60) ⟨rfl, rfl, rfl, rfl, trivial⟩ hI62 rfl
 replace H := iN h44 H
 refine wpc_false (bool_no h44) ?_
 refine wpc_exit ?_
 cases H
 exact ⟨rfl, _, rfl, hG37, trivial, hI39, trivial⟩
 clear hC
 rcases o35 with v26 | _
 rintro e r ds wd29 ⟨rfl, G27, rfl, hG28, hHas, hI30, _⟩
 rw [hHas.eq]; clear hHas
 cases H
 exact ⟨.inr rfl, rfl, _, ⟨_, _, rfl, rfl, rfl⟩, _, hG28, hI30, rfl⟩
 rintro e r ds wd33 ⟨rfl, G31, rfl, hG32, hHas, hI34, _⟩
 rw [hHas.eq]; clear hHas
 refine hK12 _ _ _ ?_
 refine sr fun K67 hK68 => ?_
 refine q_as (v := int .i64 (-1)) rfl ?_
 refine nl ?_
 refine hK68 _ _ _ ?_
 refine wpc_ret ?_
 cases H
 exact ⟨.inr rfl, rfl, _, ⟨_, _, rfl, rfl, rfl⟩, _, hG32, hI34, rfl⟩
set_option maxHeartbeats 1000000 in
theorem slices_Backward_1_api_Break_k1_spec {σ : Type} {St : σ → Gh → List Itm → Prop} {yl : Nat} {φ : σ → (Int × api_Break) → Option (σ × Bool)} {sy : σ} {a3 : List api_Break} {g2 : Nat} {A4 : Option Addr} {c5 : Nat} {ry : σ} {G : Gh} {T : List Itm} {w : World} (hI : Hp G (bx g2 [slice A4 a3.length c5] 45 :: T) w) (hl6 : a3.length ≤ c5) (hD7 : Dat k_api_Break G A4 a3) (hy : Yl Tryz.prog φ (encP (enc1 (Kd.int .i64)) (encS k_api_Break)) St yl) (hS : St sy G T) (H : slices_Backward_1_api_Break_k1 φ sy a3 = some ry) :
    Calls Tryz.prog 85 [func (.yield yl) #[] #[], pointer (some ⟨g2, 0, none⟩)].toArray w fun e w' => ∃ (T' : List Itm) (G' : Gh), G ≤ G' ∧ Hp G' (bx g2 [slice A4 a3.length c5] 45 :: T') w' ∧ St ry G' T' ∧ e = .returned (tuple [].toArray) := by
 refine calls_intro (N := 19) Tryz.func85 rfl rfl (Nat.le_of_ble_eq_true rfl) ?_
 unfold slices_Backward_1_api_Break_k1 at H
 refine sr fun K8 hK9 => ?_
 refine q_ld hI 0 (v := slice A4 a3.length c5) ag45 rfl rfl rfl ?_
 refine q_len so45 rfl ?_
 refine q_sub rfl rfl ?_
 refine q_as (v := int .i64 (w64 ((a3.length : Int) - 1))) rfl ?_
 refine nl ?_
 refine hK9 _ _ _ ?_
 refine wpc_block ?_
 obtain ⟨o41, hC, H⟩ := bS H
 refine wpc_mono (Q := fun e r ds w => match (generalizing := false) o41 with | (Sum.inl v28) => e = .ret ∧ ∃ (T27 : List Itm) (G33 : Gh), ds = [] ∧ G ≤ G33 ∧ Has [] r ∧ Hp G33 (bx g2 [slice A4 a3.length c5] 45 :: T27) w ∧ St v28 G33 T27 ∧ True | (Sum.inr v31) => e = .exit 0 ∧ ∃ (T30 : List Itm) (G37 : Gh), ds = [] ∧ G ≤ G37 ∧ Has [] r ∧ Hp G37 (bx g2 [slice A4 a3.length c5] 45 :: T30) w ∧ St v31 G37 T30 ∧ True) ?_ ?_
 clear H
 refine wpc_loop fun I hLp => ?_
 refine slices_Backward_1_api_Break_k1_l26.partial_correctness φ a3 (fun v14 v16 o => ∀ (T15 : List Itm) (G42 : Gh) (r : Rg) (w : World), G ≤ G42 → Has [(0, func (.yield yl) #[] #[]), (1, pointer (some ⟨g2, 0, none⟩)), (3, int .i64 v14)] r → Hp G42 (bx g2 [slice A4 a3.length c5] 45 :: T15) w → St v16 G42 T15 → o = o41 → I r [] w) ?_ (w64 ((a3.length : Int) - 1)) sy _ hC T _ _ _ gR ⟨rfl, rfl, rfl, trivial⟩ hI hS rfl
 intro _ ih v14 v16 o H T15 G42 r wd44 hG43 hHas hI45 hS17 ho
 rw [ho] at H; clear ho
 rw [hHas.eq]; clear hHas
 refine hLp _ _ _ ?_
 refine sQ fun K46 hK47 => ?_
 refine sr fun K48 hK49 => ?_
 refine q_mv (v := int .i64 v14) rfl ?_
 refine q_geq rfl rfl ?_
 refine nl ?_
 refine hK49 _ _ _ ?_
 by_cases h50 : 0 ≤ v14
 replace H := iY h50 H
 refine wpc_true (bool_yes h50) ?_
 refine wpc_skip ?_
 refine hK47 _ _ _ ?_
 refine sQ fun K51 hK52 => ?_
 refine wpc_block ?_
 refine sr fun K53 hK54 => ?_
 refine q_mv (v := func (.yield yl) #[] #[]) rfl ?_
 refine q_mv (v := int .i64 v14) rfl ?_
 refine q_ld hI45 0 (v := slice A4 a3.length c5) ag45 rfl rfl rfl ?_
 refine q_mv (v := int .i64 v14) rfl ?_
 obtain ⟨⟨h55, h55'⟩, H⟩ := iS H
 obtain ⟨ad56, cs57, hA58, hK59, hn60, hc61⟩ := Dat.get (Dat.mono hG43 hD7) z_api_Break (v14) h55 h55'
 obtain ⟨rfl⟩ := open_api_Break hK59
 refine q_ia el45 rfl hA58 rfl h55 h55' ?_
 refine q_lfA hI45 ag51 rfl (cs := [int .i64 ((a3.getD (Int.toNat v14) z_api_Break).At), bool ((a3.getD (Int.toNat v14) z_api_Break).Hyphen)]) rfl (fun j v hv => gR.cel _ _ (hc61 j v hv)) ?_
 obtain ⟨⟨s62, b63⟩, hx64, H⟩ := bS H
 refine q_yl hy [bx g2 [slice A4 a3.length c5] 45] hI45 hS17 rfl rfl ⟨_, _, rfl, ⟨_, rfl, rfl⟩, ⟨_, rfl, (mk_api_Break (x := (a3.getD (Int.toNat v14) z_api_Break)))⟩⟩ hx64 (fun wd65 G66 T67 hG68 hS69 hI70 => ?_)
 refine q_not rfl ?_
 refine nl ?_
 refine hK54 _ _ _ ?_
 by_cases h71 : (!b63) = true
 replace H := iY h71 H
 refine wpc_true (bval_yes h71) ?_
 refine wpc_ret ?_
 cases H
 exact ⟨rfl, T67, _, rfl, (gT hG43 hG68), trivial, hI70, hS69, trivial⟩
 replace H := iN h71 H
 refine wpc_false (bval_no h71) ?_
 refine wpc_skip ?_
 refine hK52 _ _ _ ?_
 refine wpc_region ?_
 refine q_mv (v := int .i64 v14) rfl ?_
 refine q_sub rfl rfl ?_
 refine q_as (v := int .i64 (w64 (v14 - 1))) rfl ?_
 refine nl ?_
 exact ih _ _ _ H T67 _ _ _ (gT hG43 hG68) ⟨rfl, rfl, rfl, trivial⟩ hI70 hS69 rfl
 replace H := iN h50 H
 refine wpc_false (bool_no h50) ?_
 refine wpc_exit ?_
 cases H
 exact ⟨rfl, T15, _, rfl, hG43, trivial, hI45, hS17, trivial⟩
 clear hC
 rcases o41 with v28 | v31
 rintro e r ds wd35 ⟨rfl, T27, G33, rfl, hG34, hHas, hI36, hS29, _⟩
 rw [hHas.eq]; clear hHas
 cases H
 exact ⟨.inr rfl, rfl, _, rfl, T27, _, hG34, hI36, hS29, rfl⟩
 rintro e r ds wd39 ⟨rfl, T30, G37, rfl, hG38, hHas, hI40, hS32, _⟩
 rw [hHas.eq]; clear hHas
 cases H
 exact ⟨.inl rfl, rfl, _, rfl, T30, _, hG38, hI40, hS32, rfl⟩
set_option maxHeartbeats 1000000 in
theorem inline_prepare_2_k1_spec {a1 : ByteArray} {a4 : api_Font} {a15 : Int} {g3 : Nat} {A5 : Option Addr} {c6 : Nat} {A9 : Option Addr} {c10 : Nat} {g14 : Nat} {r1029 : Int} {G : Gh} {L : List Itm} {w : World} (hI : Hp G (bx g3 [slice A5 a4.Glyphs.length c6, slice A9 a4.Kerns.length c10] 25 :: bx g14 [int .i64 a15] 3 :: L) w) (hl7 : a4.Glyphs.length ≤ c6) (hD8 : Dat k_api_Glyph G A5 a4.Glyphs) (hl11 : a4.Kerns.length ≤ c10) (hD12 : Dat k_api_Kern G A9 a4.Kerns) (H : inline_prepare_2_k1 a1 a4 a15 = some r1029) :
    Calls Tryz.prog 57 [string a1, pointer (some ⟨g3, 0, none⟩), pointer (some ⟨g14, 0, none⟩)].toArray w fun e w' => ∃ (G' : Gh), G ≤ G' ∧ Hp G' (bx g3 [slice A5 a4.Glyphs.length c6, slice A9 a4.Kerns.length c10] 25 :: bx g14 [int .i64 a15] 3 :: L) w' ∧ e = .returned (int .i64 r1029) := by
 refine calls_intro (N := 15) Tryz.func57 rfl rfl (Nat.le_of_ble_eq_true rfl) ?_
 unfold inline_prepare_2_k1 at H
 refine sr fun K16 hK17 => ?_
 refine q_as (v := int .i64 0) rfl ?_
 refine nl ?_
 refine hK17 _ _ _ ?_
 refine sr fun K18 hK19 => ?_
 refine q_ldA hI 0 (cs := [slice A5 a4.Glyphs.length c6, slice A9 a4.Kerns.length c10]) ag25 rfl rfl rfl rfl ?_
 refine q_mv (v := string a1) rfl ?_
 refine q_ld hI 1 (v := int .i64 a15) ag3 rfl rfl rfl ?_
 obtain ⟨⟨y25, y26⟩, hy20, H⟩ := bS H
 refine q_cv (vs := [agg [slice A5 a4.Glyphs.length c6, slice A9 a4.Kerns.length c10].toArray, string a1, int .i64 a15]) bo21 rfl rfl (font_Width_spec (a1 := a4) (a10 := a1) (a11 := a15) hI hl7 hD8 hl11 hD12 hy20) ?_
 rintro _ wd23 ⟨G21, hG22, hI24, rfl⟩
 refine ⟨_, rfl, ?_⟩
 refine q_mv (v := tuple [int .i64 y25, int .i64 y26].toArray) rfl ?_
 refine q_ex (v := int .i64 y25) rfl rfl ?_
 refine q_ex (v := int .i64 y26) rfl rfl ?_
 refine q_as (v := int .i64 y25) rfl ?_
 refine q_as (v := int .i64 y26) rfl ?_
 refine nl ?_
 refine hK19 _ _ _ ?_
 refine sr fun K27 hK28 => ?_
 refine q_mv (v := int .i64 y25) rfl ?_
 refine q_as (v := int .i64 y25) rfl ?_
 refine nl ?_
 refine hK28 _ _ _ ?_
 refine wpc_ret ?_
 cases H
 exact ⟨.inr rfl, rfl, _, ⟨_, _, rfl, rfl, rfl⟩, _, hG22, hI24, rfl⟩
set_option maxHeartbeats 1000000 in
theorem inline_setter_line_k1_spec {a1 : ByteArray} {a2 : List api_Break} {a9 : api_Font} {a20 : Int} {a21 : Int} {a22 : api_Break} {A3 : Option Addr} {c4 : Nat} {g8 : Nat} {A10 : Option Addr} {c11 : Nat} {A14 : Option Addr} {c15 : Nat} {g19 : Nat} {r1460 : api_Line} {G : Gh} {L : List Itm} {w : World} (hI : Hp G (bx g8 [slice A10 a9.Glyphs.length c11, slice A14 a9.Kerns.length c15] 25 :: bx g19 [int .i64 a20] 3 :: L) w) (hl5 : a2.length ≤ c4) (hD6 : Dat k_api_Break G A3 a2) (hl12 : a9.Glyphs.length ≤ c11) (hD13 : Dat k_api_Glyph G A10 a9.Glyphs) (hl16 : a9.Kerns.length ≤ c15) (hD17 : Dat k_api_Kern G A14 a9.Kerns) (hgl : Gl G) (H : inline_setter_line_k1 a1 a2 a9 a20 a21 a22 = some r1460) :
    Calls Tryz.prog 61 [agg [string a1, slice A3 a2.length c4, func (.func 57) [].toArray [pointer (some ⟨g8, 0, none⟩), pointer (some ⟨g19, 0, none⟩)].toArray].toArray, int .i64 a21, agg [int .i64 a22.At, bool a22.Hyphen].toArray].toArray w fun e w' => ∃ (G' : Gh), G ≤ G' ∧ Hp G' (bx g8 [slice A10 a9.Glyphs.length c11, slice A14 a9.Kerns.length c15] 25 :: bx g19 [int .i64 a20] 3 :: L) w' ∧ e = .returned (agg [int .i64 r1460.From, int .i64 r1460.Until, int .i64 r1460.Width, bool r1460.Hyphen].toArray) := by
 refine calls_intro (N := 24) Tryz.func61 rfl rfl (Nat.le_of_ble_eq_true rfl) ?_
 unfold inline_setter_line_k1 at H
 refine sr fun K23 hK24 => ?_
 refine q_box hI (v := agg [string a1, slice A3 a2.length c4, func (.func 57) [].toArray [pointer (some ⟨g8, 0, none⟩), pointer (some ⟨g19, 0, none⟩)].toArray].toArray) (vs := [string a1, slice A3 a2.length c4, func (.func 57) [].toArray [pointer (some ⟨g8, 0, none⟩), pointer (some ⟨g19, 0, none⟩)].toArray]) rfl rfl (fun g26 wd27 hI28 => ?_)
 refine q_box hI28 (v := agg [int .i64 a22.At, bool a22.Hyphen].toArray) (vs := [int .i64 a22.At, bool a22.Hyphen]) rfl rfl (fun g30 wd31 hI32 => ?_)
 refine q_alloc hI32 ze31 (fun g34 wd35 hI36 => ?_)
 refine nl ?_
 refine hK24 _ _ _ ?_
 refine sQ fun K37 hK38 => ?_
 obtain ⟨y50, hy235, H⟩ := bS H
 obtain ⟨y250, hy435, H⟩ := bS H
 refine wpc_drawL [0, 0, 2, 0, 8, 0, 32, 0, 0, 256, 0, 1024, 4064, 8184, 0, 16384, 65535, 131071] (fun D r w => (D 13 = false ∧ ∃ (G' : Gh), G ≤ G' ∧ Regs [(1, int .i64 a21), (3, pointer (some ⟨g26, 0, none⟩)), (5, pointer (some ⟨g30, 0, none⟩)), (6, pointer (some ⟨g34, 0, none⟩))] [] [(0, 7, int .i64 a21), (1, 8, pointer (some ⟨g30, 0, none⟩)), (2, 9, int .i64 a22.At), (3, 10, pointer (some ⟨g26, 2, none⟩)), (4, 11, func (.func 57) [].toArray [pointer (some ⟨g8, 0, none⟩), pointer (some ⟨g19, 0, none⟩)].toArray), (5, 12, pointer (some ⟨g26, 0, none⟩)), (6, 13, string a1), (7, 14, int .i64 a21), (8, 15, pointer (some ⟨g30, 0, none⟩)), (9, 16, int .i64 a22.At), (10, 17, pointer (some ⟨g30, 1, none⟩)), (11, 18, bool a22.Hyphen), (12, 19, string y50), (14, 21, pointer (some ⟨g30, 1, none⟩)), (15, 22, bool a22.Hyphen)] D r ∧ Hp G' (bx g34 [int .i64 0, int .i64 0, int .i64 0, bool false] 31 :: bx g30 [int .i64 a22.At, bool a22.Hyphen] 51 :: bx g26 [string a1, slice A3 a2.length c4, func (.func 57) [].toArray [pointer (some ⟨g8, 0, none⟩), pointer (some ⟨g19, 0, none⟩)].toArray] 68 :: bx g8 [slice A10 a9.Glyphs.length c11, slice A14 a9.Kerns.length c15] 25 :: bx g19 [int .i64 a20] 3 :: L) w) ∨ (D 13 = true ∧ D 17 = false ∧ ∃ (G' : Gh), G ≤ G' ∧ Regs [(1, int .i64 a21), (3, pointer (some ⟨g26, 0, none⟩)), (5, pointer (some ⟨g30, 0, none⟩)), (6, pointer (some ⟨g34, 0, none⟩))] [] [(0, 7, int .i64 a21), (1, 8, pointer (some ⟨g30, 0, none⟩)), (2, 9, int .i64 a22.At), (3, 10, pointer (some ⟨g26, 2, none⟩)), (4, 11, func (.func 57) [].toArray [pointer (some ⟨g8, 0, none⟩), pointer (some ⟨g19, 0, none⟩)].toArray), (5, 12, pointer (some ⟨g26, 0, none⟩)), (6, 13, string a1), (7, 14, int .i64 a21), (8, 15, pointer (some ⟨g30, 0, none⟩)), (9, 16, int .i64 a22.At), (10, 17, pointer (some ⟨g30, 1, none⟩)), (11, 18, bool a22.Hyphen), (12, 19, string y50), (14, 21, pointer (some ⟨g30, 1, none⟩)), (15, 22, bool a22.Hyphen), (13, 20, int .i64 y250), (16, 23, agg [int .i64 a21, int .i64 a22.At, int .i64 y250, bool a22.Hyphen].toArray)] D r ∧ Hp G' (bx g8 [slice A10 a9.Glyphs.length c11, slice A14 a9.Kerns.length c15] 25 :: bx g19 [int .i64 a20] 3 :: bx g34 [int .i64 0, int .i64 0, int .i64 0, bool false] 31 :: bx g30 [int .i64 a22.At, bool a22.Hyphen] 51 :: bx g26 [string a1, slice A3 a2.length c4, func (.func 57) [].toArray [pointer (some ⟨g8, 0, none⟩), pointer (some ⟨g19, 0, none⟩)].toArray] 68 :: L) w) ∨ (D 17 = true ∧ ∃ (G' : Gh), G ≤ G' ∧ Regs [(1, int .i64 a21), (3, pointer (some ⟨g26, 0, none⟩)), (5, pointer (some ⟨g30, 0, none⟩)), (6, pointer (some ⟨g34, 0, none⟩))] [] [(0, 7, int .i64 a21), (1, 8, pointer (some ⟨g30, 0, none⟩)), (2, 9, int .i64 a22.At), (3, 10, pointer (some ⟨g26, 2, none⟩)), (4, 11, func (.func 57) [].toArray [pointer (some ⟨g8, 0, none⟩), pointer (some ⟨g19, 0, none⟩)].toArray), (5, 12, pointer (some ⟨g26, 0, none⟩)), (6, 13, string a1), (7, 14, int .i64 a21), (8, 15, pointer (some ⟨g30, 0, none⟩)), (9, 16, int .i64 a22.At), (10, 17, pointer (some ⟨g30, 1, none⟩)), (11, 18, bool a22.Hyphen), (12, 19, string y50), (14, 21, pointer (some ⟨g30, 1, none⟩)), (15, 22, bool a22.Hyphen), (13, 20, int .i64 y250), (16, 23, agg [int .i64 a21, int .i64 a22.At, int .i64 y250, bool a22.Hyphen].toArray)] D r ∧ Hp G' (bx g8 [slice A10 a9.Glyphs.length c11, slice A14 a9.Kerns.length c15] 25 :: bx g19 [int .i64 a20] 3 :: bx g34 [int .i64 a21, int .i64 a22.At, int .i64 y250, bool a22.Hyphen] 31 :: bx g30 [int .i64 a22.At, bool a22.Hyphen] 51 :: bx g26 [string a1, slice A3 a2.length c4, func (.func 57) [].toArray [pointer (some ⟨g8, 0, none⟩), pointer (some ⟨g19, 0, none⟩)].toArray] 68 :: L) w)) mixo rfl rfl ?_ ?_ ?_
 exact (.inl ⟨rfl, _, Gh.le_refl _, Regs.start ⟨rfl, rfl, rfl, rfl, trivial⟩ trivial, hI36.drew⟩)
 refine ⟨?_, ?_, ?_, ?_, ?_, ?_, ?_, ?_, ?_, ?_, ?_, ?_, ?_, ?_, ?_, ?_, ?_, ?_, trivial⟩
 rintro D r wd457 (⟨hd2, G453, hG454, hReg456, hI455⟩ | ⟨hd1, hd2, G453, hG454, hReg456, hI455⟩ | ⟨hd1, G453, hG454, hReg456, hI455⟩) hDi hpre hpost
 obtain ⟨r0, rfl⟩ := Has.ex (cC (hReg456.ins.get 0 rfl) cN)
 refine q_mv (v := int .i64 a21) rfl ?_
 exact nl ⟨rfl, (.inl ⟨hd2, _, hG454, (Regs.step hReg456 hDi rfl rfl rfl rfl), hI455⟩)⟩
 obtain ⟨r0, rfl⟩ := Has.ex (cC (hReg456.ins.get 0 rfl) cN)
 refine q_mv (v := int .i64 a21) rfl ?_
 exact nl ⟨rfl, (.inr (.inl ⟨hd1, hd2, _, hG454, (Regs.step hReg456 hDi rfl rfl rfl rfl), hI455⟩))⟩
 cases (hpost 17 rfl).symm.trans hd1
 rintro D r wd457 (⟨hd2, G453, hG454, hReg456, hI455⟩ | ⟨hd1, hd2, G453, hG454, hReg456, hI455⟩ | ⟨hd1, G453, hG454, hReg456, hI455⟩) hDi hpre hpost
 obtain ⟨r0, rfl⟩ := Has.ex (cC (hReg456.ins.get 2 rfl) cN)
 refine q_fa (a' := ⟨g30, 0, none⟩) fl51_0 rfl (add_plain _ _ _) ?_
 exact nl ⟨rfl, (.inl ⟨hd2, _, hG454, (Regs.step hReg456 hDi rfl rfl rfl rfl), hI455⟩)⟩
 obtain ⟨r0, rfl⟩ := Has.ex (cC (hReg456.ins.get 2 rfl) cN)
 refine q_fa (a' := ⟨g30, 0, none⟩) fl51_0 rfl (add_plain _ _ _) ?_
 exact nl ⟨rfl, (.inr (.inl ⟨hd1, hd2, _, hG454, (Regs.step hReg456 hDi rfl rfl rfl rfl), hI455⟩))⟩
 cases (hpost 17 rfl).symm.trans hd1
 rintro D r wd457 (⟨hd2, G453, hG454, hReg456, hI455⟩ | ⟨hd1, hd2, G453, hG454, hReg456, hI455⟩ | ⟨hd1, G453, hG454, hReg456, hI455⟩) hDi hpre hpost
 obtain ⟨r0, rfl⟩ := Has.ex (cC (hReg456.get 1 rfl (hpre 1 rfl)) cN)
 refine q_ld hI455 1 (v := int .i64 a22.At) ag3 rfl rfl rfl ?_
 exact nl ⟨rfl, (.inl ⟨hd2, _, hG454, (Regs.step hReg456 hDi rfl rfl rfl rfl), hI455⟩)⟩
 obtain ⟨r0, rfl⟩ := Has.ex (cC (hReg456.get 1 rfl (hpre 1 rfl)) cN)
 refine q_ld hI455 3 (v := int .i64 a22.At) ag3 rfl rfl rfl ?_
 exact nl ⟨rfl, (.inr (.inl ⟨hd1, hd2, _, hG454, (Regs.step hReg456 hDi rfl rfl rfl rfl), hI455⟩))⟩
 cases (hpost 17 rfl).symm.trans hd1
 rintro D r wd457 (⟨hd2, G453, hG454, hReg456, hI455⟩ | ⟨hd1, hd2, G453, hG454, hReg456, hI455⟩ | ⟨hd1, G453, hG454, hReg456, hI455⟩) hDi hpre hpost
 obtain ⟨r0, rfl⟩ := Has.ex (cC (hReg456.ins.get 1 rfl) cN)
 refine q_fa (a' := ⟨g26, 2, none⟩) fl68_2 rfl (add_plain _ _ _) ?_
 exact nl ⟨rfl, (.inl ⟨hd2, _, hG454, (Regs.step hReg456 hDi rfl rfl rfl rfl), hI455⟩)⟩
 cases (hpost 13 rfl).symm.trans hd1
 cases (hpost 17 rfl).symm.trans hd1
 rintro D r wd457 (⟨hd2, G453, hG454, hReg456, hI455⟩ | ⟨hd1, hd2, G453, hG454, hReg456, hI455⟩ | ⟨hd1, G453, hG454, hReg456, hI455⟩) hDi hpre hpost
 obtain ⟨r0, rfl⟩ := Has.ex (cC (hReg456.get 3 rfl (hpre 3 rfl)) cN)
 refine q_ld hI455 2 (v := func (.func 57) [].toArray [pointer (some ⟨g8, 0, none⟩), pointer (some ⟨g19, 0, none⟩)].toArray) ag66 rfl rfl rfl ?_
 exact nl ⟨rfl, (.inl ⟨hd2, _, hG454, (Regs.step hReg456 hDi rfl rfl rfl rfl), hI455⟩)⟩
 cases (hpost 13 rfl).symm.trans hd1
 cases (hpost 17 rfl).symm.trans hd1
 rintro D r wd457 (⟨hd2, G453, hG454, hReg456, hI455⟩ | ⟨hd1, hd2, G453, hG454, hReg456, hI455⟩ | ⟨hd1, G453, hG454, hReg456, hI455⟩) hDi hpre hpost
 obtain ⟨r0, rfl⟩ := Has.ex (cC (hReg456.ins.get 1 rfl) cN)
 refine q_fa (a' := ⟨g26, 0, none⟩) fl68_0 rfl (add_plain _ _ _) ?_
 exact nl ⟨rfl, (.inl ⟨hd2, _, hG454, (Regs.step hReg456 hDi rfl rfl rfl rfl), hI455⟩)⟩
 cases (hpost 13 rfl).symm.trans hd1
 cases (hpost 17 rfl).symm.trans hd1
 rintro D r wd457 (⟨hd2, G453, hG454, hReg456, hI455⟩ | ⟨hd1, hd2, G453, hG454, hReg456, hI455⟩ | ⟨hd1, G453, hG454, hReg456, hI455⟩) hDi hpre hpost
 obtain ⟨r0, rfl⟩ := Has.ex (cC (hReg456.get 5 rfl (hpre 5 rfl)) cN)
 refine q_ld hI455 2 (v := string a1) ag9 rfl rfl rfl ?_
 exact nl ⟨rfl, (.inl ⟨hd2, _, hG454, (Regs.step hReg456 hDi rfl rfl rfl rfl), hI455⟩)⟩
 cases (hpost 13 rfl).symm.trans hd1
 cases (hpost 17 rfl).symm.trans hd1
 rintro D r wd457 (⟨hd2, G453, hG454, hReg456, hI455⟩ | ⟨hd1, hd2, G453, hG454, hReg456, hI455⟩ | ⟨hd1, G453, hG454, hReg456, hI455⟩) hDi hpre hpost
 obtain ⟨r0, rfl⟩ := Has.ex (cC (hReg456.ins.get 0 rfl) cN)
 refine q_mv (v := int .i64 a21) rfl ?_
 exact nl ⟨rfl, (.inl ⟨hd2, _, hG454, (Regs.step hReg456 hDi rfl rfl rfl rfl), hI455⟩)⟩
 cases (hpost 13 rfl).symm.trans hd1
 cases (hpost 17 rfl).symm.trans hd1
 rintro D r wd457 (⟨hd2, G453, hG454, hReg456, hI455⟩ | ⟨hd1, hd2, G453, hG454, hReg456, hI455⟩ | ⟨hd1, G453, hG454, hReg456, hI455⟩) hDi hpre hpost
 obtain ⟨r0, rfl⟩ := Has.ex (cC (hReg456.ins.get 2 rfl) cN)
 refine q_fa (a' := ⟨g30, 0, none⟩) fl51_0 rfl (add_plain _ _ _) ?_
 exact nl ⟨rfl, (.inl ⟨hd2, _, hG454, (Regs.step hReg456 hDi rfl rfl rfl rfl), hI455⟩)⟩
 cases (hpost 13 rfl).symm.trans hd1
 cases (hpost 17 rfl).symm.trans hd1
 rintro D r wd457 (⟨hd2, G453, hG454, hReg456, hI455⟩ | ⟨hd1, hd2, G453, hG454, hReg456, hI455⟩ | ⟨hd1, G453, hG454, hReg456, hI455⟩) hDi hpre hpost
 obtain ⟨r0, rfl⟩ := Has.ex (cC (hReg456.get 8 rfl (hpre 8 rfl)) cN)
 refine q_ld hI455 1 (v := int .i64 a22.At) ag3 rfl rfl rfl ?_
 exact nl ⟨rfl, (.inl ⟨hd2, _, hG454, (Regs.step hReg456 hDi rfl rfl rfl rfl), hI455⟩)⟩
 cases (hpost 13 rfl).symm.trans hd1
 cases (hpost 17 rfl).symm.trans hd1
 rintro D r wd457 (⟨hd2, G453, hG454, hReg456, hI455⟩ | ⟨hd1, hd2, G453, hG454, hReg456, hI455⟩ | ⟨hd1, G453, hG454, hReg456, hI455⟩) hDi hpre hpost
 obtain ⟨r0, rfl⟩ := Has.ex (cC (hReg456.ins.get 2 rfl) cN)
 refine q_fa (a' := ⟨g30, 1, none⟩) fl51_1 rfl (add_plain _ _ _) ?_
 exact nl ⟨rfl, (.inl ⟨hd2, _, hG454, (Regs.step hReg456 hDi rfl rfl rfl rfl), hI455⟩)⟩
 cases (hpost 13 rfl).symm.trans hd1
 cases (hpost 17 rfl).symm.trans hd1
 rintro D r wd457 (⟨hd2, G453, hG454, hReg456, hI455⟩ | ⟨hd1, hd2, G453, hG454, hReg456, hI455⟩ | ⟨hd1, G453, hG454, hReg456, hI455⟩) hDi hpre hpost
 obtain ⟨r0, rfl⟩ := Has.ex (cC (hReg456.get 10 rfl (hpre 10 rfl)) cN)
 refine q_ld hI455 1 (v := bool a22.Hyphen) ag4 rfl rfl rfl ?_
 exact nl ⟨rfl, (.inl ⟨hd2, _, hG454, (Regs.step hReg456 hDi rfl rfl rfl rfl), hI455⟩)⟩
 cases (hpost 13 rfl).symm.trans hd1
 cases (hpost 17 rfl).symm.trans hd1
 rintro D r wd457 (⟨hd2, G453, hG454, hReg456, hI455⟩ | ⟨hd1, hd2, G453, hG454, hReg456, hI455⟩ | ⟨hd1, G453, hG454, hReg456, hI455⟩) hDi hpre hpost
 obtain ⟨r0, rfl⟩ := Has.ex (cC (hReg456.get 6 rfl (hpre 6 rfl)) (cC (hReg456.get 7 rfl (hpre 7 rfl)) (cC (hReg456.get 9 rfl (hpre 9 rfl)) (cC (hReg456.get 11 rfl (hpre 11 rfl)) cN))))
 refine q_cv (vs := [string a1, int .i64 a21, int .i64 a22.At, bool a22.Hyphen]) bo38 rfl rfl (inline_seen_spec (a1 := a1) (a2 := a21) (a3 := a22.At) (a4 := a22.Hyphen) hI455 (hgl.mono hG454) hy235) ?_
 rintro _ wd48 ⟨G46, hG47, hI49, rfl⟩
 refine ⟨_, rfl, ?_⟩
 exact nl ⟨rfl, (.inl ⟨hd2, _, (gT hG454 hG47), (Regs.step hReg456 hDi rfl rfl rfl rfl), hI49⟩)⟩
 cases (hpost 13 rfl).symm.trans hd1
 cases (hpost 17 rfl).symm.trans hd1
 rintro D r wd457 (⟨hd2, G453, hG454, hReg456, hI455⟩ | ⟨hd1, hd2, G453, hG454, hReg456, hI455⟩ | ⟨hd1, G453, hG454, hReg456, hI455⟩) hDi hpre hpost
 obtain ⟨r0, rfl⟩ := Has.ex (cC (hReg456.get 4 rfl (hpre 4 rfl)) (cC (hReg456.get 12 rfl (hpre 12 rfl)) cN))
 have hI446 := Hp.front hI455 2 rfl
 have hI447 := Hp.front hI446 2 rfl
 have hI448 := Hp.front hI447 2 rfl
 have hI449 := Hp.front hI448 4 rfl
 have hI450 := Hp.front hI449 4 rfl
 refine q_cv (vs := [string y50, pointer (some ⟨g8, 0, none⟩), pointer (some ⟨g19, 0, none⟩)]) bo57 rfl rfl (inline_prepare_2_k1_spec (a1 := y50) (a4 := a9) (a15 := a20) hI450 hl12 (Dat.mono hG454 hD13) hl16 (Dat.mono hG454 hD17) hy435) ?_
 rintro _ wd248 ⟨G246, hG247, hI249, rfl⟩
 refine ⟨_, rfl, ?_⟩
 exact nl ⟨rfl, (.inr (.inl ⟨rfl, (hpost 17 rfl), _, (gT hG454 hG247), (Regs.step (Regs.more (new := [(13, 20, int .i64 y250), (16, 23, agg [int .i64 a21, int .i64 a22.At, int .i64 y250, bool a22.Hyphen].toArray)]) hReg456 (List.forall_mem_cons.2 ⟨hDi, (List.forall_mem_cons.2 ⟨hpost 16 rfl, (fun _ h => nomatch h)⟩)⟩)) hDi rfl rfl rfl rfl), hI249⟩))⟩
 cases hDi.symm.trans hd1
 cases (hpost 17 rfl).symm.trans hd1
 rintro D r wd457 (⟨hd2, G453, hG454, hReg456, hI455⟩ | ⟨hd1, hd2, G453, hG454, hReg456, hI455⟩ | ⟨hd1, G453, hG454, hReg456, hI455⟩) hDi hpre hpost
 obtain ⟨r0, rfl⟩ := Has.ex (cC (hReg456.ins.get 2 rfl) cN)
 refine q_fa (a' := ⟨g30, 1, none⟩) fl51_1 rfl (add_plain _ _ _) ?_
 exact nl ⟨rfl, (.inl ⟨hd2, _, hG454, (Regs.step hReg456 hDi rfl rfl rfl rfl), hI455⟩)⟩
 obtain ⟨r0, rfl⟩ := Has.ex (cC (hReg456.ins.get 2 rfl) cN)
 refine q_fa (a' := ⟨g30, 1, none⟩) fl51_1 rfl (add_plain _ _ _) ?_
 exact nl ⟨rfl, (.inr (.inl ⟨hd1, hd2, _, hG454, (Regs.step hReg456 hDi rfl rfl rfl rfl), hI455⟩))⟩
 cases (hpost 17 rfl).symm.trans hd1
 rintro D r wd457 (⟨hd2, G453, hG454, hReg456, hI455⟩ | ⟨hd1, hd2, G453, hG454, hReg456, hI455⟩ | ⟨hd1, G453, hG454, hReg456, hI455⟩) hDi hpre hpost
 obtain ⟨r0, rfl⟩ := Has.ex (cC (hReg456.get 13 rfl (hpre 14 rfl)) cN)
 refine q_ld hI455 1 (v := bool a22.Hyphen) ag4 rfl rfl rfl ?_
 exact nl ⟨rfl, (.inl ⟨hd2, _, hG454, (Regs.step hReg456 hDi rfl rfl rfl rfl), hI455⟩)⟩
 obtain ⟨r0, rfl⟩ := Has.ex (cC (hReg456.get 13 rfl (hpre 14 rfl)) cN)
 refine q_ld hI455 3 (v := bool a22.Hyphen) ag4 rfl rfl rfl ?_
 exact nl ⟨rfl, (.inr (.inl ⟨hd1, hd2, _, hG454, (Regs.step hReg456 hDi rfl rfl rfl rfl), hI455⟩))⟩
 cases (hpost 17 rfl).symm.trans hd1
 rintro D r wd457 (⟨hd2, G453, hG454, hReg456, hI455⟩ | ⟨hd1, hd2, G453, hG454, hReg456, hI455⟩ | ⟨hd1, G453, hG454, hReg456, hI455⟩) hDi hpre hpost
 cases (hpre 13 rfl).symm.trans hd2
 obtain ⟨r0, rfl⟩ := Has.ex (cC (hReg456.get 0 rfl (hpre 0 rfl)) (cC (hReg456.get 2 rfl (hpre 2 rfl)) (cC (hReg456.get 15 rfl (hpre 13 rfl)) (cC (hReg456.get 14 rfl (hpre 15 rfl)) cN))))
 refine q_build (vs := [(0, int .i64 a21), (1, int .i64 a22.At), (2, int .i64 y250), (3, bool a22.Hyphen)]) (cs := [int .i64 a21, int .i64 a22.At, int .i64 y250, bool a22.Hyphen]) ze31 pl31 rfl rfl ?_
 exact nl ⟨rfl, (.inr (.inl ⟨hd1, hd2, _, hG454, (Regs.step hReg456 hDi rfl rfl rfl rfl), hI455⟩))⟩
 cases (hpost 17 rfl).symm.trans hd1
 rintro D r wd457 (⟨hd2, G453, hG454, hReg456, hI455⟩ | ⟨hd1, hd2, G453, hG454, hReg456, hI455⟩ | ⟨hd1, G453, hG454, hReg456, hI455⟩) hDi hpre hpost
 cases (hpre 13 rfl).symm.trans hd2
 obtain ⟨r0, rfl⟩ := Has.ex (cC (hReg456.ins.get 3 rfl) (cC (hReg456.get 16 rfl (hpre 16 rfl)) cN))
 refine q_stA hI455 2 (v := agg [int .i64 a21, int .i64 a22.At, int .i64 y250, bool a22.Hyphen].toArray) (cs := [int .i64 a21, int .i64 a22.At, int .i64 y250, bool a22.Hyphen]) (vs' := [int .i64 a21, int .i64 a22.At, int .i64 y250, bool a22.Hyphen]) ag31 rfl rfl rfl rfl rfl rfl (Nat.le_of_ble_eq_true rfl) rfl (fun wd451 hI452 => ?_)
 exact nl ⟨rfl, (.inr (.inr ⟨rfl, _, hG454, (Regs.stepN hReg456 rfl rfl), hI452⟩))⟩
 cases hDi.symm.trans hd1
 intro D r wd457 hall hR
 rcases hR with ⟨hd2, G453, hG454, hReg456, hI455⟩ | ⟨hd1, hd2, G453, hG454, hReg456, hI455⟩ | ⟨hd1, G453, hG454, hReg456, hI455⟩
 cases (hall 13 (Nat.le_of_ble_eq_true rfl)).symm.trans hd2
 cases (hall 17 (Nat.le_of_ble_eq_true rfl)).symm.trans hd2
 obtain ⟨r0, rfl⟩ := Has.ex (cC (hReg456.ins.get 3 rfl) cN)
 refine hK38 _ _ _ ?_
 refine wpc_ret ?_
 have hr458 := res_cell (P := Tryz.prog) hI455 2 (cs := [int .i64 a21, int .i64 a22.At, int .i64 y250, bool a22.Hyphen]) (g := g34) (o := 0) ag31 rfl rfl rfl
 have hI459 := Hp.sub hI455 (sk (sk (sd (sd (sd se)))))
 cases H
 exact ⟨.inr rfl, rfl, _, ⟨_, _, _, rfl, rfl, hr458, rfl⟩, _, hG454, hI459, rfl⟩
end Go.Proofs.YtokeiiakkfdmgaaGreatDoor.LG
