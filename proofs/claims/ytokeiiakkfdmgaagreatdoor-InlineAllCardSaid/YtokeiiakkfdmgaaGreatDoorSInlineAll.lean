/-
  The walks: each function computes its plain function: printed by a program out of the translation.
-/
import Derived.Test.YtokeiiakkfdmgaaGreatDoorSf
set_option linter.unusedVariables false
set_option linter.unusedSimpArgs false
set_option maxRecDepth 100000
namespace Go.Proofs.YtokeiiakkfdmgaaGreatDoor.LG
open Go Go.LG Go.RowKit Go.Value
open Go.Lib Go.Shelf Go.Proofs
set_option maxHeartbeats 1000000 in
theorem formelaw17_InlineAll_spec {a1 : api_Font} {a10 : api_Breaks} {a15 : ByteArray} {a16 : Int} {a17 : List Int} {A2 : Option Addr} {c3 : Nat} {A6 : Option Addr} {c7 : Nat} {A11 : Option Addr} {c12 : Nat} {A18 : Option Addr} {c19 : Nat} {r1378 : Bool} {G : Gh} {L : List Itm} {w : World} (hI : Hp G (L) w) (hl4 : a1.Glyphs.length ≤ c3) (hD5 : Dat k_api_Glyph G A2 a1.Glyphs) (hl8 : a1.Kerns.length ≤ c7) (hD9 : Dat k_api_Kern G A6 a1.Kerns) (hl13 : a10.Keep.length ≤ c12) (hD14 : Dat Kd.str G A11 a10.Keep) (hl20 : a17.length ≤ c19) (hD21 : Dat (Kd.int .i64) G A18 a17) (hgl : Gl G) (H : formelaw17_InlineAll a1 a10 a15 a16 a17 = some r1378) :
    Calls Tryz.prog 4 [agg [slice A2 a1.Glyphs.length c3, slice A6 a1.Kerns.length c7].toArray, agg [int .i64 a10.Before, int .i64 a10.Behind, slice A11 a10.Keep.length c12].toArray, string a15, int .i64 a16, slice A18 a17.length c19].toArray w fun e w' => ∃ (G' : Gh), G ≤ G' ∧ Hp G' (L) w' ∧ e = .returned (bool r1378) := by
 refine calls_intro (N := 187) Tryz.func4 rfl rfl (Nat.le_of_ble_eq_true rfl) ?_
 unfold formelaw17_InlineAll at H
 refine sr fun K22 hK23 => ?_
 refine q_box hI (v := agg [slice A2 a1.Glyphs.length c3, slice A6 a1.Kerns.length c7].toArray) (vs := [slice A2 a1.Glyphs.length c3, slice A6 a1.Kerns.length c7]) rfl rfl (fun g25 wd26 hI27 => ?_)
 refine q_box hI27 (v := agg [int .i64 a10.Before, int .i64 a10.Behind, slice A11 a10.Keep.length c12].toArray) (vs := [int .i64 a10.Before, int .i64 a10.Behind, slice A11 a10.Keep.length c12]) rfl rfl (fun g29 wd30 hI31 => ?_)
 refine q_as (v := bool false) rfl ?_
 refine nl ?_
 refine hK23 _ _ _ ?_
 refine sr fun K32 hK33 => ?_
 obtain ⟨y39, hy34, H⟩ := bS H
 refine q_cv (vs := []) bo9 rfl rfl (formelaw17_head_spec hI31 (hgl.mono gR) hy34) ?_
 rintro _ wd37 ⟨G35, hG36, hI38, rfl⟩
 refine ⟨_, rfl, ?_⟩
 refine q_as (v := bool y39) rfl ?_
 refine nl ?_
 refine hK33 _ _ _ ?_
 refine sQ fun K40 hK41 => ?_
 refine sr fun K42 hK43 => ?_
 refine q_ldA hI38 1 (cs := [slice A2 a1.Glyphs.length c3, slice A6 a1.Kerns.length c7]) ag25 rfl rfl rfl rfl ?_
 refine q_ldA hI38 0 (cs := [int .i64 a10.Before, int .i64 a10.Behind, slice A11 a10.Keep.length c12]) ag28 rfl rfl rfl rfl ?_
 refine q_mv (v := string a15) rfl ?_
 refine q_mv (v := int .i64 a16) rfl ?_
 obtain ⟨y49, hy44, H⟩ := bS H
 refine q_cv (vs := [agg [slice A2 a1.Glyphs.length c3, slice A6 a1.Kerns.length c7].toArray, agg [int .i64 a10.Before, int .i64 a10.Behind, slice A11 a10.Keep.length c12].toArray, string a15, int .i64 a16]) bo18 rfl rfl (formelaw17_usable_spec (a1 := a1) (a10 := a10) (a15 := a15) (a16 := a16) hI38 hl4 (Dat.mono hG36 hD5) hl8 (Dat.mono hG36 hD9) hl13 (Dat.mono hG36 hD14) hy44) ?_
 rintro _ wd47 ⟨G45, hG46, hI48, rfl⟩
 refine ⟨_, rfl, ?_⟩
 refine q_not rfl ?_
 refine q_mv (v := bool (!y49)) rfl ?_
 obtain ⟨v50, hC, H⟩ := bS H
 refine wpq_split 4 (K := fun e r ds w => e = .normal ∧ ∃ (G51 : Gh), ds = [] ∧ G45 ≤ G51 ∧ Has [(2, string a15), (3, int .i64 a16), (4, slice A18 a17.length c19), (5, pointer (some ⟨g25, 0, none⟩)), (6, pointer (some ⟨g29, 0, none⟩)), (11, bool y39), (35, bool v50)] r ∧ Hp G51 (bx g29 [int .i64 a10.Before, int .i64 a10.Behind, slice A11 a10.Keep.length c12] 28 :: bx g25 [slice A2 a1.Glyphs.length c3, slice A6 a1.Kerns.length c7] 25 :: L) w ∧ True) ?_ ?_
 replace H := hC
 by_cases h56 : (!y49) = true
 replace H := iY h56 H
 refine wN (gN rfl rfl rfl (bval_yes h56) rfl) ?_
 refine wN (gN rfl rfl rfl (bval_yes h56) rfl) ?_
 refine wN (gN rfl rfl rfl (bval_yes h56) rfl) ?_
 refine q_pick true (v := bool true) (bval_yes h56) rfl ?_
 refine nl ?_
 cases H
 exact ⟨rfl, _, rfl, gR, ⟨rfl, rfl, rfl, rfl, rfl, rfl, rfl, trivial⟩, hI48, trivial⟩
 replace H := iN h56 H
 refine q_mv (v := slice A18 a17.length c19) rfl ?_ (hw := gY rfl rfl rfl (bval_no h56))
 refine q_len so29 rfl ?_ (hw := gY rfl rfl rfl (bval_no h56))
 refine q_gtr rfl rfl ?_ (hw := gY rfl rfl rfl (bval_no h56))
 refine q_pick false (v := bool (decide (60 < (a17.length : Int)))) (bval_no h56) rfl ?_
 refine nl ?_
 cases H
 exact ⟨rfl, _, rfl, gR, ⟨rfl, rfl, rfl, rfl, rfl, rfl, rfl, trivial⟩, hI48, trivial⟩
 clear hC
 rintro e r ds wd53 ⟨rfl, G51, rfl, hG52, hHas, hI54, _⟩
 rw [hHas.eq]; clear hHas
 refine nl ?_
 refine hK43 _ _ _ ?_
 by_cases h57 : v50 = true
 replace H := iY h57 H
 refine wpc_true (bval_yes h57) ?_
 refine sr fun K58 hK59 => ?_
 refine q_mv (v := bool y39) rfl ?_
 refine q_as (v := bool y39) rfl ?_
 refine nl ?_
 refine hK59 _ _ _ ?_
 refine wpc_ret ?_
 have hI60 := Hp.sub hI54 (sd (sd se))
 cases H
 exact ⟨.inr rfl, rfl, _, ⟨_, _, rfl, rfl, rfl⟩, _, (gT (gT hG36 hG46) hG52), hI60, rfl⟩
 replace H := iN h57 H
 refine wpc_false (bval_no h57) ?_
 refine wpc_skip ?_
 refine hK41 _ _ _ ?_
 refine sr fun K61 hK62 => ?_
 refine q_ldA hI54 1 (cs := [slice A2 a1.Glyphs.length c3, slice A6 a1.Kerns.length c7]) ag25 rfl rfl rfl rfl ?_
 refine q_ldA hI54 0 (cs := [int .i64 a10.Before, int .i64 a10.Behind, slice A11 a10.Keep.length c12]) ag28 rfl rfl rfl rfl ?_
 refine q_mv (v := string a15) rfl ?_
 refine q_mv (v := int .i64 a16) rfl ?_
 refine q_mv (v := slice A18 a17.length c19) rfl ?_
 obtain ⟨⟨y68, y75⟩, hy63, H⟩ := bS H
 refine q_cv (vs := [agg [slice A2 a1.Glyphs.length c3, slice A6 a1.Kerns.length c7].toArray, agg [int .i64 a10.Before, int .i64 a10.Behind, slice A11 a10.Keep.length c12].toArray, string a15, int .i64 a16, slice A18 a17.length c19]) bo13 rfl rfl (inline_Lines_spec (a1 := a1) (a10 := a10) (a15 := a15) (a16 := a16) (a17 := a17) hI54 hl4 (Dat.mono (gT (gT hG36 hG46) hG52) hD5) hl8 (Dat.mono (gT (gT hG36 hG46) hG52) hD9) hl13 (Dat.mono (gT (gT hG36 hG46) hG52) hD14) hl20 (Dat.mono (gT (gT hG36 hG46) hG52) hD21) (hgl.mono (gT (gT hG36 hG46) hG52)) hy63) ?_
 rintro _ wd66 ⟨A69, c70, G64, hG65, hI67, hl71, hD72, ho73, rfl⟩
 refine ⟨_, rfl, ?_⟩
 refine q_mv (v := tuple [slice A69 y68.length c70, int .i64 y75].toArray) rfl ?_
 refine q_ex (v := slice A69 y68.length c70) rfl rfl ?_
 refine q_ex (v := int .i64 y75) rfl rfl ?_
 refine q_as (v := slice A69 y68.length c70) rfl ?_
 refine q_as (v := int .i64 y75) rfl ?_
 refine nl ?_
 refine hK62 _ _ _ ?_
 refine sr fun K76 hK77 => ?_
 refine q_ldA hI67 1 (cs := [int .i64 a10.Before, int .i64 a10.Behind, slice A11 a10.Keep.length c12]) ag28 rfl rfl rfl rfl ?_
 refine q_mv (v := string a15) rfl ?_
 obtain ⟨⟨y83, y90⟩, hy78, H⟩ := bS H
 refine q_cv (vs := [agg [int .i64 a10.Before, int .i64 a10.Behind, slice A11 a10.Keep.length c12].toArray, string a15]) bo19 rfl rfl (breaks_List_spec (a1 := a10) (a6 := a15) hI67 hl13 (Dat.mono (gT (gT (gT hG36 hG46) hG52) hG65) hD14) hy78) ?_
 rintro _ wd81 ⟨A84, c85, G79, hG80, hI82, hl86, hD87, ho88, rfl⟩
 refine ⟨_, rfl, ?_⟩
 refine q_mv (v := tuple [slice A84 y83.length c85, int .i64 y90].toArray) rfl ?_
 refine q_ex (v := slice A84 y83.length c85) rfl rfl ?_
 refine q_ex (v := int .i64 y90) rfl rfl ?_
 refine q_as (v := slice A84 y83.length c85) rfl ?_
 refine q_as (v := int .i64 y90) rfl ?_
 refine nl ?_
 refine hK77 _ _ _ ?_
 refine sQ fun K91 hK92 => ?_
 refine sr fun K93 hK94 => ?_
 refine q_mv (v := int .i64 y75) rfl ?_
 refine q_neq rfl rfl ?_
 refine nl ?_
 refine hK94 _ _ _ ?_
 by_cases h95 : ¬ y75 = 0
 replace H := iY h95 H
 refine wpc_true (bool_yes h95) ?_
 refine sr fun K96 hK97 => ?_
 refine q_mv (v := bool y39) rfl ?_
 refine q_mv (v := bool y39) rfl ?_
 obtain ⟨v98, hC, H⟩ := bS H
 refine wpq_split 4 (K := fun e r ds w => e = .normal ∧ ∃ (G99 : Gh), ds = [] ∧ G79 ≤ G99 ∧ Has [(15, int .i64 y90), (59, bool v98)] r ∧ Hp G99 (bx g29 [int .i64 a10.Before, int .i64 a10.Behind, slice A11 a10.Keep.length c12] 28 :: bx g25 [slice A2 a1.Glyphs.length c3, slice A6 a1.Kerns.length c7] 25 :: tk (slice A84 y83.length c85) 2 51 :: tk (slice A69 y68.length c70) 4 31 :: L) w ∧ True) ?_ ?_
 replace H := hC
 by_cases h104 : y39 = true
 replace H := iY h104 H
 refine q_mv (v := slice A69 y68.length c70) rfl ?_ (hw := gY rfl rfl rfl (bval_yes h104))
 refine q_len so37 rfl ?_ (hw := gY rfl rfl rfl (bval_yes h104))
 refine q_eql rfl rfl ?_ (hw := gY rfl rfl rfl (bval_yes h104))
 refine q_pick true (v := bool (decide ((y68.length : Int) = 0))) (bval_yes h104) rfl ?_
 refine nl ?_
 have hI105 := Hp.front hI82 1 rfl
 have hI106 := Hp.front hI105 1 rfl
 have hI107 := Hp.front hI106 3 rfl
 have hI108 := Hp.front hI107 3 rfl
 cases H
 exact ⟨rfl, _, rfl, gR, ⟨rfl, rfl, trivial⟩, hI108, trivial⟩
 replace H := iN h104 H
 refine wN (gN rfl rfl rfl (bval_no h104) rfl) ?_
 refine wN (gN rfl rfl rfl (bval_no h104) rfl) ?_
 refine wN (gN rfl rfl rfl (bval_no h104) rfl) ?_
 refine q_pick false (v := bool false) (bval_no h104) rfl ?_
 refine nl ?_
 have hI109 := Hp.front hI82 1 rfl
 have hI110 := Hp.front hI109 1 rfl
 have hI111 := Hp.front hI110 3 rfl
 have hI112 := Hp.front hI111 3 rfl
 cases H
 exact ⟨rfl, _, rfl, gR, ⟨rfl, rfl, trivial⟩, hI112, trivial⟩
 clear hC
 rintro e r ds wd101 ⟨rfl, G99, rfl, hG100, hHas, hI102, _⟩
 rw [hHas.eq]; clear hHas
 refine q_mv (v := bool v98) rfl ?_
 obtain ⟨v113, hC, H⟩ := bS H
 refine wpq_split 3 (K := fun e r ds w => e = .normal ∧ ∃ (G114 : Gh), ds = [] ∧ G99 ≤ G114 ∧ Has [(63, bool v113)] r ∧ Hp G114 (bx g29 [int .i64 a10.Before, int .i64 a10.Behind, slice A11 a10.Keep.length c12] 28 :: bx g25 [slice A2 a1.Glyphs.length c3, slice A6 a1.Kerns.length c7] 25 :: tk (slice A84 y83.length c85) 2 51 :: tk (slice A69 y68.length c70) 4 31 :: L) w ∧ True) ?_ ?_
 replace H := hC
 by_cases h119 : v98 = true
 replace H := iY h119 H
 refine q_mv (v := int .i64 y90) rfl ?_ (hw := gY rfl rfl rfl (bval_yes h119))
 refine q_eql rfl rfl ?_ (hw := gY rfl rfl rfl (bval_yes h119))
 refine q_pick true (v := bool (decide (y90 = 0))) (bval_yes h119) rfl ?_
 refine nl ?_
 cases H
 exact ⟨rfl, _, rfl, gR, ⟨rfl, trivial⟩, hI102, trivial⟩
 replace H := iN h119 H
 refine wN (gN rfl rfl rfl (bval_no h119) rfl) ?_
 refine wN (gN rfl rfl rfl (bval_no h119) rfl) ?_
 refine q_pick false (v := bool false) (bval_no h119) rfl ?_
 refine nl ?_
 cases H
 exact ⟨rfl, _, rfl, gR, ⟨rfl, trivial⟩, hI102, trivial⟩
 clear hC
 rintro e r ds wd116 ⟨rfl, G114, rfl, hG115, hHas, hI117, _⟩
 rw [hHas.eq]; clear hHas
 refine q_as (v := bool v113) rfl ?_
 refine nl ?_
 refine hK97 _ _ _ ?_
 refine wpc_ret ?_
 have hI120 := Hp.sub hI117 (sd (sd (sd (sd se))))
 cases H
 exact ⟨.inr rfl, rfl, _, ⟨_, _, rfl, rfl, rfl⟩, _, (gT (gT (gT (gT (gT (gT hG36 hG46) hG52) hG65) hG80) hG100) hG115), hI120, rfl⟩
 replace H := iN h95 H
 refine wpc_false (bool_no h95) ?_
 refine wpc_skip ?_
 refine hK92 _ _ _ ?_
 refine sr fun K121 hK122 => ?_
 refine q_as (v := int .i64 0) rfl ?_
 refine nl ?_
 refine hK122 _ _ _ ?_
 refine sQ fun K123 hK124 => ?_
 refine sr fun K125 hK126 => ?_
 refine q_as (v := int .i64 0) rfl ?_
 refine nl ?_
 refine hK126 _ _ _ ?_
 refine wpc_block ?_
 obtain ⟨o149, hC, H⟩ := bS H
 refine wpc_mono (Q := fun e r ds w => match (generalizing := false) o149 with | (Sum.inl _) => e = .ret ∧ ∃ (G141 : Gh), ds = [] ∧ G79 ≤ G141 ∧ Has [(10, bool false)] r ∧ Hp G141 (bx g29 [int .i64 a10.Before, int .i64 a10.Behind, slice A11 a10.Keep.length c12] 28 :: bx g25 [slice A2 a1.Glyphs.length c3, slice A6 a1.Kerns.length c7] 25 :: tk (slice A84 y83.length c85) 2 51 :: tk (slice A69 y68.length c70) 4 31 :: L) w ∧ True | (Sum.inr v140) => e = .exit 0 ∧ ∃ (G145 : Gh), ds = [] ∧ G79 ≤ G145 ∧ Has [(2, string a15), (11, bool y39), (15, int .i64 y90), (16, int .i64 v140)] r ∧ Hp G145 (bx g29 [int .i64 a10.Before, int .i64 a10.Behind, slice A11 a10.Keep.length c12] 28 :: bx g25 [slice A2 a1.Glyphs.length c3, slice A6 a1.Kerns.length c7] 25 :: tk (slice A84 y83.length c85) 2 51 :: tk (slice A69 y68.length c70) 4 31 :: L) w ∧ True) ?_ ?_
 clear H
 have hI337 := Hp.front hI82 1 rfl
 have hI338 := Hp.front hI337 1 rfl
 have hI339 := Hp.front hI338 3 rfl
 have hI340 := Hp.front hI339 3 rfl
 refine wpc_loop fun I hLp => ?_
 refine formelaw17_InlineAll_l139.partial_correctness a15 y68 y83 (fun v131 v132 o => ∀ (G150 : Gh) (r : Rg) (w : World), G79 ≤ G150 → Has [(2, string a15), (11, bool y39), (12, slice A69 y68.length c70), (14, slice A84 y83.length c85), (15, int .i64 y90), (16, int .i64 v131), (17, int .i64 v132)] r → Hp G150 (bx g29 [int .i64 a10.Before, int .i64 a10.Behind, slice A11 a10.Keep.length c12] 28 :: bx g25 [slice A2 a1.Glyphs.length c3, slice A6 a1.Kerns.length c7] 25 :: tk (slice A84 y83.length c85) 2 51 :: tk (slice A69 y68.length c70) 4 31 :: L) w → o = o149 → I r [] w) ?_ 0 0 _ hC _ _ _ gR ⟨rfl, rfl, rfl, rfl, rfl, rfl, rfl, trivial⟩ hI340 rfl
 intro _ ih v131 v132 o H G150 r wd152 hG151 hHas hI153 ho
 rw [ho] at H; clear ho
 rw [hHas.eq]; clear hHas
 refine hLp _ _ _ ?_
 refine sQ fun K154 hK155 => ?_
 refine sr fun K156 hK157 => ?_
 refine q_mv (v := int .i64 v132) rfl ?_
 refine q_mv (v := slice A69 y68.length c70) rfl ?_
 refine q_len so37 rfl ?_
 refine q_lss rfl rfl ?_
 refine nl ?_
 refine hK157 _ _ _ ?_
 by_cases h158 : v132 < (y68.length : Int)
 replace H := iY h158 H
 refine wpc_true (bool_yes h158) ?_
 refine wpc_skip ?_
 refine hK155 _ _ _ ?_
 refine sQ fun K159 hK160 => ?_
 refine wpc_block ?_
 refine sQ fun K161 hK162 => ?_
 refine sr fun K163 hK164 => ?_
 refine q_mv (v := slice A69 y68.length c70) rfl ?_
 refine q_mv (v := int .i64 v132) rfl ?_
 obtain ⟨⟨h165, h165'⟩, H⟩ := iS H
 obtain ⟨ad166, cs167, hA168, hK169, hn170, hc171⟩ := Dat.get (Dat.mono (gT hG80 hG151) hD72) z_api_Line (v132) h165 h165'
 obtain ⟨rfl⟩ := open_api_Line hK169
 refine q_ia el37 rfl hA168 rfl h165 h165' ?_
 refine q_fa (a' := (ad166.add (Int.toNat v132 * 4)).add 0) fl31_0 rfl rfl ?_
 refine q_lf hI153 (v := int .i64 ((y68.getD (Int.toNat v132) z_api_Line).From)) ag3 rfl (gR.cel _ _ (hc171 0 _ rfl)) ?_
 refine q_mv (v := int .i64 v131) rfl ?_
 refine q_neq rfl rfl ?_
 refine q_mv (v := bool (decide (¬ ((y68.getD (Int.toNat v132) z_api_Line).From) = v131))) rfl ?_
 obtain ⟨v172, hC, H⟩ := bS H
 refine wpq_split 8 (K := fun e r ds w => e = .normal ∧ ∃ (G173 : Gh), ds = [] ∧ G150 ≤ G173 ∧ Has [(2, string a15), (11, bool y39), (12, slice A69 y68.length c70), (14, slice A84 y83.length c85), (15, int .i64 y90), (16, int .i64 v131), (17, int .i64 v132), (85, bool v172)] r ∧ Hp G173 (bx g29 [int .i64 a10.Before, int .i64 a10.Behind, slice A11 a10.Keep.length c12] 28 :: bx g25 [slice A2 a1.Glyphs.length c3, slice A6 a1.Kerns.length c7] 25 :: tk (slice A84 y83.length c85) 2 51 :: tk (slice A69 y68.length c70) 4 31 :: L) w ∧ True) ?_ ?_
 replace H := hC
 by_cases h178 : ¬ ((y68.getD (Int.toNat v132) z_api_Line).From) = v131
 replace H := iY h178 H
 refine wN (gN rfl rfl rfl (bool_yes h178) rfl) ?_
 refine wN (gN rfl rfl rfl (bool_yes h178) rfl) ?_
 refine wN (gN rfl rfl rfl (bool_yes h178) rfl) ?_
 refine wN (gN rfl rfl rfl (bool_yes h178) rfl) ?_
 refine wN (gN rfl rfl rfl (bool_yes h178) rfl) ?_
 refine wN (gN rfl rfl rfl (bool_yes h178) rfl) ?_
 refine wN (gN rfl rfl rfl (bool_yes h178) rfl) ?_
 refine q_pick true (v := bool true) (bool_yes h178) rfl ?_
 refine nl ?_
 cases H
 exact ⟨rfl, _, rfl, gR, ⟨rfl, rfl, rfl, rfl, rfl, rfl, rfl, rfl, trivial⟩, hI153, trivial⟩
 replace H := iN h178 H
 refine q_mv (v := slice A69 y68.length c70) rfl ?_ (hw := gY rfl rfl rfl (bool_no h178))
 refine q_mv (v := int .i64 v132) rfl ?_ (hw := gY rfl rfl rfl (bool_no h178))
 obtain ⟨⟨h179, h179'⟩, H⟩ := iS H
 obtain ⟨ad180, cs181, hA182, hK183, hn184, hc185⟩ := Dat.get (Dat.mono (gT hG80 hG151) hD72) z_api_Line (v132) h179 h179'
 obtain ⟨rfl⟩ := open_api_Line hK183
 refine q_ia el37 rfl hA182 rfl h179 h179' ?_ (hw := gY rfl rfl rfl (bool_no h178))
 refine q_fa (a' := (ad180.add (Int.toNat v132 * 4)).add 1) fl31_1 rfl rfl ?_ (hw := gY rfl rfl rfl (bool_no h178))
 refine q_lf hI153 (v := int .i64 ((y68.getD (Int.toNat v132) z_api_Line).Until)) ag3 rfl (gR.cel _ _ (hc185 1 _ rfl)) ?_ (hw := gY rfl rfl rfl (bool_no h178))
 refine q_mv (v := int .i64 v131) rfl ?_ (hw := gY rfl rfl rfl (bool_no h178))
 refine q_leq rfl rfl ?_ (hw := gY rfl rfl rfl (bool_no h178))
 refine q_pick false (v := bool (decide (((y68.getD (Int.toNat v132) z_api_Line).Until) ≤ v131))) (bool_no h178) rfl ?_
 refine nl ?_
 cases H
 exact ⟨rfl, _, rfl, gR, ⟨rfl, rfl, rfl, rfl, rfl, rfl, rfl, rfl, trivial⟩, hI153, trivial⟩
 clear hC
 rintro e r ds wd175 ⟨rfl, G173, rfl, hG174, hHas, hI176, _⟩
 rw [hHas.eq]; clear hHas
 refine q_mv (v := bool v172) rfl ?_
 obtain ⟨v186, hC, H⟩ := bS H
 refine wpq_split 9 (K := fun e r ds w => e = .normal ∧ ∃ (G187 : Gh), ds = [] ∧ G173 ≤ G187 ∧ Has [(2, string a15), (11, bool y39), (12, slice A69 y68.length c70), (14, slice A84 y83.length c85), (15, int .i64 y90), (16, int .i64 v131), (17, int .i64 v132), (95, bool v186)] r ∧ Hp G187 (bx g29 [int .i64 a10.Before, int .i64 a10.Behind, slice A11 a10.Keep.length c12] 28 :: bx g25 [slice A2 a1.Glyphs.length c3, slice A6 a1.Kerns.length c7] 25 :: tk (slice A84 y83.length c85) 2 51 :: tk (slice A69 y68.length c70) 4 31 :: L) w ∧ True) ?_ ?_
 replace H := hC
 by_cases h192 : v172 = true
 replace H := iY h192 H
 refine wN (gN rfl rfl rfl (bval_yes h192) rfl) ?_
 refine wN (gN rfl rfl rfl (bval_yes h192) rfl) ?_
 refine wN (gN rfl rfl rfl (bval_yes h192) rfl) ?_
 refine wN (gN rfl rfl rfl (bval_yes h192) rfl) ?_
 refine wN (gN rfl rfl rfl (bval_yes h192) rfl) ?_
 refine wN (gN rfl rfl rfl (bval_yes h192) rfl) ?_
 refine wN (gN rfl rfl rfl (bval_yes h192) rfl) ?_
 refine wN (gN rfl rfl rfl (bval_yes h192) rfl) ?_
 refine q_pick true (v := bool true) (bval_yes h192) rfl ?_
 refine nl ?_
 cases H
 exact ⟨rfl, _, rfl, gR, ⟨rfl, rfl, rfl, rfl, rfl, rfl, rfl, rfl, trivial⟩, hI176, trivial⟩
 replace H := iN h192 H
 refine q_mv (v := slice A69 y68.length c70) rfl ?_ (hw := gY rfl rfl rfl (bval_no h192))
 refine q_mv (v := int .i64 v132) rfl ?_ (hw := gY rfl rfl rfl (bval_no h192))
 obtain ⟨⟨h193, h193'⟩, H⟩ := iS H
 obtain ⟨ad194, cs195, hA196, hK197, hn198, hc199⟩ := Dat.get (Dat.mono (gT (gT hG80 hG151) hG174) hD72) z_api_Line (v132) h193 h193'
 obtain ⟨rfl⟩ := open_api_Line hK197
 refine q_ia el37 rfl hA196 rfl h193 h193' ?_ (hw := gY rfl rfl rfl (bval_no h192))
 refine q_fa (a' := (ad194.add (Int.toNat v132 * 4)).add 1) fl31_1 rfl rfl ?_ (hw := gY rfl rfl rfl (bval_no h192))
 refine q_lf hI176 (v := int .i64 ((y68.getD (Int.toNat v132) z_api_Line).Until)) ag3 rfl (gR.cel _ _ (hc199 1 _ rfl)) ?_ (hw := gY rfl rfl rfl (bval_no h192))
 refine q_mv (v := string a15) rfl ?_ (hw := gY rfl rfl rfl (bval_no h192))
 refine q_lens so9 rfl ?_ (hw := gY rfl rfl rfl (bval_no h192))
 refine q_gtr rfl rfl ?_ (hw := gY rfl rfl rfl (bval_no h192))
 refine q_pick false (v := bool (decide ((a15.size : Int) < ((y68.getD (Int.toNat v132) z_api_Line).Until)))) (bval_no h192) rfl ?_
 refine nl ?_
 cases H
 exact ⟨rfl, _, rfl, gR, ⟨rfl, rfl, rfl, rfl, rfl, rfl, rfl, rfl, trivial⟩, hI176, trivial⟩
 clear hC
 rintro e r ds wd189 ⟨rfl, G187, rfl, hG188, hHas, hI190, _⟩
 rw [hHas.eq]; clear hHas
 refine nl ?_
 refine hK164 _ _ _ ?_
 by_cases h200 : v186 = true
 replace H := iY h200 H
 refine wpc_true (bval_yes h200) ?_
 refine sr fun K201 hK202 => ?_
 refine q_as (v := bool false) rfl ?_
 refine nl ?_
 refine hK202 _ _ _ ?_
 refine wpc_ret ?_
 cases H
 exact ⟨rfl, _, rfl, (gT (gT hG151 hG174) hG188), ⟨rfl, trivial⟩, hI190, trivial⟩
 replace H := iN h200 H
 refine wpc_false (bval_no h200) ?_
 refine wpc_skip ?_
 refine hK162 _ _ _ ?_
 refine sr fun K203 hK204 => ?_
 refine q_mv (v := string a15) rfl ?_
 refine q_mv (v := int .i64 v131) rfl ?_
 obtain ⟨⟨h205, h206⟩, H⟩ := iS H
 refine q_ss (l := v131) (h := (a15.size : Int)) so9 rfl (.inr ⟨_, rfl, rfl⟩) (.inl ⟨rfl, rfl⟩) h205 h206 (Int.le_refl _) ?_
 obtain ⟨⟨y213, y214⟩, hy208, H⟩ := bS H
 refine q_cv (vs := [string (sub a15 v131 (a15.size : Int))]) bo20 rfl rfl (text_Words_spec (a1 := sub a15 v131 (a15.size : Int)) hI190 hy208) ?_
 rintro _ wd211 ⟨G209, hG210, hI212, rfl⟩
 refine ⟨_, rfl, ?_⟩
 refine q_mv (v := tuple [int .i64 y213, int .i64 y214].toArray) rfl ?_
 refine q_ex (v := int .i64 y213) rfl rfl ?_
 refine q_ex (v := int .i64 y214) rfl rfl ?_
 refine q_as (v := int .i64 y213) rfl ?_
 refine q_as (v := int .i64 y214) rfl ?_
 refine nl ?_
 refine hK204 _ _ _ ?_
 refine sr fun K215 hK216 => ?_
 refine q_mv (v := slice A69 y68.length c70) rfl ?_
 refine q_mv (v := int .i64 v132) rfl ?_
 obtain ⟨⟨h217, h217'⟩, H⟩ := iS H
 obtain ⟨ad218, cs219, hA220, hK221, hn222, hc223⟩ := Dat.get (Dat.mono (gT (gT (gT (gT hG80 hG151) hG174) hG188) hG210) hD72) z_api_Line (v132) h217 h217'
 obtain ⟨rfl⟩ := open_api_Line hK221
 refine q_ia el37 rfl hA220 rfl h217 h217' ?_
 refine q_fa (a' := (ad218.add (Int.toNat v132 * 4)).add 1) fl31_1 rfl rfl ?_
 refine q_lf hI212 (v := int .i64 ((y68.getD (Int.toNat v132) z_api_Line).Until)) ag3 rfl (gR.cel _ _ (hc223 1 _ rfl)) ?_
 refine q_mv (v := string a15) rfl ?_
 refine q_lens so9 rfl ?_
 refine q_eql rfl rfl ?_
 refine q_mv (v := bool (decide (((y68.getD (Int.toNat v132) z_api_Line).Until) = (a15.size : Int)))) rfl ?_
 obtain ⟨v224, hC, H⟩ := bS H
 refine wpq_split 7 (K := fun e r ds w => e = .normal ∧ ∃ (G225 : Gh), ds = [] ∧ G209 ≤ G225 ∧ Has [(2, string a15), (11, bool y39), (12, slice A69 y68.length c70), (14, slice A84 y83.length c85), (15, int .i64 y90), (17, int .i64 v132), (18, int .i64 y213), (19, int .i64 y214), (118, bool v224)] r ∧ Hp G225 (bx g29 [int .i64 a10.Before, int .i64 a10.Behind, slice A11 a10.Keep.length c12] 28 :: bx g25 [slice A2 a1.Glyphs.length c3, slice A6 a1.Kerns.length c7] 25 :: tk (slice A84 y83.length c85) 2 51 :: tk (slice A69 y68.length c70) 4 31 :: L) w ∧ True) ?_ ?_
 replace H := hC
 by_cases h230 : ((y68.getD (Int.toNat v132) z_api_Line).Until) = (a15.size : Int)
 replace H := iY h230 H
 refine q_mv (v := slice A69 y68.length c70) rfl ?_ (hw := gY rfl rfl rfl (bool_yes h230))
 refine q_mv (v := int .i64 v132) rfl ?_ (hw := gY rfl rfl rfl (bool_yes h230))
 obtain ⟨⟨h231, h231'⟩, H⟩ := iS H
 obtain ⟨ad232, cs233, hA234, hK235, hn236, hc237⟩ := Dat.get (Dat.mono (gT (gT (gT (gT hG80 hG151) hG174) hG188) hG210) hD72) z_api_Line (v132) h231 h231'
 obtain ⟨rfl⟩ := open_api_Line hK235
 refine q_ia el37 rfl hA234 rfl h231 h231' ?_ (hw := gY rfl rfl rfl (bool_yes h230))
 refine q_fa (a' := (ad232.add (Int.toNat v132 * 4)).add 3) fl31_3 rfl rfl ?_ (hw := gY rfl rfl rfl (bool_yes h230))
 refine q_lf hI212 (v := bool ((y68.getD (Int.toNat v132) z_api_Line).Hyphen)) ag4 rfl (gR.cel _ _ (hc237 3 _ rfl)) ?_ (hw := gY rfl rfl rfl (bool_yes h230))
 refine q_not rfl ?_ (hw := gY rfl rfl rfl (bool_yes h230))
 refine q_pick true (v := bool (!((y68.getD (Int.toNat v132) z_api_Line).Hyphen))) (bool_yes h230) rfl ?_
 refine nl ?_
 cases H
 exact ⟨rfl, _, rfl, gR, ⟨rfl, rfl, rfl, rfl, rfl, rfl, rfl, rfl, rfl, trivial⟩, hI212, trivial⟩
 replace H := iN h230 H
 refine wN (gN rfl rfl rfl (bool_no h230) rfl) ?_
 refine wN (gN rfl rfl rfl (bool_no h230) rfl) ?_
 refine wN (gN rfl rfl rfl (bool_no h230) rfl) ?_
 refine wN (gN rfl rfl rfl (bool_no h230) rfl) ?_
 refine wN (gN rfl rfl rfl (bool_no h230) rfl) ?_
 refine wN (gN rfl rfl rfl (bool_no h230) rfl) ?_
 refine q_pick false (v := bool false) (bool_no h230) rfl ?_
 refine nl ?_
 cases H
 exact ⟨rfl, _, rfl, gR, ⟨rfl, rfl, rfl, rfl, rfl, rfl, rfl, rfl, rfl, trivial⟩, hI212, trivial⟩
 clear hC
 rintro e r ds wd227 ⟨rfl, G225, rfl, hG226, hHas, hI228, _⟩
 rw [hHas.eq]; clear hHas
 refine q_as (v := bool v224) rfl ?_
 refine nl ?_
 refine hK216 _ _ _ ?_
 refine sQ fun K238 hK239 => ?_
 refine sr fun K240 hK241 => ?_
 refine q_as (v := int .i64 0) rfl ?_
 refine nl ?_
 refine hK241 _ _ _ ?_
 refine wpc_block ?_
 obtain ⟨v255, hC, H⟩ := bS H
 refine wpc_mono (Q := fun e r ds w => e = .exit 2 ∧ ∃ (G256 : Gh), ds = [] ∧ G225 ≤ G256 ∧ Has [(2, string a15), (11, bool y39), (12, slice A69 y68.length c70), (14, slice A84 y83.length c85), (15, int .i64 y90), (17, int .i64 v132), (18, int .i64 y213), (19, int .i64 y214), (20, bool v255)] r ∧ Hp G256 (bx g29 [int .i64 a10.Before, int .i64 a10.Behind, slice A11 a10.Keep.length c12] 28 :: bx g25 [slice A2 a1.Glyphs.length c3, slice A6 a1.Kerns.length c7] 25 :: tk (slice A84 y83.length c85) 2 51 :: tk (slice A69 y68.length c70) 4 31 :: L) w ∧ True) ?_ ?_
 clear H
 refine wpc_loop fun I hLp => ?_
 refine formelaw17_InlineAll_l254.partial_correctness y68 y83 v132 (fun v246 v247 o => ∀ (G261 : Gh) (r : Rg) (w : World), G225 ≤ G261 → Has [(2, string a15), (11, bool y39), (12, slice A69 y68.length c70), (14, slice A84 y83.length c85), (15, int .i64 y90), (17, int .i64 v132), (18, int .i64 y213), (19, int .i64 y214), (20, bool v246), (21, int .i64 v247)] r → Hp G261 (bx g29 [int .i64 a10.Before, int .i64 a10.Behind, slice A11 a10.Keep.length c12] 28 :: bx g25 [slice A2 a1.Glyphs.length c3, slice A6 a1.Kerns.length c7] 25 :: tk (slice A84 y83.length c85) 2 51 :: tk (slice A69 y68.length c70) 4 31 :: L) w → o = v255 → I r [] w) ?_ v224 0 _ hC _ _ _ gR ⟨rfl, rfl, rfl, rfl, rfl, rfl, rfl, rfl, rfl, rfl, trivial⟩ hI228 rfl
 intro _ ih v246 v247 o H G261 r wd263 hG262 hHas hI264 ho
 rw [ho] at H; clear ho
 rw [hHas.eq]; clear hHas
 refine hLp _ _ _ ?_
 refine sQ fun K265 hK266 => ?_
 refine sr fun K267 hK268 => ?_
 refine q_mv (v := int .i64 v247) rfl ?_
 refine q_mv (v := slice A84 y83.length c85) rfl ?_
 refine q_len so45 rfl ?_
 refine q_lss rfl rfl ?_
 refine nl ?_
 refine hK268 _ _ _ ?_
 by_cases h269 : v247 < (y83.length : Int)
 replace H := iY h269 H
 refine wpc_true (bool_yes h269) ?_
 refine wpc_skip ?_
 refine hK266 _ _ _ ?_
 refine sQ fun K270 hK271 => ?_
 refine wpc_block ?_
 obtain ⟨v272, hC, H⟩ := bS H
 refine wpc_mono (Q := fun e r ds w => e = .normal ∧ ∃ (G273 : Gh), ds = [] ∧ G261 ≤ G273 ∧ Has [(2, string a15), (11, bool y39), (12, slice A69 y68.length c70), (14, slice A84 y83.length c85), (15, int .i64 y90), (17, int .i64 v132), (18, int .i64 y213), (19, int .i64 y214), (20, bool v272), (21, int .i64 v247)] r ∧ Hp G273 (bx g29 [int .i64 a10.Before, int .i64 a10.Behind, slice A11 a10.Keep.length c12] 28 :: bx g25 [slice A2 a1.Glyphs.length c3, slice A6 a1.Kerns.length c7] 25 :: tk (slice A84 y83.length c85) 2 51 :: tk (slice A69 y68.length c70) 4 31 :: L) w ∧ True) ?_ ?_
 replace H := hC
 refine wpc_quiet mixo (by kernel_rfl) ?_
 have hI278 := hI264.drew
 refine wq (q_mv (v := bool v246) rfl wqd) rfl ?_
 refine wq (q_mv (v := bool v246) rfl wqd) rfl ?_
 by_cases h279 : v246 = true
 replace H := iY h279 H
 refine wq (wN (gN rfl rfl rfl (bval_yes h279) rfl) wqd) rfl ?_
 refine wq (wN (gN rfl rfl rfl (bval_yes h279) rfl) wqd) rfl ?_
 refine wq (wN (gN rfl rfl rfl (bval_yes h279) rfl) wqd) rfl ?_
 refine wq (wN (gN rfl rfl rfl (bval_yes h279) rfl) wqd) rfl ?_
 refine wq (wN (gN rfl rfl rfl (bval_yes h279) rfl) wqd) rfl ?_
 refine wq (wN (gN rfl rfl rfl (bval_yes h279) rfl) wqd) rfl ?_
 refine wq (wN (gN rfl rfl rfl (bval_yes h279) rfl) wqd) rfl ?_
 refine wq (wN (gN rfl rfl rfl (bval_yes h279) rfl) wqd) rfl ?_
 refine wq (wN (gN rfl rfl rfl (bval_yes h279) rfl) wqd) rfl ?_
 refine wq (wN (gN rfl rfl rfl (bval_yes h279) rfl) wqd) rfl ?_
 refine wq (wN (gN rfl rfl rfl (bval_yes h279) rfl) wqd) rfl ?_
 refine wq (wN (gN rfl rfl rfl (bval_yes h279) rfl) wqd) rfl ?_
 refine wq (wN (gN rfl rfl rfl rfl rfl) wqd) rfl ?_
 refine wq (wN (gN rfl rfl rfl rfl rfl) wqd) rfl ?_
 refine wq (wN (gN rfl rfl rfl rfl rfl) wqd) rfl ?_
 refine wq (wN (gN rfl rfl rfl rfl rfl) wqd) rfl ?_
 refine wq (wN (gN rfl rfl rfl rfl rfl) wqd) rfl ?_
 refine wq (wN (gN rfl rfl rfl rfl rfl) wqd) rfl ?_
 refine wq (wN (gN rfl rfl rfl rfl rfl) wqd) rfl ?_
 refine wq (wN (gN rfl rfl rfl rfl rfl) wqd) rfl ?_
 refine wq (wN (gN rfl rfl rfl rfl rfl) wqd) rfl ?_
 refine wq (wN (gN rfl rfl rfl rfl rfl) wqd) rfl ?_
 refine wq (wN (gN rfl rfl rfl rfl rfl) wqd) rfl ?_
 refine wq (wN (gN rfl rfl rfl (bval_yes h279) rfl) wqd) rfl ?_
 refine wq (q_pick true (v := bool true) (bval_yes h279) rfl wqd) rfl ?_
 refine wq (q_as (v := bool true) rfl wqd) rfl ?_
 refine wqq_nil ?_
 cases H
 exact ⟨rfl, _, rfl, gR, ⟨rfl, rfl, rfl, rfl, rfl, rfl, rfl, rfl, rfl, rfl, trivial⟩, hI278, trivial⟩
 replace H := iN h279 H
 refine wq (q_mv (v := slice A84 y83.length c85) rfl wqd (hw := gY rfl rfl rfl (bval_no h279))) rfl ?_
 refine wq (q_mv (v := int .i64 v247) rfl wqd (hw := gY rfl rfl rfl (bval_no h279))) rfl ?_
 obtain ⟨⟨h280, h280'⟩, H⟩ := iS H
 obtain ⟨ad281, cs282, hA283, hK284, hn285, hc286⟩ := Dat.get (Dat.mono (gT (gT (gT (gT (gT hG151 hG174) hG188) hG210) hG226) hG262) hD87) z_api_Break (v247) h280 h280'
 obtain ⟨rfl⟩ := open_api_Break hK284
 refine wq (q_ia el45 rfl hA283 rfl h280 h280' wqd (hw := gY rfl rfl rfl (bval_no h279))) rfl ?_
 refine wq (q_fa (a' := (ad281.add (Int.toNat v247 * 2)).add 0) fl51_0 rfl rfl wqd (hw := gY rfl rfl rfl (bval_no h279))) rfl ?_
 refine wq (q_lf hI278 (v := int .i64 ((y83.getD (Int.toNat v247) z_api_Break).At)) ag3 rfl (gR.cel _ _ (hc286 0 _ rfl)) wqd (hw := gY rfl rfl rfl (bval_no h279))) rfl ?_
 refine wq (q_mv (v := slice A69 y68.length c70) rfl wqd (hw := gY rfl rfl rfl (bval_no h279))) rfl ?_
 refine wq (q_mv (v := int .i64 v132) rfl wqd (hw := gY rfl rfl rfl (bval_no h279))) rfl ?_
 obtain ⟨⟨h287, h287'⟩, H⟩ := iS H
 obtain ⟨ad288, cs289, hA290, hK291, hn292, hc293⟩ := Dat.get (Dat.mono (gT (gT (gT (gT (gT (gT hG80 hG151) hG174) hG188) hG210) hG226) hG262) hD72) z_api_Line (v132) h287 h287'
 obtain ⟨rfl⟩ := open_api_Line hK291
 refine wq (q_ia el37 rfl hA290 rfl h287 h287' wqd (hw := gY rfl rfl rfl (bval_no h279))) rfl ?_
 refine wq (q_fa (a' := (ad288.add (Int.toNat v132 * 4)).add 1) fl31_1 rfl rfl wqd (hw := gY rfl rfl rfl (bval_no h279))) rfl ?_
 refine wq (q_lf hI278 (v := int .i64 ((y68.getD (Int.toNat v132) z_api_Line).Until)) ag3 rfl (gR.cel _ _ (hc293 1 _ rfl)) wqd (hw := gY rfl rfl rfl (bval_no h279))) rfl ?_
 refine wq (q_eql rfl rfl wqd (hw := gY rfl rfl rfl (bval_no h279))) rfl ?_
 refine wq (q_mv (v := bool (decide (((y83.getD (Int.toNat v247) z_api_Break).At) = ((y68.getD (Int.toNat v132) z_api_Line).Until)))) rfl wqd (hw := gY rfl rfl rfl (bval_no h279))) rfl ?_
 by_cases h294 : ((y83.getD (Int.toNat v247) z_api_Break).At) = ((y68.getD (Int.toNat v132) z_api_Line).Until)
 replace H := iY h294 H
 refine wq (q_mv (v := slice A84 y83.length c85) rfl wqd (hw := gY rfl rfl rfl (bool_yes h294))) rfl ?_
 refine wq (q_mv (v := int .i64 v247) rfl wqd (hw := gY rfl rfl rfl (bool_yes h294))) rfl ?_
 obtain ⟨⟨h295, h295'⟩, H⟩ := iS H
 obtain ⟨ad296, cs297, hA298, hK299, hn300, hc301⟩ := Dat.get (Dat.mono (gT (gT (gT (gT (gT hG151 hG174) hG188) hG210) hG226) hG262) hD87) z_api_Break (v247) h295 h295'
 obtain ⟨rfl⟩ := open_api_Break hK299
 refine wq (q_ia el45 rfl hA298 rfl h295 h295' wqd (hw := gY rfl rfl rfl (bool_yes h294))) rfl ?_
 refine wq (q_fa (a' := (ad296.add (Int.toNat v247 * 2)).add 1) fl51_1 rfl rfl wqd (hw := gY rfl rfl rfl (bool_yes h294))) rfl ?_
 refine wq (q_lf hI278 (v := bool ((y83.getD (Int.toNat v247) z_api_Break).Hyphen)) ag4 rfl (gR.cel _ _ (hc301 1 _ rfl)) wqd (hw := gY rfl rfl rfl (bool_yes h294))) rfl ?_
 refine wq (q_mv (v := slice A69 y68.length c70) rfl wqd (hw := gY rfl rfl rfl (bool_yes h294))) rfl ?_
 refine wq (q_mv (v := int .i64 v132) rfl wqd (hw := gY rfl rfl rfl (bool_yes h294))) rfl ?_
 obtain ⟨⟨h302, h302'⟩, H⟩ := iS H
 obtain ⟨ad303, cs304, hA305, hK306, hn307, hc308⟩ := Dat.get (Dat.mono (gT (gT (gT (gT (gT (gT hG80 hG151) hG174) hG188) hG210) hG226) hG262) hD72) z_api_Line (v132) h302 h302'
 obtain ⟨rfl⟩ := open_api_Line hK306
 refine wq (q_ia el37 rfl hA305 rfl h302 h302' wqd (hw := gY rfl rfl rfl (bool_yes h294))) rfl ?_
 refine wq (q_fa (a' := (ad303.add (Int.toNat v132 * 4)).add 3) fl31_3 rfl rfl wqd (hw := gY rfl rfl rfl (bool_yes h294))) rfl ?_
 refine wq (q_lf hI278 (v := bool ((y68.getD (Int.toNat v132) z_api_Line).Hyphen)) ag4 rfl (gR.cel _ _ (hc308 3 _ rfl)) wqd (hw := gY rfl rfl rfl (bool_yes h294))) rfl ?_
 refine wq (q_bool_eql rfl rfl so4 wqd (hw := gY rfl rfl rfl (bool_yes h294))) rfl ?_
 refine wq (q_pick true (v := bool (decide (((y83.getD (Int.toNat v247) z_api_Break).Hyphen) = ((y68.getD (Int.toNat v132) z_api_Line).Hyphen)))) (bool_yes h294) rfl wqd (hw := gY rfl rfl rfl (bval_no h279))) rfl ?_
 refine wq (q_pick false (v := bool (decide (((y83.getD (Int.toNat v247) z_api_Break).Hyphen) = ((y68.getD (Int.toNat v132) z_api_Line).Hyphen)))) (bval_no h279) rfl wqd) rfl ?_
 refine wq (q_as (v := bool (decide (((y83.getD (Int.toNat v247) z_api_Break).Hyphen) = ((y68.getD (Int.toNat v132) z_api_Line).Hyphen)))) rfl wqd) rfl ?_
 refine wqq_nil ?_
 cases H
 exact ⟨rfl, _, rfl, gR, ⟨rfl, rfl, rfl, rfl, rfl, rfl, rfl, rfl, rfl, rfl, trivial⟩, hI278, trivial⟩
 replace H := iN h294 H
 refine wq (wN (gN rfl rfl rfl (bool_no h294) rfl) wqd) rfl ?_
 refine wq (wN (gN rfl rfl rfl (bool_no h294) rfl) wqd) rfl ?_
 refine wq (wN (gN rfl rfl rfl (bool_no h294) rfl) wqd) rfl ?_
 refine wq (wN (gN rfl rfl rfl (bool_no h294) rfl) wqd) rfl ?_
 refine wq (wN (gN rfl rfl rfl (bool_no h294) rfl) wqd) rfl ?_
 refine wq (wN (gN rfl rfl rfl (bool_no h294) rfl) wqd) rfl ?_
 refine wq (wN (gN rfl rfl rfl (bool_no h294) rfl) wqd) rfl ?_
 refine wq (wN (gN rfl rfl rfl (bool_no h294) rfl) wqd) rfl ?_
 refine wq (wN (gN rfl rfl rfl (bool_no h294) rfl) wqd) rfl ?_
 refine wq (wN (gN rfl rfl rfl (bool_no h294) rfl) wqd) rfl ?_
 refine wq (wN (gN rfl rfl rfl (bool_no h294) rfl) wqd) rfl ?_
 refine wq (q_pick false (v := bool false) (bool_no h294) rfl wqd (hw := gY rfl rfl rfl (bval_no h279))) rfl ?_
 refine wq (q_pick false (v := bool false) (bval_no h279) rfl wqd) rfl ?_
 refine wq (q_as (v := bool false) rfl wqd) rfl ?_
 refine wqq_nil ?_
 cases H
 exact ⟨rfl, _, rfl, gR, ⟨rfl, rfl, rfl, rfl, rfl, rfl, rfl, rfl, rfl, rfl, trivial⟩, hI278, trivial⟩
 clear hC
 rintro e r ds wd275 ⟨rfl, G273, rfl, hG274, hHas, hI276, _⟩
 rw [hHas.eq]; clear hHas
 refine hK271 _ _ _ ?_
 refine wpc_region ?_
 refine q_mv (v := int .i64 v247) rfl ?_
 refine q_add rfl rfl ?_
 refine q_as (v := int .i64 (w64 (v247 + 1))) rfl ?_
 refine nl ?_
 exact ih _ _ _ H _ _ _ (gT hG262 hG274) ⟨rfl, rfl, rfl, rfl, rfl, rfl, rfl, rfl, rfl, rfl, trivial⟩ hI276 rfl
 replace H := iN h269 H
 refine wpc_false (bool_no h269) ?_
 refine wpc_exit ?_
 cases H
 exact ⟨rfl, _, rfl, hG262, ⟨rfl, rfl, rfl, rfl, rfl, rfl, rfl, rfl, rfl, trivial⟩, hI264, trivial⟩
 clear hC
 rintro e r ds wd258 ⟨rfl, G256, rfl, hG257, hHas, hI259, _⟩
 rw [hHas.eq]; clear hHas
 refine hK239 _ _ _ ?_
 refine sQ fun K309 hK310 => ?_
 refine sr fun K311 hK312 => ?_
 refine q_mv (v := int .i64 y214) rfl ?_
 refine q_neq rfl rfl ?_
 refine q_mv (v := bool (decide (¬ y214 = 0))) rfl ?_
 obtain ⟨v313, hC, H⟩ := bS H
 refine wpq_split 3 (K := fun e r ds w => e = .normal ∧ ∃ (G314 : Gh), ds = [] ∧ G256 ≤ G314 ∧ Has [(2, string a15), (11, bool y39), (12, slice A69 y68.length c70), (14, slice A84 y83.length c85), (15, int .i64 y90), (17, int .i64 v132), (20, bool v255), (157, bool v313)] r ∧ Hp G314 (bx g29 [int .i64 a10.Before, int .i64 a10.Behind, slice A11 a10.Keep.length c12] 28 :: bx g25 [slice A2 a1.Glyphs.length c3, slice A6 a1.Kerns.length c7] 25 :: tk (slice A84 y83.length c85) 2 51 :: tk (slice A69 y68.length c70) 4 31 :: L) w ∧ True) ?_ ?_
 replace H := hC
 by_cases h319 : ¬ y214 = 0
 replace H := iY h319 H
 refine wN (gN rfl rfl rfl (bool_yes h319) rfl) ?_
 refine wN (gN rfl rfl rfl (bool_yes h319) rfl) ?_
 refine q_pick true (v := bool true) (bool_yes h319) rfl ?_
 refine nl ?_
 cases H
 exact ⟨rfl, _, rfl, gR, ⟨rfl, rfl, rfl, rfl, rfl, rfl, rfl, rfl, trivial⟩, hI259, trivial⟩
 replace H := iN h319 H
 refine q_mv (v := int .i64 y213) rfl ?_ (hw := gY rfl rfl rfl (bool_no h319))
 refine q_eql rfl rfl ?_ (hw := gY rfl rfl rfl (bool_no h319))
 refine q_pick false (v := bool (decide (y213 = 0))) (bool_no h319) rfl ?_
 refine nl ?_
 cases H
 exact ⟨rfl, _, rfl, gR, ⟨rfl, rfl, rfl, rfl, rfl, rfl, rfl, rfl, trivial⟩, hI259, trivial⟩
 clear hC
 rintro e r ds wd316 ⟨rfl, G314, rfl, hG315, hHas, hI317, _⟩
 rw [hHas.eq]; clear hHas
 refine q_mv (v := bool v313) rfl ?_
 obtain ⟨v320, hC, H⟩ := bS H
 refine wpq_split 3 (K := fun e r ds w => e = .normal ∧ ∃ (G321 : Gh), ds = [] ∧ G314 ≤ G321 ∧ Has [(2, string a15), (11, bool y39), (12, slice A69 y68.length c70), (14, slice A84 y83.length c85), (15, int .i64 y90), (17, int .i64 v132), (161, bool v320)] r ∧ Hp G321 (bx g29 [int .i64 a10.Before, int .i64 a10.Behind, slice A11 a10.Keep.length c12] 28 :: bx g25 [slice A2 a1.Glyphs.length c3, slice A6 a1.Kerns.length c7] 25 :: tk (slice A84 y83.length c85) 2 51 :: tk (slice A69 y68.length c70) 4 31 :: L) w ∧ True) ?_ ?_
 replace H := hC
 by_cases h326 : v313 = true
 replace H := iY h326 H
 refine wN (gN rfl rfl rfl (bval_yes h326) rfl) ?_
 refine wN (gN rfl rfl rfl (bval_yes h326) rfl) ?_
 refine q_pick true (v := bool true) (bval_yes h326) rfl ?_
 refine nl ?_
 cases H
 exact ⟨rfl, _, rfl, gR, ⟨rfl, rfl, rfl, rfl, rfl, rfl, rfl, trivial⟩, hI317, trivial⟩
 replace H := iN h326 H
 refine q_mv (v := bool v255) rfl ?_ (hw := gY rfl rfl rfl (bval_no h326))
 refine q_not rfl ?_ (hw := gY rfl rfl rfl (bval_no h326))
 refine q_pick false (v := bool (!v255)) (bval_no h326) rfl ?_
 refine nl ?_
 cases H
 exact ⟨rfl, _, rfl, gR, ⟨rfl, rfl, rfl, rfl, rfl, rfl, rfl, trivial⟩, hI317, trivial⟩
 clear hC
 rintro e r ds wd323 ⟨rfl, G321, rfl, hG322, hHas, hI324, _⟩
 rw [hHas.eq]; clear hHas
 refine nl ?_
 refine hK312 _ _ _ ?_
 by_cases h327 : v320 = true
 replace H := iY h327 H
 refine wpc_true (bval_yes h327) ?_
 refine sr fun K328 hK329 => ?_
 refine q_as (v := bool false) rfl ?_
 refine nl ?_
 refine hK329 _ _ _ ?_
 refine wpc_ret ?_
 cases H
 exact ⟨rfl, _, rfl, (gT (gT (gT (gT (gT (gT (gT hG151 hG174) hG188) hG210) hG226) hG257) hG315) hG322), ⟨rfl, trivial⟩, hI324, trivial⟩
 replace H := iN h327 H
 refine wpc_false (bval_no h327) ?_
 refine wpc_skip ?_
 refine hK310 _ _ _ ?_
 refine wpc_region ?_
 refine q_mv (v := slice A69 y68.length c70) rfl ?_
 refine q_mv (v := int .i64 v132) rfl ?_
 obtain ⟨⟨h330, h330'⟩, H⟩ := iS H
 obtain ⟨ad331, cs332, hA333, hK334, hn335, hc336⟩ := Dat.get (Dat.mono (gT (gT (gT (gT (gT (gT (gT (gT hG80 hG151) hG174) hG188) hG210) hG226) hG257) hG315) hG322) hD72) z_api_Line (v132) h330 h330'
 obtain ⟨rfl⟩ := open_api_Line hK334
 refine q_ia el37 rfl hA333 rfl h330 h330' ?_
 refine q_fa (a' := (ad331.add (Int.toNat v132 * 4)).add 1) fl31_1 rfl rfl ?_
 refine q_lf hI324 (v := int .i64 ((y68.getD (Int.toNat v132) z_api_Line).Until)) ag3 rfl (gR.cel _ _ (hc336 1 _ rfl)) ?_
 refine q_as (v := int .i64 ((y68.getD (Int.toNat v132) z_api_Line).Until)) rfl ?_
 refine nl ?_
 refine hK160 _ _ _ ?_
 refine wpc_region ?_
 refine q_mv (v := int .i64 v132) rfl ?_
 refine q_add rfl rfl ?_
 refine q_as (v := int .i64 (w64 (v132 + 1))) rfl ?_
 refine nl ?_
 exact ih _ _ _ H _ _ _ (gT (gT (gT (gT (gT (gT (gT hG151 hG174) hG188) hG210) hG226) hG257) hG315) hG322) ⟨rfl, rfl, rfl, rfl, rfl, rfl, rfl, trivial⟩ hI324 rfl
 replace H := iN h158 H
 refine wpc_false (bool_no h158) ?_
 refine wpc_exit ?_
 cases H
 exact ⟨rfl, _, rfl, hG151, ⟨rfl, rfl, rfl, rfl, trivial⟩, hI153, trivial⟩
 clear hC
 rcases o149 with _ | v140
 rintro e r ds wd143 ⟨rfl, G141, rfl, hG142, hHas, hI144, _⟩
 rw [hHas.eq]; clear hHas
 have hI341 := Hp.sub hI144 (sd (sd (sd (sd se))))
 cases H
 exact ⟨.inr rfl, rfl, _, ⟨_, _, rfl, rfl, rfl⟩, _, (gT (gT (gT (gT (gT hG36 hG46) hG52) hG65) hG80) hG142), hI341, rfl⟩
 rintro e r ds wd147 ⟨rfl, G145, rfl, hG146, hHas, hI148, _⟩
 rw [hHas.eq]; clear hHas
 refine hK124 _ _ _ ?_
 refine sr fun K342 hK343 => ?_
 refine q_mv (v := string a15) rfl ?_
 refine q_mv (v := int .i64 v140) rfl ?_
 obtain ⟨⟨h344, h345⟩, H⟩ := iS H
 refine q_ss (l := v140) (h := (a15.size : Int)) so9 rfl (.inr ⟨_, rfl, rfl⟩) (.inl ⟨rfl, rfl⟩) h344 h345 (Int.le_refl _) ?_
 obtain ⟨⟨y352, y353⟩, hy347, H⟩ := bS H
 refine q_cv (vs := [string (sub a15 v140 (a15.size : Int))]) bo20 rfl rfl (text_Words_spec (a1 := sub a15 v140 (a15.size : Int)) hI148 hy347) ?_
 rintro _ wd350 ⟨G348, hG349, hI351, rfl⟩
 refine ⟨_, rfl, ?_⟩
 refine q_mv (v := tuple [int .i64 y352, int .i64 y353].toArray) rfl ?_
 refine q_ex (v := int .i64 y352) rfl rfl ?_
 refine q_ex (v := int .i64 y353) rfl rfl ?_
 refine q_as (v := int .i64 y352) rfl ?_
 refine q_as (v := int .i64 y353) rfl ?_
 refine nl ?_
 refine hK343 _ _ _ ?_
 refine sr fun K354 hK355 => ?_
 refine q_mv (v := bool y39) rfl ?_
 refine q_mv (v := bool y39) rfl ?_
 obtain ⟨v356, hC, H⟩ := bS H
 refine wpq_split 3 (K := fun e r ds w => e = .normal ∧ ∃ (G357 : Gh), ds = [] ∧ G348 ≤ G357 ∧ Has [(22, int .i64 y352), (23, int .i64 y353), (178, bool v356)] r ∧ Hp G357 (bx g29 [int .i64 a10.Before, int .i64 a10.Behind, slice A11 a10.Keep.length c12] 28 :: bx g25 [slice A2 a1.Glyphs.length c3, slice A6 a1.Kerns.length c7] 25 :: tk (slice A84 y83.length c85) 2 51 :: tk (slice A69 y68.length c70) 4 31 :: L) w ∧ True) ?_ ?_
 replace H := hC
 by_cases h362 : y39 = true
 replace H := iY h362 H
 refine q_mv (v := int .i64 y90) rfl ?_ (hw := gY rfl rfl rfl (bval_yes h362))
 refine q_eql rfl rfl ?_ (hw := gY rfl rfl rfl (bval_yes h362))
 refine q_pick true (v := bool (decide (y90 = 0))) (bval_yes h362) rfl ?_
 refine nl ?_
 cases H
 exact ⟨rfl, _, rfl, gR, ⟨rfl, rfl, rfl, trivial⟩, hI351, trivial⟩
 replace H := iN h362 H
 refine wN (gN rfl rfl rfl (bval_no h362) rfl) ?_
 refine wN (gN rfl rfl rfl (bval_no h362) rfl) ?_
 refine q_pick false (v := bool false) (bval_no h362) rfl ?_
 refine nl ?_
 cases H
 exact ⟨rfl, _, rfl, gR, ⟨rfl, rfl, rfl, trivial⟩, hI351, trivial⟩
 clear hC
 rintro e r ds wd359 ⟨rfl, G357, rfl, hG358, hHas, hI360, _⟩
 rw [hHas.eq]; clear hHas
 refine q_mv (v := bool v356) rfl ?_
 obtain ⟨v363, hC, H⟩ := bS H
 refine wpq_split 3 (K := fun e r ds w => e = .normal ∧ ∃ (G364 : Gh), ds = [] ∧ G357 ≤ G364 ∧ Has [(22, int .i64 y352), (182, bool v363)] r ∧ Hp G364 (bx g29 [int .i64 a10.Before, int .i64 a10.Behind, slice A11 a10.Keep.length c12] 28 :: bx g25 [slice A2 a1.Glyphs.length c3, slice A6 a1.Kerns.length c7] 25 :: tk (slice A84 y83.length c85) 2 51 :: tk (slice A69 y68.length c70) 4 31 :: L) w ∧ True) ?_ ?_
 replace H := hC
 by_cases h369 : v356 = true
 replace H := iY h369 H
 refine q_mv (v := int .i64 y353) rfl ?_ (hw := gY rfl rfl rfl (bval_yes h369))
 refine q_eql rfl rfl ?_ (hw := gY rfl rfl rfl (bval_yes h369))
 refine q_pick true (v := bool (decide (y353 = 0))) (bval_yes h369) rfl ?_
 refine nl ?_
 cases H
 exact ⟨rfl, _, rfl, gR, ⟨rfl, rfl, trivial⟩, hI360, trivial⟩
 replace H := iN h369 H
 refine wN (gN rfl rfl rfl (bval_no h369) rfl) ?_
 refine wN (gN rfl rfl rfl (bval_no h369) rfl) ?_
 refine q_pick false (v := bool false) (bval_no h369) rfl ?_
 refine nl ?_
 cases H
 exact ⟨rfl, _, rfl, gR, ⟨rfl, rfl, trivial⟩, hI360, trivial⟩
 clear hC
 rintro e r ds wd366 ⟨rfl, G364, rfl, hG365, hHas, hI367, _⟩
 rw [hHas.eq]; clear hHas
 refine q_mv (v := bool v363) rfl ?_
 obtain ⟨v370, hC, H⟩ := bS H
 refine wpq_split 3 (K := fun e r ds w => e = .normal ∧ ∃ (G371 : Gh), ds = [] ∧ G364 ≤ G371 ∧ Has [(186, bool v370)] r ∧ Hp G371 (bx g29 [int .i64 a10.Before, int .i64 a10.Behind, slice A11 a10.Keep.length c12] 28 :: bx g25 [slice A2 a1.Glyphs.length c3, slice A6 a1.Kerns.length c7] 25 :: tk (slice A84 y83.length c85) 2 51 :: tk (slice A69 y68.length c70) 4 31 :: L) w ∧ True) ?_ ?_
 replace H := hC
 by_cases h376 : v363 = true
 replace H := iY h376 H
 refine q_mv (v := int .i64 y352) rfl ?_ (hw := gY rfl rfl rfl (bval_yes h376))
 refine q_eql rfl rfl ?_ (hw := gY rfl rfl rfl (bval_yes h376))
 refine q_pick true (v := bool (decide (y352 = 0))) (bval_yes h376) rfl ?_
 refine nl ?_
 cases H
 exact ⟨rfl, _, rfl, gR, ⟨rfl, trivial⟩, hI367, trivial⟩
 replace H := iN h376 H
 refine wN (gN rfl rfl rfl (bval_no h376) rfl) ?_
 refine wN (gN rfl rfl rfl (bval_no h376) rfl) ?_
 refine q_pick false (v := bool false) (bval_no h376) rfl ?_
 refine nl ?_
 cases H
 exact ⟨rfl, _, rfl, gR, ⟨rfl, trivial⟩, hI367, trivial⟩
 clear hC
 rintro e r ds wd373 ⟨rfl, G371, rfl, hG372, hHas, hI374, _⟩
 rw [hHas.eq]; clear hHas
 refine q_as (v := bool v370) rfl ?_
 refine nl ?_
 refine hK355 _ _ _ ?_
 refine wpc_ret ?_
 have hI377 := Hp.sub hI374 (sd (sd (sd (sd se))))
 cases H
 exact ⟨.inr rfl, rfl, _, ⟨_, _, rfl, rfl, rfl⟩, _, (gT (gT (gT (gT (gT (gT (gT (gT (gT hG36 hG46) hG52) hG65) hG80) hG146) hG349) hG358) hG365) hG372), hI377, rfl⟩
end Go.Proofs.YtokeiiakkfdmgaaGreatDoor.LG
