/-
  The walks: each function computes its plain function: printed by a program out of the translation.
-/
import Derived.Test.YtokeiiakkfdmgaaGreatDoorSf
set_option linter.unusedVariables false
set_option linter.unusedSimpArgs false
set_option maxRecDepth 100000
namespace Go.Proofs.YtokeiiakkfdmgaaGreatDoor.LG
open Go Go.LG Go.RowKit Go.Value
open Go.Lib Go.Shelf Go.Proofs
set_option maxHeartbeats 1000000 in
theorem formelaw17_InlineWider_spec {a1 : api_Font} {a10 : api_Breaks} {a15 : ByteArray} {a16 : Int} {a17 : Int} {a18 : Int} {a19 : Int} {A2 : Option Addr} {c3 : Nat} {A6 : Option Addr} {c7 : Nat} {A11 : Option Addr} {c12 : Nat} {r1141 : Bool} {G : Gh} {L : List Itm} {w : World} (hI : Hp G (L) w) (hl4 : a1.Glyphs.length ≤ c3) (hD5 : Dat k_api_Glyph G A2 a1.Glyphs) (hl8 : a1.Kerns.length ≤ c7) (hD9 : Dat k_api_Kern G A6 a1.Kerns) (hl13 : a10.Keep.length ≤ c12) (hD14 : Dat Kd.str G A11 a10.Keep) (hgl : Gl G) (H : formelaw17_InlineWider a1 a10 a15 a16 a17 a18 a19 = some r1141) :
    Calls Tryz.prog 6 [agg [slice A2 a1.Glyphs.length c3, slice A6 a1.Kerns.length c7].toArray, agg [int .i64 a10.Before, int .i64 a10.Behind, slice A11 a10.Keep.length c12].toArray, string a15, int .i64 a16, int .i64 a17, int .i64 a18, int .u32 a19].toArray w fun e w' => ∃ (G' : Gh), G ≤ G' ∧ Hp G' (L) w' ∧ e = .returned (bool r1141) := by
 refine calls_intro (N := 95) Tryz.func6 rfl rfl (Nat.le_of_ble_eq_true rfl) ?_
 unfold formelaw17_InlineWider at H
 refine sr fun K20 hK21 => ?_
 refine q_box hI (v := agg [slice A2 a1.Glyphs.length c3, slice A6 a1.Kerns.length c7].toArray) (vs := [slice A2 a1.Glyphs.length c3, slice A6 a1.Kerns.length c7]) rfl rfl (fun g23 wd24 hI25 => ?_)
 refine q_box hI25 (v := agg [int .i64 a10.Before, int .i64 a10.Behind, slice A11 a10.Keep.length c12].toArray) (vs := [int .i64 a10.Before, int .i64 a10.Behind, slice A11 a10.Keep.length c12]) rfl rfl (fun g27 wd28 hI29 => ?_)
 refine q_as (v := bool false) rfl ?_
 refine nl ?_
 refine hK21 _ _ _ ?_
 refine sr fun K30 hK31 => ?_
 obtain ⟨y37, hy32, H⟩ := bS H
 refine q_cv (vs := []) bo9 rfl rfl (formelaw17_head_spec hI29 (hgl.mono gR) hy32) ?_
 rintro _ wd35 ⟨G33, hG34, hI36, rfl⟩
 refine ⟨_, rfl, ?_⟩
 refine q_as (v := bool y37) rfl ?_
 refine nl ?_
 refine hK31 _ _ _ ?_
 refine sQ fun K38 hK39 => ?_
 refine sr fun K40 hK41 => ?_
 refine q_ldA hI36 1 (cs := [slice A2 a1.Glyphs.length c3, slice A6 a1.Kerns.length c7]) ag25 rfl rfl rfl rfl ?_
 refine q_ldA hI36 0 (cs := [int .i64 a10.Before, int .i64 a10.Behind, slice A11 a10.Keep.length c12]) ag28 rfl rfl rfl rfl ?_
 refine q_mv (v := string a15) rfl ?_
 refine q_mv (v := int .i64 a17) rfl ?_
 obtain ⟨y47, hy42, H⟩ := bS H
 refine q_cv (vs := [agg [slice A2 a1.Glyphs.length c3, slice A6 a1.Kerns.length c7].toArray, agg [int .i64 a10.Before, int .i64 a10.Behind, slice A11 a10.Keep.length c12].toArray, string a15, int .i64 a17]) bo18 rfl rfl (formelaw17_usable_spec (a1 := a1) (a10 := a10) (a15 := a15) (a16 := a17) hI36 hl4 (Dat.mono hG34 hD5) hl8 (Dat.mono hG34 hD9) hl13 (Dat.mono hG34 hD14) hy42) ?_
 rintro _ wd45 ⟨G43, hG44, hI46, rfl⟩
 refine ⟨_, rfl, ?_⟩
 refine q_not rfl ?_
 refine q_mv (v := bool (!y47)) rfl ?_
 obtain ⟨v48, hC, H⟩ := bS H
 refine wpq_split 3 (K := fun e r ds w => e = .normal ∧ ∃ (G49 : Gh), ds = [] ∧ G43 ≤ G49 ∧ Has [(2, string a15), (3, int .i64 a16), (4, int .i64 a17), (5, int .i64 a18), (6, int .u32 a19), (7, pointer (some ⟨g23, 0, none⟩)), (8, pointer (some ⟨g27, 0, none⟩)), (15, bool y37), (30, bool v48)] r ∧ Hp G49 (bx g27 [int .i64 a10.Before, int .i64 a10.Behind, slice A11 a10.Keep.length c12] 28 :: bx g23 [slice A2 a1.Glyphs.length c3, slice A6 a1.Kerns.length c7] 25 :: L) w ∧ True) ?_ ?_
 replace H := hC
 by_cases h54 : (!y47) = true
 replace H := iY h54 H
 refine wN (gN rfl rfl rfl (bval_yes h54) rfl) ?_
 refine wN (gN rfl rfl rfl (bval_yes h54) rfl) ?_
 refine q_pick true (v := bool true) (bval_yes h54) rfl ?_
 refine nl ?_
 cases H
 exact ⟨rfl, _, rfl, gR, ⟨rfl, rfl, rfl, rfl, rfl, rfl, rfl, rfl, rfl, trivial⟩, hI46, trivial⟩
 replace H := iN h54 H
 refine q_mv (v := int .i64 a18) rfl ?_ (hw := gY rfl rfl rfl (bval_no h54))
 refine q_lss rfl rfl ?_ (hw := gY rfl rfl rfl (bval_no h54))
 refine q_pick false (v := bool (decide (a18 < 0))) (bval_no h54) rfl ?_
 refine nl ?_
 cases H
 exact ⟨rfl, _, rfl, gR, ⟨rfl, rfl, rfl, rfl, rfl, rfl, rfl, rfl, rfl, trivial⟩, hI46, trivial⟩
 clear hC
 rintro e r ds wd51 ⟨rfl, G49, rfl, hG50, hHas, hI52, _⟩
 rw [hHas.eq]; clear hHas
 refine q_mv (v := bool v48) rfl ?_
 obtain ⟨v55, hC, H⟩ := bS H
 refine wpq_split 3 (K := fun e r ds w => e = .normal ∧ ∃ (G56 : Gh), ds = [] ∧ G49 ≤ G56 ∧ Has [(2, string a15), (3, int .i64 a16), (4, int .i64 a17), (5, int .i64 a18), (6, int .u32 a19), (7, pointer (some ⟨g23, 0, none⟩)), (8, pointer (some ⟨g27, 0, none⟩)), (15, bool y37), (34, bool v55)] r ∧ Hp G56 (bx g27 [int .i64 a10.Before, int .i64 a10.Behind, slice A11 a10.Keep.length c12] 28 :: bx g23 [slice A2 a1.Glyphs.length c3, slice A6 a1.Kerns.length c7] 25 :: L) w ∧ True) ?_ ?_
 replace H := hC
 by_cases h61 : v48 = true
 replace H := iY h61 H
 refine wN (gN rfl rfl rfl (bval_yes h61) rfl) ?_
 refine wN (gN rfl rfl rfl (bval_yes h61) rfl) ?_
 refine q_pick true (v := bool true) (bval_yes h61) rfl ?_
 refine nl ?_
 cases H
 exact ⟨rfl, _, rfl, gR, ⟨rfl, rfl, rfl, rfl, rfl, rfl, rfl, rfl, rfl, trivial⟩, hI52, trivial⟩
 replace H := iN h61 H
 refine q_mv (v := int .i64 a18) rfl ?_ (hw := gY rfl rfl rfl (bval_no h61))
 refine q_gtr rfl rfl ?_ (hw := gY rfl rfl rfl (bval_no h61))
 refine q_pick false (v := bool (decide (1000000000 < a18))) (bval_no h61) rfl ?_
 refine nl ?_
 cases H
 exact ⟨rfl, _, rfl, gR, ⟨rfl, rfl, rfl, rfl, rfl, rfl, rfl, rfl, rfl, trivial⟩, hI52, trivial⟩
 clear hC
 rintro e r ds wd58 ⟨rfl, G56, rfl, hG57, hHas, hI59, _⟩
 rw [hHas.eq]; clear hHas
 refine q_mv (v := bool v55) rfl ?_
 obtain ⟨v62, hC, H⟩ := bS H
 refine wpq_split 6 (K := fun e r ds w => e = .normal ∧ ∃ (G63 : Gh), ds = [] ∧ G56 ≤ G63 ∧ Has [(2, string a15), (3, int .i64 a16), (4, int .i64 a17), (5, int .i64 a18), (6, int .u32 a19), (7, pointer (some ⟨g23, 0, none⟩)), (8, pointer (some ⟨g27, 0, none⟩)), (15, bool y37), (41, bool v62)] r ∧ Hp G63 (bx g27 [int .i64 a10.Before, int .i64 a10.Behind, slice A11 a10.Keep.length c12] 28 :: bx g23 [slice A2 a1.Glyphs.length c3, slice A6 a1.Kerns.length c7] 25 :: L) w ∧ True) ?_ ?_
 replace H := hC
 by_cases h68 : v55 = true
 replace H := iY h68 H
 refine wN (gN rfl rfl rfl (bval_yes h68) rfl) ?_
 refine wN (gN rfl rfl rfl (bval_yes h68) rfl) ?_
 refine wN (gN rfl rfl rfl (bval_yes h68) rfl) ?_
 refine wN (gN rfl rfl rfl (bval_yes h68) rfl) ?_
 refine wN (gN rfl rfl rfl (bval_yes h68) rfl) ?_
 refine q_pick true (v := bool true) (bval_yes h68) rfl ?_
 refine nl ?_
 cases H
 exact ⟨rfl, _, rfl, gR, ⟨rfl, rfl, rfl, rfl, rfl, rfl, rfl, rfl, rfl, trivial⟩, hI59, trivial⟩
 replace H := iN h68 H
 refine q_mv (v := int .i64 a18) rfl ?_ (hw := gY rfl rfl rfl (bval_no h68))
 refine q_mv (v := int .u32 a19) rfl ?_ (hw := gY rfl rfl rfl (bval_no h68))
 refine q_cvi ik55 ik3 rfl ?_ (hw := gY rfl rfl rfl (bval_no h68))
 refine q_add rfl rfl ?_ (hw := gY rfl rfl rfl (bval_no h68))
 refine q_gtr rfl rfl ?_ (hw := gY rfl rfl rfl (bval_no h68))
 refine q_pick false (v := bool (decide (1000000000 < (w64 (a18 + (w64 (a19))))))) (bval_no h68) rfl ?_
 refine nl ?_
 cases H
 exact ⟨rfl, _, rfl, gR, ⟨rfl, rfl, rfl, rfl, rfl, rfl, rfl, rfl, rfl, trivial⟩, hI59, trivial⟩
 clear hC
 rintro e r ds wd65 ⟨rfl, G63, rfl, hG64, hHas, hI66, _⟩
 rw [hHas.eq]; clear hHas
 refine nl ?_
 refine hK41 _ _ _ ?_
 by_cases h69 : v62 = true
 replace H := iY h69 H
 refine wpc_true (bval_yes h69) ?_
 refine sr fun K70 hK71 => ?_
 refine q_mv (v := bool y37) rfl ?_
 refine q_as (v := bool y37) rfl ?_
 refine nl ?_
 refine hK71 _ _ _ ?_
 refine wpc_ret ?_
 have hI72 := Hp.sub hI66 (sd (sd se))
 cases H
 exact ⟨.inr rfl, rfl, _, ⟨_, _, rfl, rfl, rfl⟩, _, (gT (gT (gT (gT hG34 hG44) hG50) hG57) hG64), hI72, rfl⟩
 replace H := iN h69 H
 refine wpc_false (bval_no h69) ?_
 refine wpc_skip ?_
 refine hK39 _ _ _ ?_
 refine sr fun K73 hK74 => ?_
 refine q_ldA hI66 1 (cs := [slice A2 a1.Glyphs.length c3, slice A6 a1.Kerns.length c7]) ag25 rfl rfl rfl rfl ?_
 refine q_ldA hI66 0 (cs := [int .i64 a10.Before, int .i64 a10.Behind, slice A11 a10.Keep.length c12]) ag28 rfl rfl rfl rfl ?_
 refine q_mv (v := string a15) rfl ?_
 refine q_mv (v := int .i64 a16) rfl ?_
 refine q_mv (v := int .i64 a17) rfl ?_
 refine q_mv (v := int .i64 a18) rfl ?_
 obtain ⟨⟨y80, y81⟩, hy75, H⟩ := bS H
 refine q_cv (vs := [agg [slice A2 a1.Glyphs.length c3, slice A6 a1.Kerns.length c7].toArray, agg [int .i64 a10.Before, int .i64 a10.Behind, slice A11 a10.Keep.length c12].toArray, string a15, int .i64 a16, int .i64 a17, int .i64 a18]) bo11 rfl rfl (inline_Next_spec (a1 := a1) (a10 := a10) (a15 := a15) (a16 := a16) (a17 := a17) (a18 := a18) hI66 hl4 (Dat.mono (gT (gT (gT (gT hG34 hG44) hG50) hG57) hG64) hD5) hl8 (Dat.mono (gT (gT (gT (gT hG34 hG44) hG50) hG57) hG64) hD9) hl13 (Dat.mono (gT (gT (gT (gT hG34 hG44) hG50) hG57) hG64) hD14) (hgl.mono (gT (gT (gT (gT hG34 hG44) hG50) hG57) hG64)) hy75) ?_
 rintro _ wd78 ⟨G76, hG77, hI79, rfl⟩
 refine ⟨_, rfl, ?_⟩
 refine q_mv (v := tuple [agg [int .i64 y80.From, int .i64 y80.Until, int .i64 y80.Width, bool y80.Hyphen].toArray, int .i64 y81].toArray) rfl ?_
 refine q_ex (v := agg [int .i64 y80.From, int .i64 y80.Until, int .i64 y80.Width, bool y80.Hyphen].toArray) rfl rfl ?_
 refine q_ex (v := int .i64 y81) rfl rfl ?_
 refine q_alloc hI79 ze31 (fun g83 wd84 hI85 => ?_)
 refine q_stA hI85 0 (v := agg [int .i64 y80.From, int .i64 y80.Until, int .i64 y80.Width, bool y80.Hyphen].toArray) (cs := [int .i64 y80.From, int .i64 y80.Until, int .i64 y80.Width, bool y80.Hyphen]) (vs' := [int .i64 y80.From, int .i64 y80.Until, int .i64 y80.Width, bool y80.Hyphen]) ag31 rfl rfl rfl rfl rfl rfl (Nat.le_of_ble_eq_true rfl) rfl (fun wd86 hI87 => ?_)
 refine q_as (v := int .i64 y81) rfl ?_
 refine nl ?_
 refine hK74 _ _ _ ?_
 refine sr fun K88 hK89 => ?_
 refine q_ldA hI87 2 (cs := [slice A2 a1.Glyphs.length c3, slice A6 a1.Kerns.length c7]) ag25 rfl rfl rfl rfl ?_
 refine q_ldA hI87 1 (cs := [int .i64 a10.Before, int .i64 a10.Behind, slice A11 a10.Keep.length c12]) ag28 rfl rfl rfl rfl ?_
 refine q_mv (v := string a15) rfl ?_
 refine q_mv (v := int .i64 a16) rfl ?_
 refine q_mv (v := int .i64 a17) rfl ?_
 refine q_mv (v := int .i64 a18) rfl ?_
 refine q_mv (v := int .u32 a19) rfl ?_
 refine q_cvi ik55 ik3 rfl ?_
 refine q_add rfl rfl ?_
 obtain ⟨⟨y95, y96⟩, hy90, H⟩ := bS H
 refine q_cv (vs := [agg [slice A2 a1.Glyphs.length c3, slice A6 a1.Kerns.length c7].toArray, agg [int .i64 a10.Before, int .i64 a10.Behind, slice A11 a10.Keep.length c12].toArray, string a15, int .i64 a16, int .i64 a17, int .i64 (w64 (a18 + (w64 (a19))))]) bo11 rfl rfl (inline_Next_spec (a1 := a1) (a10 := a10) (a15 := a15) (a16 := a16) (a17 := a17) (a18 := w64 (a18 + (w64 (a19)))) hI87 hl4 (Dat.mono (gT (gT (gT (gT (gT hG34 hG44) hG50) hG57) hG64) hG77) hD5) hl8 (Dat.mono (gT (gT (gT (gT (gT hG34 hG44) hG50) hG57) hG64) hG77) hD9) hl13 (Dat.mono (gT (gT (gT (gT (gT hG34 hG44) hG50) hG57) hG64) hG77) hD14) (hgl.mono (gT (gT (gT (gT (gT hG34 hG44) hG50) hG57) hG64) hG77)) hy90) ?_
 rintro _ wd93 ⟨G91, hG92, hI94, rfl⟩
 refine ⟨_, rfl, ?_⟩
 refine q_mv (v := tuple [agg [int .i64 y95.From, int .i64 y95.Until, int .i64 y95.Width, bool y95.Hyphen].toArray, int .i64 y96].toArray) rfl ?_
 refine q_ex (v := agg [int .i64 y95.From, int .i64 y95.Until, int .i64 y95.Width, bool y95.Hyphen].toArray) rfl rfl ?_
 refine q_ex (v := int .i64 y96) rfl rfl ?_
 refine q_alloc hI94 ze31 (fun g98 wd99 hI100 => ?_)
 refine q_stA hI100 0 (v := agg [int .i64 y95.From, int .i64 y95.Until, int .i64 y95.Width, bool y95.Hyphen].toArray) (cs := [int .i64 y95.From, int .i64 y95.Until, int .i64 y95.Width, bool y95.Hyphen]) (vs' := [int .i64 y95.From, int .i64 y95.Until, int .i64 y95.Width, bool y95.Hyphen]) ag31 rfl rfl rfl rfl rfl rfl (Nat.le_of_ble_eq_true rfl) rfl (fun wd101 hI102 => ?_)
 refine q_as (v := int .i64 y96) rfl ?_
 refine nl ?_
 refine hK89 _ _ _ ?_
 refine sr fun K103 hK104 => ?_
 refine q_mv (v := bool y37) rfl ?_
 refine q_mv (v := bool y37) rfl ?_
 obtain ⟨v105, hC, H⟩ := bS H
 refine wpq_split 4 (K := fun e r ds w => e = .normal ∧ ∃ (G106 : Gh), ds = [] ∧ G91 ≤ G106 ∧ Has [(3, int .i64 a16), (16, pointer (some ⟨g83, 0, none⟩)), (17, int .i64 y81), (18, pointer (some ⟨g98, 0, none⟩)), (71, bool v105)] r ∧ Hp G106 (bx g98 [int .i64 y95.From, int .i64 y95.Until, int .i64 y95.Width, bool y95.Hyphen] 31 :: bx g83 [int .i64 y80.From, int .i64 y80.Until, int .i64 y80.Width, bool y80.Hyphen] 31 :: bx g27 [int .i64 a10.Before, int .i64 a10.Behind, slice A11 a10.Keep.length c12] 28 :: bx g23 [slice A2 a1.Glyphs.length c3, slice A6 a1.Kerns.length c7] 25 :: L) w ∧ True) ?_ ?_
 replace H := hC
 by_cases h111 : y37 = true
 replace H := iY h111 H
 refine q_mv (v := int .i64 y81) rfl ?_ (hw := gY rfl rfl rfl (bval_yes h111))
 refine q_mv (v := int .i64 y96) rfl ?_ (hw := gY rfl rfl rfl (bval_yes h111))
 refine q_eql rfl rfl ?_ (hw := gY rfl rfl rfl (bval_yes h111))
 refine q_pick true (v := bool (decide (y81 = y96))) (bval_yes h111) rfl ?_
 refine nl ?_
 cases H
 exact ⟨rfl, _, rfl, gR, ⟨rfl, rfl, rfl, rfl, rfl, trivial⟩, hI102, trivial⟩
 replace H := iN h111 H
 refine wN (gN rfl rfl rfl (bval_no h111) rfl) ?_
 refine wN (gN rfl rfl rfl (bval_no h111) rfl) ?_
 refine wN (gN rfl rfl rfl (bval_no h111) rfl) ?_
 refine q_pick false (v := bool false) (bval_no h111) rfl ?_
 refine nl ?_
 cases H
 exact ⟨rfl, _, rfl, gR, ⟨rfl, rfl, rfl, rfl, rfl, trivial⟩, hI102, trivial⟩
 clear hC
 rintro e r ds wd108 ⟨rfl, G106, rfl, hG107, hHas, hI109, _⟩
 rw [hHas.eq]; clear hHas
 refine q_mv (v := bool v105) rfl ?_
 obtain ⟨v112, hC, H⟩ := bS H
 refine wpq_split 22 (K := fun e r ds w => e = .normal ∧ ∃ (G113 : Gh), ds = [] ∧ G106 ≤ G113 ∧ Has [(94, bool v112)] r ∧ Hp G113 (bx g98 [int .i64 y95.From, int .i64 y95.Until, int .i64 y95.Width, bool y95.Hyphen] 31 :: bx g83 [int .i64 y80.From, int .i64 y80.Until, int .i64 y80.Width, bool y80.Hyphen] 31 :: bx g27 [int .i64 a10.Before, int .i64 a10.Behind, slice A11 a10.Keep.length c12] 28 :: bx g23 [slice A2 a1.Glyphs.length c3, slice A6 a1.Kerns.length c7] 25 :: L) w ∧ True) ?_ ?_
 replace H := hC
 by_cases h118 : v105 = true
 replace H := iY h118 H
 refine q_mv (v := int .i64 y81) rfl ?_ (hw := gY rfl rfl rfl (bval_yes h118))
 refine q_neq rfl rfl ?_ (hw := gY rfl rfl rfl (bval_yes h118))
 refine q_mv (v := bool (decide (¬ y81 = 0))) rfl ?_ (hw := gY rfl rfl rfl (bval_yes h118))
 obtain ⟨v119, hC, H⟩ := bS H
 refine wpq_split 18 (K := fun e r ds w => e = .normal ∧ ∃ (G120 : Gh), ds = [] ∧ G106 ≤ G120 ∧ Has [(72, bool v105), (93, bool v119)] r ∧ Hp G120 (bx g98 [int .i64 y95.From, int .i64 y95.Until, int .i64 y95.Width, bool y95.Hyphen] 31 :: bx g83 [int .i64 y80.From, int .i64 y80.Until, int .i64 y80.Width, bool y80.Hyphen] 31 :: bx g27 [int .i64 a10.Before, int .i64 a10.Behind, slice A11 a10.Keep.length c12] 28 :: bx g23 [slice A2 a1.Glyphs.length c3, slice A6 a1.Kerns.length c7] 25 :: L) w ∧ True) ?_ ?_
 replace H := hC
 by_cases h125 : ¬ y81 = 0
 replace H := iY h125 H
 refine wN (gN rfl rfl rfl (bool_yes h125) rfl) ?_
 refine wN (gN rfl rfl rfl (bool_yes h125) rfl) ?_
 refine wN (gN rfl rfl rfl (bool_yes h125) rfl) ?_
 refine wN (gN rfl rfl rfl (bool_yes h125) rfl) ?_
 refine wN (gN rfl rfl rfl (bool_yes h125) rfl) ?_
 refine wN (gN rfl rfl rfl (bool_yes h125) rfl) ?_
 refine wN (gN rfl rfl rfl rfl rfl) ?_
 refine wN (gN rfl rfl rfl rfl rfl) ?_
 refine wN (gN rfl rfl rfl rfl rfl) ?_
 refine wN (gN rfl rfl rfl rfl rfl) ?_
 refine wN (gN rfl rfl rfl (bool_yes h125) rfl) ?_
 refine wN (gN rfl rfl rfl (bool_yes h125) rfl) ?_
 refine wN (gN rfl rfl rfl rfl rfl) ?_
 refine wN (gN rfl rfl rfl rfl rfl) ?_
 refine wN (gN rfl rfl rfl rfl rfl) ?_
 refine wN (gN rfl rfl rfl rfl rfl) ?_
 refine wN (gN rfl rfl rfl (bool_yes h125) rfl) ?_
 refine q_pick true (v := bool true) (bool_yes h125) rfl ?_ (hw := gY rfl rfl rfl (bval_yes h118))
 refine nl ?_
 cases H
 exact ⟨rfl, _, rfl, gR, ⟨rfl, rfl, trivial⟩, hI109, trivial⟩
 replace H := iN h125 H
 refine q_fa (a' := ⟨g98, 1, none⟩) fl31_1 rfl (add_plain _ _ _) ?_ (hw := gY rfl rfl rfl (bool_no h125))
 refine q_ld hI109 0 (v := int .i64 y95.Until) ag3 rfl rfl rfl ?_ (hw := gY rfl rfl rfl (bool_no h125))
 refine q_fa (a' := ⟨g83, 1, none⟩) fl31_1 rfl (add_plain _ _ _) ?_ (hw := gY rfl rfl rfl (bool_no h125))
 refine q_ld hI109 1 (v := int .i64 y80.Until) ag3 rfl rfl rfl ?_ (hw := gY rfl rfl rfl (bool_no h125))
 refine q_geq rfl rfl ?_ (hw := gY rfl rfl rfl (bool_no h125))
 refine q_mv (v := bool (decide (y80.Until ≤ y95.Until))) rfl ?_ (hw := gY rfl rfl rfl (bool_no h125))
 obtain ⟨v126, hC, H⟩ := bS H
 refine wpq_split 5 (K := fun e r ds w => e = .normal ∧ ∃ (G127 : Gh), ds = [] ∧ G106 ≤ G127 ∧ Has [(3, int .i64 a16), (16, pointer (some ⟨g83, 0, none⟩)), (72, bool v105), (75, bool (decide (¬ y81 = 0))), (86, bool v126)] r ∧ Hp G127 (bx g98 [int .i64 y95.From, int .i64 y95.Until, int .i64 y95.Width, bool y95.Hyphen] 31 :: bx g83 [int .i64 y80.From, int .i64 y80.Until, int .i64 y80.Width, bool y80.Hyphen] 31 :: bx g27 [int .i64 a10.Before, int .i64 a10.Behind, slice A11 a10.Keep.length c12] 28 :: bx g23 [slice A2 a1.Glyphs.length c3, slice A6 a1.Kerns.length c7] 25 :: L) w ∧ True) ?_ ?_
 replace H := hC
 by_cases h132 : y80.Until ≤ y95.Until
 replace H := iY h132 H
 refine q_fa (a' := ⟨g98, 0, none⟩) fl31_0 rfl (add_plain _ _ _) ?_ (hw := gY rfl rfl rfl (bool_yes h132))
 refine q_ld hI109 0 (v := int .i64 y95.From) ag3 rfl rfl rfl ?_ (hw := gY rfl rfl rfl (bool_yes h132))
 refine q_mv (v := int .i64 a16) rfl ?_ (hw := gY rfl rfl rfl (bool_yes h132))
 refine q_eql rfl rfl ?_ (hw := gY rfl rfl rfl (bool_yes h132))
 refine q_pick true (v := bool (decide (y95.From = a16))) (bool_yes h132) rfl ?_ (hw := gY rfl rfl rfl (bool_no h125))
 refine nl ?_
 cases H
 exact ⟨rfl, _, rfl, gR, ⟨rfl, rfl, rfl, rfl, rfl, trivial⟩, hI109, trivial⟩
 replace H := iN h132 H
 refine wN (gN rfl rfl rfl (bool_no h132) rfl) ?_
 refine wN (gN rfl rfl rfl (bool_no h132) rfl) ?_
 refine wN (gN rfl rfl rfl (bool_no h132) rfl) ?_
 refine wN (gN rfl rfl rfl (bool_no h132) rfl) ?_
 refine q_pick false (v := bool false) (bool_no h132) rfl ?_ (hw := gY rfl rfl rfl (bool_no h125))
 refine nl ?_
 cases H
 exact ⟨rfl, _, rfl, gR, ⟨rfl, rfl, rfl, rfl, rfl, trivial⟩, hI109, trivial⟩
 clear hC
 rintro e r ds wd129 ⟨rfl, G127, rfl, hG128, hHas, hI130, _⟩
 rw [hHas.eq]; clear hHas
 refine q_mv (v := bool v126) rfl ?_ (hw := gY rfl rfl rfl (bool_no h125))
 obtain ⟨v133, hC, H⟩ := bS H
 refine wpq_split 5 (K := fun e r ds w => e = .normal ∧ ∃ (G134 : Gh), ds = [] ∧ G127 ≤ G134 ∧ Has [(72, bool v105), (75, bool (decide (¬ y81 = 0))), (92, bool v133)] r ∧ Hp G134 (bx g98 [int .i64 y95.From, int .i64 y95.Until, int .i64 y95.Width, bool y95.Hyphen] 31 :: bx g83 [int .i64 y80.From, int .i64 y80.Until, int .i64 y80.Width, bool y80.Hyphen] 31 :: bx g27 [int .i64 a10.Before, int .i64 a10.Behind, slice A11 a10.Keep.length c12] 28 :: bx g23 [slice A2 a1.Glyphs.length c3, slice A6 a1.Kerns.length c7] 25 :: L) w ∧ True) ?_ ?_
 replace H := hC
 by_cases h139 : v126 = true
 replace H := iY h139 H
 refine q_fa (a' := ⟨g83, 0, none⟩) fl31_0 rfl (add_plain _ _ _) ?_ (hw := gY rfl rfl rfl (bval_yes h139))
 refine q_ld hI130 1 (v := int .i64 y80.From) ag3 rfl rfl rfl ?_ (hw := gY rfl rfl rfl (bval_yes h139))
 refine q_mv (v := int .i64 a16) rfl ?_ (hw := gY rfl rfl rfl (bval_yes h139))
 refine q_eql rfl rfl ?_ (hw := gY rfl rfl rfl (bval_yes h139))
 refine q_pick true (v := bool (decide (y80.From = a16))) (bval_yes h139) rfl ?_ (hw := gY rfl rfl rfl (bool_no h125))
 refine nl ?_
 cases H
 exact ⟨rfl, _, rfl, gR, ⟨rfl, rfl, rfl, trivial⟩, hI130, trivial⟩
 replace H := iN h139 H
 refine wN (gN rfl rfl rfl (bval_no h139) rfl) ?_
 refine wN (gN rfl rfl rfl (bval_no h139) rfl) ?_
 refine wN (gN rfl rfl rfl (bval_no h139) rfl) ?_
 refine wN (gN rfl rfl rfl (bval_no h139) rfl) ?_
 refine q_pick false (v := bool false) (bval_no h139) rfl ?_ (hw := gY rfl rfl rfl (bool_no h125))
 refine nl ?_
 cases H
 exact ⟨rfl, _, rfl, gR, ⟨rfl, rfl, rfl, trivial⟩, hI130, trivial⟩
 clear hC
 rintro e r ds wd136 ⟨rfl, G134, rfl, hG135, hHas, hI137, _⟩
 rw [hHas.eq]; clear hHas
 refine q_pick false (v := bool v133) (bool_no h125) rfl ?_ (hw := gY rfl rfl rfl (bval_yes h118))
 refine nl ?_
 cases H
 exact ⟨rfl, _, rfl, (gT hG128 hG135), ⟨rfl, rfl, trivial⟩, hI137, trivial⟩
 clear hC
 rintro e r ds wd122 ⟨rfl, G120, rfl, hG121, hHas, hI123, _⟩
 rw [hHas.eq]; clear hHas
 refine q_pick true (v := bool v119) (bval_yes h118) rfl ?_
 refine nl ?_
 cases H
 exact ⟨rfl, _, rfl, hG121, ⟨rfl, trivial⟩, hI123, trivial⟩
 replace H := iN h118 H
 refine wN (gN rfl rfl rfl (bval_no h118) rfl) ?_
 refine wN (gN rfl rfl rfl (bval_no h118) rfl) ?_
 refine wN (gN rfl rfl rfl (bval_no h118) rfl) ?_
 refine wN (gN rfl rfl rfl rfl rfl) ?_
 refine wN (gN rfl rfl rfl rfl rfl) ?_
 refine wN (gN rfl rfl rfl rfl rfl) ?_
 refine wN (gN rfl rfl rfl rfl rfl) ?_
 refine wN (gN rfl rfl rfl rfl rfl) ?_
 refine wN (gN rfl rfl rfl rfl rfl) ?_
 refine wN (gN rfl rfl rfl rfl rfl) ?_
 refine wN (gN rfl rfl rfl rfl rfl) ?_
 refine wN (gN rfl rfl rfl rfl rfl) ?_
 refine wN (gN rfl rfl rfl rfl rfl) ?_
 refine wN (gN rfl rfl rfl rfl rfl) ?_
 refine wN (gN rfl rfl rfl rfl rfl) ?_
 refine wN (gN rfl rfl rfl rfl rfl) ?_
 refine wN (gN rfl rfl rfl rfl rfl) ?_
 refine wN (gN rfl rfl rfl rfl rfl) ?_
 refine wN (gN rfl rfl rfl rfl rfl) ?_
 refine wN (gN rfl rfl rfl rfl rfl) ?_
 refine wN (gN rfl rfl rfl (bval_no h118) rfl) ?_
 refine q_pick false (v := bool false) (bval_no h118) rfl ?_
 refine nl ?_
 cases H
 exact ⟨rfl, _, rfl, gR, ⟨rfl, trivial⟩, hI109, trivial⟩
 clear hC
 rintro e r ds wd115 ⟨rfl, G113, rfl, hG114, hHas, hI116, _⟩
 rw [hHas.eq]; clear hHas
 refine q_as (v := bool v112) rfl ?_
 refine nl ?_
 refine hK104 _ _ _ ?_
 refine wpc_ret ?_
 have hI140 := Hp.sub hI116 (sd (sd (sd (sd se))))
 cases H
 exact ⟨.inr rfl, rfl, _, ⟨_, _, rfl, rfl, rfl⟩, _, (gT (gT (gT (gT (gT (gT (gT (gT hG34 hG44) hG50) hG57) hG64) hG77) hG92) hG107) hG114), hI140, rfl⟩
end Go.Proofs.YtokeiiakkfdmgaaGreatDoor.LG
