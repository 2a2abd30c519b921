/-
  The walks: each function computes its plain function: printed by a program out of the translation.
-/
import Derived.Test.YtokeiiakkfdmgaaGreatDoorTy
import Derived.Test.YtokeiiakkfdmgaaGreatDoorLa
set_option linter.unusedVariables false
set_option linter.unusedSimpArgs false
set_option maxRecDepth 100000
namespace Go.Proofs.YtokeiiakkfdmgaaGreatDoor.LG
open Go Go.LG Go.RowKit Go.Value
open Go.Lib Go.Shelf Go.Proofs
set_option maxHeartbeats 1000000 in
theorem cmp_isNaN_int_spec {a1 : Int} {r1006 : Bool} {G : Gh} {L : List Itm} {w : World} (hI : Hp G (L) w) (H : cmp_isNaN_int a1 = some r1006) :
    Calls Tryz.prog 84 [int .i64 a1].toArray w fun e w' => ∃ (G' : Gh), G ≤ G' ∧ Hp G' (L) w' ∧ e = .returned (bool r1006) := by
 refine calls_intro (N := 6) Tryz.func84 rfl rfl (Nat.le_of_ble_eq_true rfl) ?_
 unfold cmp_isNaN_int at H
 refine sr fun K2 hK3 => ?_
 refine q_as (v := bool false) rfl ?_
 refine nl ?_
 refine hK3 _ _ _ ?_
 refine sr fun K4 hK5 => ?_
 refine q_mv (v := int .i64 a1) rfl ?_
 refine q_mv (v := int .i64 a1) rfl ?_
 refine q_neq rfl rfl ?_
 refine q_as (v := bool (decide (¬ a1 = a1))) rfl ?_
 refine nl ?_
 refine hK5 _ _ _ ?_
 refine wpc_ret ?_
 cases H
 exact ⟨.inr rfl, rfl, _, ⟨_, _, rfl, rfl, rfl⟩, _, gR, hI, rfl⟩
set_option maxHeartbeats 1000000 in
theorem cmp_Compare_int_spec {a1 : Int} {a2 : Int} {r1058 : Int} {G : Gh} {L : List Itm} {w : World} (hI : Hp G (L) w) (H : cmp_Compare_int a1 a2 = some r1058) :
    Calls Tryz.prog 53 [int .i64 a1, int .i64 a2].toArray w fun e w' => ∃ (G' : Gh), G ≤ G' ∧ Hp G' (L) w' ∧ e = .returned (int .i64 r1058) := by
 refine calls_intro (N := 20) Tryz.func53 rfl rfl (Nat.le_of_ble_eq_true rfl) ?_
 unfold cmp_Compare_int at H
 refine sr fun K3 hK4 => ?_
 refine q_as (v := int .i64 0) rfl ?_
 refine nl ?_
 refine hK4 _ _ _ ?_
 refine sr fun K5 hK6 => ?_
 refine q_mv (v := int .i64 a1) rfl ?_
 obtain ⟨y12, hy7, H⟩ := bS H
 refine q_cv (vs := [int .i64 a1]) bo84 rfl rfl (cmp_isNaN_int_spec (a1 := a1) hI hy7) ?_
 rintro _ wd10 ⟨G8, hG9, hI11, rfl⟩
 refine ⟨_, rfl, ?_⟩
 refine q_as (v := bool y12) rfl ?_
 refine nl ?_
 refine hK6 _ _ _ ?_
 refine sr fun K13 hK14 => ?_
 refine q_mv (v := int .i64 a2) rfl ?_
 obtain ⟨y20, hy15, H⟩ := bS H
 refine q_cv (vs := [int .i64 a2]) bo84 rfl rfl (cmp_isNaN_int_spec (a1 := a2) hI11 hy15) ?_
 rintro _ wd18 ⟨G16, hG17, hI19, rfl⟩
 refine ⟨_, rfl, ?_⟩
 refine q_as (v := bool y20) rfl ?_
 refine nl ?_
 refine hK14 _ _ _ ?_
 refine sQ fun K21 hK22 => ?_
 refine sr fun K23 hK24 => ?_
 refine q_mv (v := bool y12) rfl ?_
 refine nl ?_
 refine hK24 _ _ _ ?_
 by_cases h25 : y12 = true
 replace H := iY h25 H
 refine wpc_true (bval_yes h25) ?_
 refine sQ fun K26 hK27 => ?_
 refine sr fun K28 hK29 => ?_
 refine q_mv (v := bool y20) rfl ?_
 refine nl ?_
 refine hK29 _ _ _ ?_
 by_cases h30 : y20 = true
 replace H := iY h30 H
 refine wpc_true (bval_yes h30) ?_
 refine sr fun K31 hK32 => ?_
 refine q_as (v := int .i64 0) rfl ?_
 refine nl ?_
 refine hK32 _ _ _ ?_
 refine wpc_ret ?_
 cases H
 exact ⟨.inr rfl, rfl, _, ⟨_, _, rfl, rfl, rfl⟩, _, (gT hG9 hG17), hI19, rfl⟩
 replace H := iN h30 H
 refine wpc_false (bval_no h30) ?_
 refine wpc_skip ?_
 refine hK27 _ _ _ ?_
 refine sr fun K33 hK34 => ?_
 refine q_as (v := int .i64 (-1)) rfl ?_
 refine nl ?_
 refine hK34 _ _ _ ?_
 refine wpc_ret ?_
 cases H
 exact ⟨.inr rfl, rfl, _, ⟨_, _, rfl, rfl, rfl⟩, _, (gT hG9 hG17), hI19, rfl⟩
 replace H := iN h25 H
 refine wpc_false (bval_no h25) ?_
 refine wpc_skip ?_
 refine hK22 _ _ _ ?_
 refine sQ fun K35 hK36 => ?_
 refine sr fun K37 hK38 => ?_
 refine q_mv (v := bool y20) rfl ?_
 refine nl ?_
 refine hK38 _ _ _ ?_
 by_cases h39 : y20 = true
 replace H := iY h39 H
 refine wpc_true (bval_yes h39) ?_
 refine sr fun K40 hK41 => ?_
 refine q_as (v := int .i64 1) rfl ?_
 refine nl ?_
 refine hK41 _ _ _ ?_
 refine wpc_ret ?_
 cases H
 exact ⟨.inr rfl, rfl, _, ⟨_, _, rfl, rfl, rfl⟩, _, (gT hG9 hG17), hI19, rfl⟩
 replace H := iN h39 H
 refine wpc_false (bval_no h39) ?_
 refine wpc_skip ?_
 refine hK36 _ _ _ ?_
 refine sQ fun K42 hK43 => ?_
 refine sr fun K44 hK45 => ?_
 refine q_mv (v := int .i64 a1) rfl ?_
 refine q_mv (v := int .i64 a2) rfl ?_
 refine q_lss rfl rfl ?_
 refine nl ?_
 refine hK45 _ _ _ ?_
 by_cases h46 : a1 < a2
 replace H := iY h46 H
 refine wpc_true (bool_yes h46) ?_
 refine sr fun K47 hK48 => ?_
 refine q_as (v := int .i64 (-1)) rfl ?_
 refine nl ?_
 refine hK48 _ _ _ ?_
 refine wpc_ret ?_
 cases H
 exact ⟨.inr rfl, rfl, _, ⟨_, _, rfl, rfl, rfl⟩, _, (gT hG9 hG17), hI19, rfl⟩
 replace H := iN h46 H
 refine wpc_false (bool_no h46) ?_
 refine wpc_skip ?_
 refine hK43 _ _ _ ?_
 refine sQ fun K49 hK50 => ?_
 refine sr fun K51 hK52 => ?_
 refine q_mv (v := int .i64 a1) rfl ?_
 refine q_mv (v := int .i64 a2) rfl ?_
 refine q_gtr rfl rfl ?_
 refine nl ?_
 refine hK52 _ _ _ ?_
 by_cases h53 : a2 < a1
 replace H := iY h53 H
 refine wpc_true (bool_yes h53) ?_
 refine sr fun K54 hK55 => ?_
 refine q_as (v := int .i64 1) rfl ?_
 refine nl ?_
 refine hK55 _ _ _ ?_
 refine wpc_ret ?_
 cases H
 exact ⟨.inr rfl, rfl, _, ⟨_, _, rfl, rfl, rfl⟩, _, (gT hG9 hG17), hI19, rfl⟩
 replace H := iN h53 H
 refine wpc_false (bool_no h53) ?_
 refine wpc_skip ?_
 refine hK50 _ _ _ ?_
 refine sr fun K56 hK57 => ?_
 refine q_as (v := int .i64 0) rfl ?_
 refine nl ?_
 refine hK57 _ _ _ ?_
 refine wpc_ret ?_
 cases H
 exact ⟨.inr rfl, rfl, _, ⟨_, _, rfl, rfl, rfl⟩, _, (gT hG9 hG17), hI19, rfl⟩
set_option maxHeartbeats 1000000 in
theorem inline_within_int_spec {a1 : Int} {a2 : Int} {a3 : Int} {r1027 : Bool} {G : Gh} {L : List Itm} {w : World} (hI : Hp G (L) w) (H : inline_within_int a1 a2 a3 = some r1027) :
    Calls Tryz.prog 25 [int .i64 a1, int .i64 a2, int .i64 a3].toArray w fun e w' => ∃ (G' : Gh), G ≤ G' ∧ Hp G' (L) w' ∧ e = .returned (bool r1027) := by
 refine calls_intro (N := 17) Tryz.func25 rfl rfl (Nat.le_of_ble_eq_true rfl) ?_
 unfold inline_within_int at H
 refine sr fun K4 hK5 => ?_
 refine q_as (v := bool false) rfl ?_
 refine nl ?_
 refine hK5 _ _ _ ?_
 refine sr fun K6 hK7 => ?_
 refine q_mv (v := int .i64 a1) rfl ?_
 refine q_mv (v := int .i64 a2) rfl ?_
 obtain ⟨y13, hy8, H⟩ := bS H
 refine q_cv (vs := [int .i64 a1, int .i64 a2]) bo53 rfl rfl (cmp_Compare_int_spec (a1 := a1) (a2 := a2) hI hy8) ?_
 rintro _ wd11 ⟨G9, hG10, hI12, rfl⟩
 refine ⟨_, rfl, ?_⟩
 refine q_geq rfl rfl ?_
 refine q_mv (v := bool (decide (0 ≤ y13))) rfl ?_
 obtain ⟨v14, hC, H⟩ := bS H
 refine wpq_split 5 (K := fun e r ds w => e = .normal ∧ ∃ (G15 : Gh), ds = [] ∧ G9 ≤ G15 ∧ Has [(16, bool v14)] r ∧ Hp G15 (L) w ∧ True) ?_ ?_
 replace H := hC
 by_cases h20 : 0 ≤ y13
 replace H := iY h20 H
 refine q_mv (v := int .i64 a1) rfl ?_ (hw := gY rfl rfl rfl (bool_yes h20))
 refine q_mv (v := int .i64 a3) rfl ?_ (hw := gY rfl rfl rfl (bool_yes h20))
 obtain ⟨y26, hy21, H⟩ := bS H
 refine q_cv (vs := [int .i64 a1, int .i64 a3]) bo53 rfl rfl (cmp_Compare_int_spec (a1 := a1) (a2 := a3) hI12 hy21) ?_ (hw := gY rfl rfl rfl (bool_yes h20))
 rintro _ wd24 ⟨G22, hG23, hI25, rfl⟩
 refine ⟨_, rfl, ?_⟩
 refine q_leq rfl rfl ?_ (hw := gY rfl rfl rfl (bool_yes h20))
 refine q_pick true (v := bool (decide (y26 ≤ 0))) (bool_yes h20) rfl ?_
 refine nl ?_
 cases H
 exact ⟨rfl, _, rfl, hG23, ⟨rfl, trivial⟩, hI25, trivial⟩
 replace H := iN h20 H
 refine wN (gN rfl rfl rfl (bool_no h20) rfl) ?_
 refine wN (gN rfl rfl rfl (bool_no h20) rfl) ?_
 refine wN (gN rfl rfl rfl (bool_no h20) rfl) ?_
 refine wN (gN rfl rfl rfl (bool_no h20) rfl) ?_
 refine q_pick false (v := bool false) (bool_no h20) rfl ?_
 refine nl ?_
 cases H
 exact ⟨rfl, _, rfl, gR, ⟨rfl, trivial⟩, hI12, trivial⟩
 clear hC
 rintro e r ds wd17 ⟨rfl, G15, rfl, hG16, hHas, hI18, _⟩
 rw [hHas.eq]; clear hHas
 refine q_as (v := bool v14) rfl ?_
 refine nl ?_
 refine hK7 _ _ _ ?_
 refine wpc_ret ?_
 cases H
 exact ⟨.inr rfl, rfl, _, ⟨_, _, rfl, rfl, rfl⟩, _, (gT hG10 hG16), hI18, rfl⟩
set_option maxHeartbeats 1000000 in
theorem text_Class_spec {a1 : Int} {r1066 : Int} {G : Gh} {L : List Itm} {w : World} (hI : Hp G (L) w) (H : text_Class a1 = some r1066) :
    Calls Tryz.prog 49 [int .u8 a1].toArray w fun e w' => ∃ (G' : Gh), G ≤ G' ∧ Hp G' (L) w' ∧ e = .returned (int .i64 r1066) := by
 refine calls_intro (N := 37) Tryz.func49 rfl rfl (Nat.le_of_ble_eq_true rfl) ?_
 unfold text_Class at H
 refine sr fun K2 hK3 => ?_
 refine q_as (v := int .i64 0) rfl ?_
 refine nl ?_
 refine hK3 _ _ _ ?_
 refine sQ fun K4 hK5 => ?_
 refine wpc_block ?_
 refine sr fun K6 hK7 => ?_
 refine q_mv (v := int .u8 a1) rfl ?_
 refine q_eql rfl rfl ?_
 refine q_as (v := bool (decide (a1 = 32))) rfl ?_
 refine nl ?_
 refine hK7 _ _ _ ?_
 by_cases h8 : a1 = 32
 replace H := iY h8 H
 refine wpc_true (bool_yes h8) ?_
 refine sr fun K9 hK10 => ?_
 refine q_as (v := int .i64 4) rfl ?_
 refine nl ?_
 refine hK10 _ _ _ ?_
 refine wpc_ret ?_
 cases H
 exact ⟨.inr rfl, rfl, _, ⟨_, _, rfl, rfl, rfl⟩, _, gR, hI, rfl⟩
 replace H := iN h8 H
 refine wpc_false (bool_no h8) ?_
 refine sr fun K11 hK12 => ?_
 refine q_mv (v := int .u8 a1) rfl ?_
 refine q_eql rfl rfl ?_
 refine q_as (v := bool (decide (a1 = 126))) rfl ?_
 refine nl ?_
 refine hK12 _ _ _ ?_
 by_cases h13 : a1 = 126
 replace H := iY h13 H
 refine wpc_true (bool_yes h13) ?_
 refine sr fun K14 hK15 => ?_
 refine q_as (v := int .i64 6) rfl ?_
 refine nl ?_
 refine hK15 _ _ _ ?_
 refine wpc_ret ?_
 cases H
 exact ⟨.inr rfl, rfl, _, ⟨_, _, rfl, rfl, rfl⟩, _, gR, hI, rfl⟩
 replace H := iN h13 H
 refine wpc_false (bool_no h13) ?_
 refine sr fun K16 hK17 => ?_
 refine q_mv (v := int .u8 a1) rfl ?_
 refine q_lss rfl rfl ?_
 refine q_mv (v := bool (decide (a1 < 32))) rfl ?_
 obtain ⟨v18, hC, H⟩ := bS H
 refine wpq_split 3 (K := fun e r ds w => e = .normal ∧ ∃ (G19 : Gh), ds = [] ∧ G ≤ G19 ∧ Has [(0, int .u8 a1), (15, bool v18)] r ∧ Hp G19 (L) w ∧ True) ?_ ?_
 replace H := hC
 by_cases h24 : a1 < 32
 replace H := iY h24 H
 refine wN (gN rfl rfl rfl (bool_yes h24) rfl) ?_
 refine wN (gN rfl rfl rfl (bool_yes h24) rfl) ?_
 refine q_pick true (v := bool true) (bool_yes h24) rfl ?_
 refine nl ?_
 cases H
 exact ⟨rfl, _, rfl, gR, ⟨rfl, rfl, trivial⟩, hI, trivial⟩
 replace H := iN h24 H
 refine q_mv (v := int .u8 a1) rfl ?_ (hw := gY rfl rfl rfl (bool_no h24))
 refine q_gtr rfl rfl ?_ (hw := gY rfl rfl rfl (bool_no h24))
 refine q_pick false (v := bool (decide (126 < a1))) (bool_no h24) rfl ?_
 refine nl ?_
 cases H
 exact ⟨rfl, _, rfl, gR, ⟨rfl, rfl, trivial⟩, hI, trivial⟩
 clear hC
 rintro e r ds wd21 ⟨rfl, G19, rfl, hG20, hHas, hI22, _⟩
 rw [hHas.eq]; clear hHas
 refine q_as (v := bool v18) rfl ?_
 refine nl ?_
 refine hK17 _ _ _ ?_
 by_cases h25 : v18 = true
 replace H := iY h25 H
 refine wpc_true (bval_yes h25) ?_
 refine sr fun K26 hK27 => ?_
 refine q_as (v := int .i64 0) rfl ?_
 refine nl ?_
 refine hK27 _ _ _ ?_
 refine wpc_ret ?_
 cases H
 exact ⟨.inr rfl, rfl, _, ⟨_, _, rfl, rfl, rfl⟩, _, hG20, hI22, rfl⟩
 replace H := iN h25 H
 refine wpc_false (bval_no h25) ?_
 refine sr fun K28 hK29 => ?_
 refine q_mv (v := int .u8 a1) rfl ?_
 refine q_leq rfl rfl ?_
 refine q_mv (v := bool (decide (97 ≤ a1))) rfl ?_
 obtain ⟨v30, hC, H⟩ := bS H
 refine wpq_split 3 (K := fun e r ds w => e = .normal ∧ ∃ (G31 : Gh), ds = [] ∧ G19 ≤ G31 ∧ Has [(0, int .u8 a1), (22, bool v30)] r ∧ Hp G31 (L) w ∧ True) ?_ ?_
 replace H := hC
 by_cases h36 : 97 ≤ a1
 replace H := iY h36 H
 refine q_mv (v := int .u8 a1) rfl ?_ (hw := gY rfl rfl rfl (bool_yes h36))
 refine q_leq rfl rfl ?_ (hw := gY rfl rfl rfl (bool_yes h36))
 refine q_pick true (v := bool (decide (a1 ≤ 122))) (bool_yes h36) rfl ?_
 refine nl ?_
 cases H
 exact ⟨rfl, _, rfl, gR, ⟨rfl, rfl, trivial⟩, hI22, trivial⟩
 replace H := iN h36 H
 refine wN (gN rfl rfl rfl (bool_no h36) rfl) ?_
 refine wN (gN rfl rfl rfl (bool_no h36) rfl) ?_
 refine q_pick false (v := bool false) (bool_no h36) rfl ?_
 refine nl ?_
 cases H
 exact ⟨rfl, _, rfl, gR, ⟨rfl, rfl, trivial⟩, hI22, trivial⟩
 clear hC
 rintro e r ds wd33 ⟨rfl, G31, rfl, hG32, hHas, hI34, _⟩
 rw [hHas.eq]; clear hHas
 refine q_as (v := bool v30) rfl ?_
 refine nl ?_
 refine hK29 _ _ _ ?_
 by_cases h37 : v30 = true
 replace H := iY h37 H
 refine wpc_true (bval_yes h37) ?_
 refine sr fun K38 hK39 => ?_
 refine q_as (v := int .i64 1) rfl ?_
 refine nl ?_
 refine hK39 _ _ _ ?_
 refine wpc_ret ?_
 cases H
 exact ⟨.inr rfl, rfl, _, ⟨_, _, rfl, rfl, rfl⟩, _, (gT hG20 hG32), hI34, rfl⟩
 replace H := iN h37 H
 refine wpc_false (bval_no h37) ?_
 refine sr fun K40 hK41 => ?_
 refine q_mv (v := int .u8 a1) rfl ?_
 refine q_leq rfl rfl ?_
 refine q_mv (v := bool (decide (65 ≤ a1))) rfl ?_
 obtain ⟨v42, hC, H⟩ := bS H
 refine wpq_split 3 (K := fun e r ds w => e = .normal ∧ ∃ (G43 : Gh), ds = [] ∧ G31 ≤ G43 ∧ Has [(0, int .u8 a1), (29, bool v42)] r ∧ Hp G43 (L) w ∧ True) ?_ ?_
 replace H := hC
 by_cases h48 : 65 ≤ a1
 replace H := iY h48 H
 refine q_mv (v := int .u8 a1) rfl ?_ (hw := gY rfl rfl rfl (bool_yes h48))
 refine q_leq rfl rfl ?_ (hw := gY rfl rfl rfl (bool_yes h48))
 refine q_pick true (v := bool (decide (a1 ≤ 90))) (bool_yes h48) rfl ?_
 refine nl ?_
 cases H
 exact ⟨rfl, _, rfl, gR, ⟨rfl, rfl, trivial⟩, hI34, trivial⟩
 replace H := iN h48 H
 refine wN (gN rfl rfl rfl (bool_no h48) rfl) ?_
 refine wN (gN rfl rfl rfl (bool_no h48) rfl) ?_
 refine q_pick false (v := bool false) (bool_no h48) rfl ?_
 refine nl ?_
 cases H
 exact ⟨rfl, _, rfl, gR, ⟨rfl, rfl, trivial⟩, hI34, trivial⟩
 clear hC
 rintro e r ds wd45 ⟨rfl, G43, rfl, hG44, hHas, hI46, _⟩
 rw [hHas.eq]; clear hHas
 refine q_as (v := bool v42) rfl ?_
 refine nl ?_
 refine hK41 _ _ _ ?_
 by_cases h49 : v42 = true
 replace H := iY h49 H
 refine wpc_true (bval_yes h49) ?_
 refine sr fun K50 hK51 => ?_
 refine q_as (v := int .i64 2) rfl ?_
 refine nl ?_
 refine hK51 _ _ _ ?_
 refine wpc_ret ?_
 cases H
 exact ⟨.inr rfl, rfl, _, ⟨_, _, rfl, rfl, rfl⟩, _, (gT (gT hG20 hG32) hG44), hI46, rfl⟩
 replace H := iN h49 H
 refine wpc_false (bval_no h49) ?_
 refine sr fun K52 hK53 => ?_
 refine q_mv (v := int .u8 a1) rfl ?_
 refine q_leq rfl rfl ?_
 refine q_mv (v := bool (decide (48 ≤ a1))) rfl ?_
 obtain ⟨v54, hC, H⟩ := bS H
 refine wpq_split 3 (K := fun e r ds w => e = .normal ∧ ∃ (G55 : Gh), ds = [] ∧ G43 ≤ G55 ∧ Has [(36, bool v54)] r ∧ Hp G55 (L) w ∧ True) ?_ ?_
 replace H := hC
 by_cases h60 : 48 ≤ a1
 replace H := iY h60 H
 refine q_mv (v := int .u8 a1) rfl ?_ (hw := gY rfl rfl rfl (bool_yes h60))
 refine q_leq rfl rfl ?_ (hw := gY rfl rfl rfl (bool_yes h60))
 refine q_pick true (v := bool (decide (a1 ≤ 57))) (bool_yes h60) rfl ?_
 refine nl ?_
 cases H
 exact ⟨rfl, _, rfl, gR, ⟨rfl, trivial⟩, hI46, trivial⟩
 replace H := iN h60 H
 refine wN (gN rfl rfl rfl (bool_no h60) rfl) ?_
 refine wN (gN rfl rfl rfl (bool_no h60) rfl) ?_
 refine q_pick false (v := bool false) (bool_no h60) rfl ?_
 refine nl ?_
 cases H
 exact ⟨rfl, _, rfl, gR, ⟨rfl, trivial⟩, hI46, trivial⟩
 clear hC
 rintro e r ds wd57 ⟨rfl, G55, rfl, hG56, hHas, hI58, _⟩
 rw [hHas.eq]; clear hHas
 refine q_as (v := bool v54) rfl ?_
 refine nl ?_
 refine hK53 _ _ _ ?_
 by_cases h61 : v54 = true
 replace H := iY h61 H
 refine wpc_true (bval_yes h61) ?_
 refine sr fun K62 hK63 => ?_
 refine q_as (v := int .i64 3) rfl ?_
 refine nl ?_
 refine hK63 _ _ _ ?_
 refine wpc_ret ?_
 cases H
 exact ⟨.inr rfl, rfl, _, ⟨_, _, rfl, rfl, rfl⟩, _, (gT (gT (gT hG20 hG32) hG44) hG56), hI58, rfl⟩
 replace H := iN h61 H
 refine wpc_false (bval_no h61) ?_
 refine wpc_skip ?_
 refine hK5 _ _ _ ?_
 refine sr fun K64 hK65 => ?_
 refine q_as (v := int .i64 5) rfl ?_
 refine nl ?_
 refine hK65 _ _ _ ?_
 refine wpc_ret ?_
 cases H
 exact ⟨.inr rfl, rfl, _, ⟨_, _, rfl, rfl, rfl⟩, _, (gT (gT (gT hG20 hG32) hG44) hG56), hI58, rfl⟩
set_option maxHeartbeats 1000000 in
theorem text_Valid_spec {a1 : ByteArray} {r1071 : Bool} {G : Gh} {L : List Itm} {w : World} (hI : Hp G (L) w) (H : text_Valid a1 = some r1071) :
    Calls Tryz.prog 37 [string a1].toArray w fun e w' => ∃ (G' : Gh), G ≤ G' ∧ Hp G' (L) w' ∧ e = .returned (bool r1071) := by
 refine calls_intro (N := 21) Tryz.func37 rfl rfl (Nat.le_of_ble_eq_true rfl) ?_
 unfold text_Valid at H
 refine sr fun K2 hK3 => ?_
 refine q_as (v := bool false) rfl ?_
 refine nl ?_
 refine hK3 _ _ _ ?_
 refine sQ fun K4 hK5 => ?_
 refine sr fun K6 hK7 => ?_
 refine q_mv (v := string a1) rfl ?_
 refine q_rgs hI so9 rfl (fun g9 wd10 hI11 => ?_)
 refine nl ?_
 refine hK7 _ _ _ ?_
 refine wpc_block ?_
 obtain ⟨o33, hC, H⟩ := bS H
 refine wpc_mono (Q := fun e r ds w => match (generalizing := false) o33 with | (Sum.inl v23) => e = .ret ∧ ∃ (G25 : Gh), ds = [] ∧ G ≤ G25 ∧ Has [(2, bool false)] r ∧ Hp G25 (ob g9 (Obj.stringIter a1 v23) :: L) w ∧ True | (Sum.inr v24) => e = .exit 0 ∧ ∃ (G29 : Gh), ds = [] ∧ G ≤ G29 ∧ Has [(0, string a1)] r ∧ Hp G29 (ob g9 (Obj.stringIter a1 v24) :: L) w ∧ True) ?_ ?_
 clear H
 refine wpc_loop fun I hLp => ?_
 refine text_Valid_l22.partial_correctness a1 (fun v16 o => ∀ (G34 : Gh) (r : Rg) (w : World), G ≤ G34 → Has [(0, string a1), (6, pointer (some ⟨g9, 0, none⟩))] r → Hp G34 (ob g9 (Obj.stringIter a1 v16) :: L) w → o = o33 → I r [] w) ?_ 0 _ hC _ _ _ gR ⟨rfl, rfl, trivial⟩ hI11 rfl
 intro _ ih v16 o H G34 r wd36 hG35 hHas hI37 ho
 rw [ho] at H; clear ho
 rw [hHas.eq]; clear hHas
 refine hLp _ _ _ ?_
 refine sr fun K38 hK39 => ?_
 by_cases h40 : v16 < a1.size
 replace H := iY h40 H
 refine q_nxy hI37 0 rfl rfl h40 (fun wd41 hI42 => ?_)
 refine q_ex (v := bool true) rfl rfl ?_
 refine nl ?_
 refine hK39 _ _ _ ?_
 refine sQ fun K43 hK44 => ?_
 refine wpc_true rfl ?_
 refine wpc_skip ?_
 refine hK44 _ _ _ ?_
 refine wpc_block ?_
 refine sr fun K45 hK46 => ?_
 refine q_ex (v := int .i32 ((Utf8.decode a1 v16).1 : Int)) rfl rfl ?_
 refine q_as (v := int .i32 ((Utf8.decode a1 v16).1 : Int)) rfl ?_
 refine nl ?_
 refine hK46 _ _ _ ?_
 refine sr fun K47 hK48 => ?_
 refine q_mv (v := int .i32 ((Utf8.decode a1 v16).1 : Int)) rfl ?_
 refine q_gtr rfl rfl ?_
 refine q_mv (v := bool (decide (126 < ((Utf8.decode a1 v16).1 : Int)))) rfl ?_
 obtain ⟨v49, hC, H⟩ := bS H
 refine wpq_split 5 (K := fun e r ds w => e = .normal ∧ ∃ (G50 : Gh), ds = [] ∧ G34 ≤ G50 ∧ Has [(0, string a1), (6, pointer (some ⟨g9, 0, none⟩)), (17, bool v49)] r ∧ Hp G50 (ob g9 (Obj.stringIter a1 (v16 + (Utf8.decode a1 v16).2)) :: L) w ∧ True) ?_ ?_
 replace H := hC
 by_cases h55 : 126 < ((Utf8.decode a1 v16).1 : Int)
 replace H := iY h55 H
 refine wN (gN rfl rfl rfl (bool_yes h55) rfl) ?_
 refine wN (gN rfl rfl rfl (bool_yes h55) rfl) ?_
 refine wN (gN rfl rfl rfl (bool_yes h55) rfl) ?_
 refine wN (gN rfl rfl rfl (bool_yes h55) rfl) ?_
 refine q_pick true (v := bool true) (bool_yes h55) rfl ?_
 refine nl ?_
 cases H
 exact ⟨rfl, _, rfl, gR, ⟨rfl, rfl, rfl, trivial⟩, hI42, trivial⟩
 replace H := iN h55 H
 refine q_mv (v := int .i32 ((Utf8.decode a1 v16).1 : Int)) rfl ?_ (hw := gY rfl rfl rfl (bool_no h55))
 refine q_cvi ik21 ik5 rfl ?_ (hw := gY rfl rfl rfl (bool_no h55))
 obtain ⟨y61, hy56, H⟩ := bS H
 refine q_cv (vs := [int .u8 (wu8 (((Utf8.decode a1 v16).1 : Int)))]) bo49 rfl rfl (text_Class_spec (a1 := wu8 (((Utf8.decode a1 v16).1 : Int))) hI42 hy56) ?_ (hw := gY rfl rfl rfl (bool_no h55))
 rintro _ wd59 ⟨G57, hG58, hI60, rfl⟩
 refine ⟨_, rfl, ?_⟩
 refine q_eql rfl rfl ?_ (hw := gY rfl rfl rfl (bool_no h55))
 refine q_pick false (v := bool (decide (y61 = 0))) (bool_no h55) rfl ?_
 refine nl ?_
 cases H
 exact ⟨rfl, _, rfl, hG58, ⟨rfl, rfl, rfl, trivial⟩, hI60, trivial⟩
 clear hC
 rintro e r ds wd52 ⟨rfl, G50, rfl, hG51, hHas, hI53, _⟩
 rw [hHas.eq]; clear hHas
 refine nl ?_
 refine hK48 _ _ _ ?_
 by_cases h62 : v49 = true
 replace H := iY h62 H
 refine wpc_true (bval_yes h62) ?_
 refine sr fun K63 hK64 => ?_
 refine q_as (v := bool false) rfl ?_
 refine nl ?_
 refine hK64 _ _ _ ?_
 refine wpc_ret ?_
 cases H
 exact ⟨rfl, _, rfl, (gT hG35 hG51), ⟨rfl, trivial⟩, hI53, trivial⟩
 replace H := iN h62 H
 refine wpc_false (bval_no h62) ?_
 refine wpc_skip ?_
 exact ih _ _ H _ _ _ (gT hG35 hG51) ⟨rfl, rfl, trivial⟩ hI53 rfl
 replace H := iN h40 H
 refine q_nxn hI37 0 rfl rfl h40 ?_
 refine q_ex (v := bool false) rfl rfl ?_
 refine nl ?_
 refine hK39 _ _ _ ?_
 refine sQ fun K65 hK66 => ?_
 refine wpc_false rfl ?_
 refine wpc_exit ?_
 cases H
 exact ⟨rfl, _, rfl, hG35, ⟨rfl, trivial⟩, hI37, trivial⟩
 clear hC
 rcases o33 with v23 | v24
 rintro e r ds wd27 ⟨rfl, G25, rfl, hG26, hHas, hI28, _⟩
 rw [hHas.eq]; clear hHas
 have hI67 := Hp.sub hI28 (sd se)
 cases H
 exact ⟨.inr rfl, rfl, _, ⟨_, _, rfl, rfl, rfl⟩, _, hG26, hI67, rfl⟩
 rintro e r ds wd31 ⟨rfl, G29, rfl, hG30, hHas, hI32, _⟩
 rw [hHas.eq]; clear hHas
 refine hK5 _ _ _ ?_
 refine sr fun K68 hK69 => ?_
 refine q_mv (v := string a1) rfl ?_
 refine q_lens so9 rfl ?_
 refine q_leq rfl rfl ?_
 refine q_as (v := bool (decide ((a1.size : Int) ≤ 2000))) rfl ?_
 refine nl ?_
 refine hK69 _ _ _ ?_
 refine wpc_ret ?_
 have hI70 := Hp.sub hI32 (sd se)
 cases H
 exact ⟨.inr rfl, rfl, _, ⟨_, _, rfl, rfl, rfl⟩, _, hG30, hI70, rfl⟩
set_option maxHeartbeats 1000000 in
theorem breaks_within_spec {a1 : Int} {r1013 : Bool} {G : Gh} {L : List Itm} {w : World} (hI : Hp G (L) w) (H : breaks_within a1 = some r1013) :
    Calls Tryz.prog 105 [int .i64 a1].toArray w fun e w' => ∃ (G' : Gh), G ≤ G' ∧ Hp G' (L) w' ∧ e = .returned (bool r1013) := by
 refine calls_intro (N := 9) Tryz.func105 rfl rfl (Nat.le_of_ble_eq_true rfl) ?_
 unfold breaks_within at H
 refine sr fun K2 hK3 => ?_
 refine q_as (v := bool false) rfl ?_
 refine nl ?_
 refine hK3 _ _ _ ?_
 refine sr fun K4 hK5 => ?_
 refine q_mv (v := int .i64 a1) rfl ?_
 refine q_leq rfl rfl ?_
 refine q_mv (v := bool (decide (1 ≤ a1))) rfl ?_
 obtain ⟨v6, hC, H⟩ := bS H
 refine wpq_split 3 (K := fun e r ds w => e = .normal ∧ ∃ (G7 : Gh), ds = [] ∧ G ≤ G7 ∧ Has [(8, bool v6)] r ∧ Hp G7 (L) w ∧ True) ?_ ?_
 replace H := hC
 by_cases h12 : 1 ≤ a1
 replace H := iY h12 H
 refine q_mv (v := int .i64 a1) rfl ?_ (hw := gY rfl rfl rfl (bool_yes h12))
 refine q_leq rfl rfl ?_ (hw := gY rfl rfl rfl (bool_yes h12))
 refine q_pick true (v := bool (decide (a1 ≤ 5))) (bool_yes h12) rfl ?_
 refine nl ?_
 cases H
 exact ⟨rfl, _, rfl, gR, ⟨rfl, trivial⟩, hI, trivial⟩
 replace H := iN h12 H
 refine wN (gN rfl rfl rfl (bool_no h12) rfl) ?_
 refine wN (gN rfl rfl rfl (bool_no h12) rfl) ?_
 refine q_pick false (v := bool false) (bool_no h12) rfl ?_
 refine nl ?_
 cases H
 exact ⟨rfl, _, rfl, gR, ⟨rfl, trivial⟩, hI, trivial⟩
 clear hC
 rintro e r ds wd9 ⟨rfl, G7, rfl, hG8, hHas, hI10, _⟩
 rw [hHas.eq]; clear hHas
 refine q_as (v := bool v6) rfl ?_
 refine nl ?_
 refine hK5 _ _ _ ?_
 refine wpc_ret ?_
 cases H
 exact ⟨.inr rfl, rfl, _, ⟨_, _, rfl, rfl, rfl⟩, _, hG8, hI10, rfl⟩
set_option maxHeartbeats 1000000 in
theorem breaks_small_spec {a1 : Int} {r1013 : Bool} {G : Gh} {L : List Itm} {w : World} (hI : Hp G (L) w) (H : breaks_small a1 = some r1013) :
    Calls Tryz.prog 106 [int .u8 a1].toArray w fun e w' => ∃ (G' : Gh), G ≤ G' ∧ Hp G' (L) w' ∧ e = .returned (bool r1013) := by
 refine calls_intro (N := 9) Tryz.func106 rfl rfl (Nat.le_of_ble_eq_true rfl) ?_
 unfold breaks_small at H
 refine sr fun K2 hK3 => ?_
 refine q_as (v := bool false) rfl ?_
 refine nl ?_
 refine hK3 _ _ _ ?_
 refine sr fun K4 hK5 => ?_
 refine q_mv (v := int .u8 a1) rfl ?_
 refine q_leq rfl rfl ?_
 refine q_mv (v := bool (decide (97 ≤ a1))) rfl ?_
 obtain ⟨v6, hC, H⟩ := bS H
 refine wpq_split 3 (K := fun e r ds w => e = .normal ∧ ∃ (G7 : Gh), ds = [] ∧ G ≤ G7 ∧ Has [(8, bool v6)] r ∧ Hp G7 (L) w ∧ True) ?_ ?_
 replace H := hC
 by_cases h12 : 97 ≤ a1
 replace H := iY h12 H
 refine q_mv (v := int .u8 a1) rfl ?_ (hw := gY rfl rfl rfl (bool_yes h12))
 refine q_leq rfl rfl ?_ (hw := gY rfl rfl rfl (bool_yes h12))
 refine q_pick true (v := bool (decide (a1 ≤ 122))) (bool_yes h12) rfl ?_
 refine nl ?_
 cases H
 exact ⟨rfl, _, rfl, gR, ⟨rfl, trivial⟩, hI, trivial⟩
 replace H := iN h12 H
 refine wN (gN rfl rfl rfl (bool_no h12) rfl) ?_
 refine wN (gN rfl rfl rfl (bool_no h12) rfl) ?_
 refine q_pick false (v := bool false) (bool_no h12) rfl ?_
 refine nl ?_
 cases H
 exact ⟨rfl, _, rfl, gR, ⟨rfl, trivial⟩, hI, trivial⟩
 clear hC
 rintro e r ds wd9 ⟨rfl, G7, rfl, hG8, hHas, hI10, _⟩
 rw [hHas.eq]; clear hHas
 refine q_as (v := bool v6) rfl ?_
 refine nl ?_
 refine hK5 _ _ _ ?_
 refine wpc_ret ?_
 cases H
 exact ⟨.inr rfl, rfl, _, ⟨_, _, rfl, rfl, rfl⟩, _, hG8, hI10, rfl⟩
set_option maxHeartbeats 1000000 in
theorem breaks_Valid_spec {a1 : api_Breaks} {A2 : Option Addr} {c3 : Nat} {r1148 : Bool} {G : Gh} {L : List Itm} {w : World} (hI : Hp G (L) w) (hl4 : a1.Keep.length ≤ c3) (hD5 : Dat Kd.str G A2 a1.Keep) (H : breaks_Valid a1 = some r1148) :
    Calls Tryz.prog 78 [agg [int .i64 a1.Before, int .i64 a1.Behind, slice A2 a1.Keep.length c3].toArray].toArray w fun e w' => ∃ (G' : Gh), G ≤ G' ∧ Hp G' (L) w' ∧ e = .returned (bool r1148) := by
 refine calls_intro (N := 53) Tryz.func78 rfl rfl (Nat.le_of_ble_eq_true rfl) ?_
 unfold breaks_Valid at H
 refine sr fun K6 hK7 => ?_
 refine q_box hI (v := agg [int .i64 a1.Before, int .i64 a1.Behind, slice A2 a1.Keep.length c3].toArray) (vs := [int .i64 a1.Before, int .i64 a1.Behind, slice A2 a1.Keep.length c3]) rfl rfl (fun g9 wd10 hI11 => ?_)
 refine q_as (v := bool false) rfl ?_
 refine nl ?_
 refine hK7 _ _ _ ?_
 refine sQ fun K12 hK13 => ?_
 refine sr fun K14 hK15 => ?_
 refine q_fa (a' := ⟨g9, 0, none⟩) fl28_0 rfl (add_plain _ _ _) ?_
 refine q_ld hI11 0 (v := int .i64 a1.Before) ag3 rfl rfl rfl ?_
 obtain ⟨y21, hy16, H⟩ := bS H
 refine q_cv (vs := [int .i64 a1.Before]) bo105 rfl rfl (breaks_within_spec (a1 := a1.Before) hI11 hy16) ?_
 rintro _ wd19 ⟨G17, hG18, hI20, rfl⟩
 refine ⟨_, rfl, ?_⟩
 refine q_not rfl ?_
 refine q_mv (v := bool (!y21)) rfl ?_
 obtain ⟨v22, hC, H⟩ := bS H
 refine wpq_split 5 (K := fun e r ds w => e = .normal ∧ ∃ (G23 : Gh), ds = [] ∧ G17 ≤ G23 ∧ Has [(1, pointer (some ⟨g9, 0, none⟩)), (15, bool v22)] r ∧ Hp G23 (bx g9 [int .i64 a1.Before, int .i64 a1.Behind, slice A2 a1.Keep.length c3] 28 :: L) w ∧ True) ?_ ?_
 replace H := hC
 by_cases h28 : (!y21) = true
 replace H := iY h28 H
 refine wN (gN rfl rfl rfl (bval_yes h28) rfl) ?_
 refine wN (gN rfl rfl rfl (bval_yes h28) rfl) ?_
 refine wN (gN rfl rfl rfl (bval_yes h28) rfl) ?_
 refine wN (gN rfl rfl rfl (bval_yes h28) rfl) ?_
 refine q_pick true (v := bool true) (bval_yes h28) rfl ?_
 refine nl ?_
 cases H
 exact ⟨rfl, _, rfl, gR, ⟨rfl, rfl, trivial⟩, hI20, trivial⟩
 replace H := iN h28 H
 refine q_fa (a' := ⟨g9, 1, none⟩) fl28_1 rfl (add_plain _ _ _) ?_ (hw := gY rfl rfl rfl (bval_no h28))
 refine q_ld hI20 0 (v := int .i64 a1.Behind) ag3 rfl rfl rfl ?_ (hw := gY rfl rfl rfl (bval_no h28))
 obtain ⟨y34, hy29, H⟩ := bS H
 refine q_cv (vs := [int .i64 a1.Behind]) bo105 rfl rfl (breaks_within_spec (a1 := a1.Behind) hI20 hy29) ?_ (hw := gY rfl rfl rfl (bval_no h28))
 rintro _ wd32 ⟨G30, hG31, hI33, rfl⟩
 refine ⟨_, rfl, ?_⟩
 refine q_not rfl ?_ (hw := gY rfl rfl rfl (bval_no h28))
 refine q_pick false (v := bool (!y34)) (bval_no h28) rfl ?_
 refine nl ?_
 cases H
 exact ⟨rfl, _, rfl, hG31, ⟨rfl, rfl, trivial⟩, hI33, trivial⟩
 clear hC
 rintro e r ds wd25 ⟨rfl, G23, rfl, hG24, hHas, hI26, _⟩
 rw [hHas.eq]; clear hHas
 refine q_mv (v := bool v22) rfl ?_
 obtain ⟨v35, hC, H⟩ := bS H
 refine wpq_split 5 (K := fun e r ds w => e = .normal ∧ ∃ (G36 : Gh), ds = [] ∧ G23 ≤ G36 ∧ Has [(1, pointer (some ⟨g9, 0, none⟩)), (21, bool v35)] r ∧ Hp G36 (bx g9 [int .i64 a1.Before, int .i64 a1.Behind, slice A2 a1.Keep.length c3] 28 :: L) w ∧ True) ?_ ?_
 replace H := hC
 by_cases h41 : v22 = true
 replace H := iY h41 H
 refine wN (gN rfl rfl rfl (bval_yes h41) rfl) ?_
 refine wN (gN rfl rfl rfl (bval_yes h41) rfl) ?_
 refine wN (gN rfl rfl rfl (bval_yes h41) rfl) ?_
 refine wN (gN rfl rfl rfl (bval_yes h41) rfl) ?_
 refine q_pick true (v := bool true) (bval_yes h41) rfl ?_
 refine nl ?_
 cases H
 exact ⟨rfl, _, rfl, gR, ⟨rfl, rfl, trivial⟩, hI26, trivial⟩
 replace H := iN h41 H
 refine q_fa (a' := ⟨g9, 2, none⟩) fl28_2 rfl (add_plain _ _ _) ?_ (hw := gY rfl rfl rfl (bval_no h41))
 refine q_ld hI26 0 (v := slice A2 a1.Keep.length c3) ag26 rfl rfl rfl ?_ (hw := gY rfl rfl rfl (bval_no h41))
 refine q_len so26 rfl ?_ (hw := gY rfl rfl rfl (bval_no h41))
 refine q_gtr rfl rfl ?_ (hw := gY rfl rfl rfl (bval_no h41))
 refine q_pick false (v := bool (decide (20 < (a1.Keep.length : Int)))) (bval_no h41) rfl ?_
 refine nl ?_
 cases H
 exact ⟨rfl, _, rfl, gR, ⟨rfl, rfl, trivial⟩, hI26, trivial⟩
 clear hC
 rintro e r ds wd38 ⟨rfl, G36, rfl, hG37, hHas, hI39, _⟩
 rw [hHas.eq]; clear hHas
 refine nl ?_
 refine hK15 _ _ _ ?_
 by_cases h42 : v35 = true
 replace H := iY h42 H
 refine wpc_true (bval_yes h42) ?_
 refine sr fun K43 hK44 => ?_
 refine q_as (v := bool false) rfl ?_
 refine nl ?_
 refine hK44 _ _ _ ?_
 refine wpc_ret ?_
 have hI45 := Hp.sub hI39 (sd se)
 cases H
 exact ⟨.inr rfl, rfl, _, ⟨_, _, rfl, rfl, rfl⟩, _, (gT (gT hG18 hG24) hG37), hI45, rfl⟩
 replace H := iN h42 H
 refine wpc_false (bval_no h42) ?_
 refine wpc_skip ?_
 refine hK13 _ _ _ ?_
 refine sr fun K46 hK47 => ?_
 refine q_mmk (α := ByteArray) (β := Bool) string bool hI39 (fun g49 wd50 hI51 => ?_)
 refine q_as (v := Value.map (some g49)) rfl ?_
 refine nl ?_
 refine hK47 _ _ _ ?_
 refine sQ fun K52 hK53 => ?_
 refine sr fun K54 hK55 => ?_
 refine q_fa (a' := ⟨g9, 2, none⟩) fl28_2 rfl (add_plain _ _ _) ?_
 refine q_ld hI51 1 (v := slice A2 a1.Keep.length c3) ag26 rfl rfl rfl ?_
 refine q_len so26 rfl ?_
 refine q_mv (v := int .i64 0) rfl ?_
 refine nl ?_
 refine hK55 _ _ _ ?_
 refine wpc_block ?_
 obtain ⟨o79, hC, H⟩ := bS H
 refine wpc_mono (Q := fun e r ds w => match (generalizing := false) o79 with | (Sum.inl v69) => e = .ret ∧ ∃ (G71 : Gh), ds = [] ∧ G36 ≤ G71 ∧ Has [(2, bool false)] r ∧ Hp G71 (mpI g49 string bool v69 :: bx g9 [int .i64 a1.Before, int .i64 a1.Behind, slice A2 a1.Keep.length c3] 28 :: L) w ∧ True | (Sum.inr v70) => e = .exit 0 ∧ ∃ (G75 : Gh), ds = [] ∧ G36 ≤ G75 ∧ Has [] r ∧ Hp G75 (mpI g49 string bool v70 :: bx g9 [int .i64 a1.Before, int .i64 a1.Behind, slice A2 a1.Keep.length c3] 28 :: L) w ∧ True) ?_ ?_
 clear H
 refine wpc_loop fun I hLp => ?_
 refine breaks_Valid_l68.partial_correctness a1 (fun v60 v61 o => ∀ (G80 : Gh) (r : Rg) (w : World), G36 ≤ G80 → Has [(3, Value.map (some g49)), (24, slice A2 a1.Keep.length c3), (25, int .i64 (a1.Keep.length : Int)), (26, int .i64 v60)] r → Hp G80 (mpI g49 string bool v61 :: bx g9 [int .i64 a1.Before, int .i64 a1.Behind, slice A2 a1.Keep.length c3] 28 :: L) w → o = o79 → I r [] w) ?_ 0 ([] : List (ByteArray × Bool)) _ hC _ _ _ gR ⟨rfl, rfl, rfl, rfl, trivial⟩ hI51 rfl
 intro _ ih v60 v61 o H G80 r wd82 hG81 hHas hI83 ho
 rw [ho] at H; clear ho
 rw [hHas.eq]; clear hHas
 refine hLp _ _ _ ?_
 refine sr fun K84 hK85 => ?_
 refine q_lss rfl rfl ?_
 refine nl ?_
 refine hK85 _ _ _ ?_
 refine sQ fun K86 hK87 => ?_
 by_cases h88 : v60 < (a1.Keep.length : Int)
 replace H := iY h88 H
 refine wpc_true (bool_yes h88) ?_
 refine wpc_skip ?_
 refine hK87 _ _ _ ?_
 refine sQ fun K89 hK90 => ?_
 refine wpc_block ?_
 refine sr fun K91 hK92 => ?_
 obtain ⟨⟨h93, h93'⟩, H⟩ := iS H
 obtain ⟨ad94, cs95, hA96, hK97, hn98, hc99⟩ := Dat.get (Dat.mono (gT (gT (gT hG18 hG24) hG37) hG81) hD5) (⟨#[]⟩ : ByteArray) (v60) h93 h93'
 obtain rfl := hK97
 refine q_ia el26 rfl hA96 rfl h93 h93' ?_
 refine q_lf hI83 (v := string (a1.Keep.getD (Int.toNat v60) (⟨#[]⟩ : ByteArray))) ag9 rfl (gR.cel _ _ (hc99 0 _ rfl)) ?_
 refine q_as (v := string (a1.Keep.getD (Int.toNat v60) (⟨#[]⟩ : ByteArray))) rfl ?_
 refine nl ?_
 refine hK92 _ _ _ ?_
 refine sQ fun K100 hK101 => ?_
 refine sr fun K102 hK103 => ?_
 refine q_mv (v := string (a1.Keep.getD (Int.toNat v60) (⟨#[]⟩ : ByteArray))) rfl ?_
 refine q_lens so9 rfl ?_
 refine q_neq rfl rfl ?_
 refine q_mv (v := bool (decide (¬ ((a1.Keep.getD (Int.toNat v60) (⟨#[]⟩ : ByteArray)).size : Int) = 2))) rfl ?_
 obtain ⟨v104, hC, H⟩ := bS H
 refine wpq_split 5 (K := fun e r ds w => e = .normal ∧ ∃ (G105 : Gh), ds = [] ∧ G80 ≤ G105 ∧ Has [(3, Value.map (some g49)), (5, string (a1.Keep.getD (Int.toNat v60) (⟨#[]⟩ : ByteArray))), (24, slice A2 a1.Keep.length c3), (25, int .i64 (a1.Keep.length : Int)), (26, int .i64 v60), (38, bool v104)] r ∧ Hp G105 (mpI g49 string bool v61 :: bx g9 [int .i64 a1.Before, int .i64 a1.Behind, slice A2 a1.Keep.length c3] 28 :: L) w ∧ True) ?_ ?_
 replace H := hC
 by_cases h110 : ¬ ((a1.Keep.getD (Int.toNat v60) (⟨#[]⟩ : ByteArray)).size : Int) = 2
 replace H := iY h110 H
 refine wN (gN rfl rfl rfl (bool_yes h110) rfl) ?_
 refine wN (gN rfl rfl rfl (bool_yes h110) rfl) ?_
 refine wN (gN rfl rfl rfl (bool_yes h110) rfl) ?_
 refine wN (gN rfl rfl rfl (bool_yes h110) rfl) ?_
 refine q_pick true (v := bool true) (bool_yes h110) rfl ?_
 refine nl ?_
 cases H
 exact ⟨rfl, _, rfl, gR, ⟨rfl, rfl, rfl, rfl, rfl, rfl, trivial⟩, hI83, trivial⟩
 replace H := iN h110 H
 refine q_mv (v := string (a1.Keep.getD (Int.toNat v60) (⟨#[]⟩ : ByteArray))) rfl ?_ (hw := gY rfl rfl rfl (bool_no h110))
 obtain ⟨⟨h111, h111'⟩, H⟩ := iS H
 refine q_is so9 rfl rfl h111 h111' rfl ?_ (hw := gY rfl rfl rfl (bool_no h110))
 obtain ⟨y117, hy112, H⟩ := bS H
 refine q_cv (vs := [int .u8 (bt (a1.Keep.getD (Int.toNat v60) (⟨#[]⟩ : ByteArray)) 0)]) bo106 rfl rfl (breaks_small_spec (a1 := bt (a1.Keep.getD (Int.toNat v60) (⟨#[]⟩ : ByteArray)) 0) hI83 hy112) ?_ (hw := gY rfl rfl rfl (bool_no h110))
 rintro _ wd115 ⟨G113, hG114, hI116, rfl⟩
 refine ⟨_, rfl, ?_⟩
 refine q_not rfl ?_ (hw := gY rfl rfl rfl (bool_no h110))
 refine q_pick false (v := bool (!y117)) (bool_no h110) rfl ?_
 refine nl ?_
 cases H
 exact ⟨rfl, _, rfl, hG114, ⟨rfl, rfl, rfl, rfl, rfl, rfl, trivial⟩, hI116, trivial⟩
 clear hC
 rintro e r ds wd107 ⟨rfl, G105, rfl, hG106, hHas, hI108, _⟩
 rw [hHas.eq]; clear hHas
 refine q_mv (v := bool v104) rfl ?_
 obtain ⟨v118, hC, H⟩ := bS H
 refine wpq_split 5 (K := fun e r ds w => e = .normal ∧ ∃ (G119 : Gh), ds = [] ∧ G105 ≤ G119 ∧ Has [(3, Value.map (some g49)), (5, string (a1.Keep.getD (Int.toNat v60) (⟨#[]⟩ : ByteArray))), (24, slice A2 a1.Keep.length c3), (25, int .i64 (a1.Keep.length : Int)), (26, int .i64 v60), (44, bool v118)] r ∧ Hp G119 (mpI g49 string bool v61 :: bx g9 [int .i64 a1.Before, int .i64 a1.Behind, slice A2 a1.Keep.length c3] 28 :: L) w ∧ True) ?_ ?_
 replace H := hC
 by_cases h124 : v104 = true
 replace H := iY h124 H
 refine wN (gN rfl rfl rfl (bval_yes h124) rfl) ?_
 refine wN (gN rfl rfl rfl (bval_yes h124) rfl) ?_
 refine wN (gN rfl rfl rfl (bval_yes h124) rfl) ?_
 refine wN (gN rfl rfl rfl (bval_yes h124) rfl) ?_
 refine q_pick true (v := bool true) (bval_yes h124) rfl ?_
 refine nl ?_
 cases H
 exact ⟨rfl, _, rfl, gR, ⟨rfl, rfl, rfl, rfl, rfl, rfl, trivial⟩, hI108, trivial⟩
 replace H := iN h124 H
 refine q_mv (v := string (a1.Keep.getD (Int.toNat v60) (⟨#[]⟩ : ByteArray))) rfl ?_ (hw := gY rfl rfl rfl (bval_no h124))
 obtain ⟨⟨h125, h125'⟩, H⟩ := iS H
 refine q_is so9 rfl rfl h125 h125' rfl ?_ (hw := gY rfl rfl rfl (bval_no h124))
 obtain ⟨y131, hy126, H⟩ := bS H
 refine q_cv (vs := [int .u8 (bt (a1.Keep.getD (Int.toNat v60) (⟨#[]⟩ : ByteArray)) 1)]) bo106 rfl rfl (breaks_small_spec (a1 := bt (a1.Keep.getD (Int.toNat v60) (⟨#[]⟩ : ByteArray)) 1) hI108 hy126) ?_ (hw := gY rfl rfl rfl (bval_no h124))
 rintro _ wd129 ⟨G127, hG128, hI130, rfl⟩
 refine ⟨_, rfl, ?_⟩
 refine q_not rfl ?_ (hw := gY rfl rfl rfl (bval_no h124))
 refine q_pick false (v := bool (!y131)) (bval_no h124) rfl ?_
 refine nl ?_
 cases H
 exact ⟨rfl, _, rfl, hG128, ⟨rfl, rfl, rfl, rfl, rfl, rfl, trivial⟩, hI130, trivial⟩
 clear hC
 rintro e r ds wd121 ⟨rfl, G119, rfl, hG120, hHas, hI122, _⟩
 rw [hHas.eq]; clear hHas
 refine q_mv (v := bool v118) rfl ?_
 obtain ⟨v132, hC, H⟩ := bS H
 refine wpq_split 4 (K := fun e r ds w => e = .normal ∧ ∃ (G133 : Gh), ds = [] ∧ G119 ≤ G133 ∧ Has [(3, Value.map (some g49)), (5, string (a1.Keep.getD (Int.toNat v60) (⟨#[]⟩ : ByteArray))), (24, slice A2 a1.Keep.length c3), (25, int .i64 (a1.Keep.length : Int)), (26, int .i64 v60), (49, bool v132)] r ∧ Hp G133 (mpI g49 string bool v61 :: bx g9 [int .i64 a1.Before, int .i64 a1.Behind, slice A2 a1.Keep.length c3] 28 :: L) w ∧ True) ?_ ?_
 replace H := hC
 by_cases h138 : v118 = true
 replace H := iY h138 H
 refine wN (gN rfl rfl rfl (bval_yes h138) rfl) ?_
 refine wN (gN rfl rfl rfl (bval_yes h138) rfl) ?_
 refine wN (gN rfl rfl rfl (bval_yes h138) rfl) ?_
 refine q_pick true (v := bool true) (bval_yes h138) rfl ?_
 refine nl ?_
 cases H
 exact ⟨rfl, _, rfl, gR, ⟨rfl, rfl, rfl, rfl, rfl, rfl, trivial⟩, hI122, trivial⟩
 replace H := iN h138 H
 refine q_mv (v := Value.map (some g49)) rfl ?_ (hw := gY rfl rfl rfl (bval_no h138))
 refine q_mv (v := string (a1.Keep.getD (Int.toNat v60) (⟨#[]⟩ : ByteArray))) rfl ?_ (hw := gY rfl rfl rfl (bval_no h138))
 refine q_mlk (zv := false) hI122 0 mt86 (ky_str so9) zv4 rfl rfl rfl ?_ (hw := gY rfl rfl rfl (bval_no h138))
 refine q_pick false (v := bool ((mget v61 (a1.Keep.getD (Int.toNat v60) (⟨#[]⟩ : ByteArray))).getD false)) (bval_no h138) rfl ?_
 refine nl ?_
 cases H
 exact ⟨rfl, _, rfl, gR, ⟨rfl, rfl, rfl, rfl, rfl, rfl, trivial⟩, hI122, trivial⟩
 clear hC
 rintro e r ds wd135 ⟨rfl, G133, rfl, hG134, hHas, hI136, _⟩
 rw [hHas.eq]; clear hHas
 refine nl ?_
 refine hK103 _ _ _ ?_
 by_cases h139 : v132 = true
 replace H := iY h139 H
 refine wpc_true (bval_yes h139) ?_
 refine sr fun K140 hK141 => ?_
 refine q_as (v := bool false) rfl ?_
 refine nl ?_
 refine hK141 _ _ _ ?_
 refine wpc_ret ?_
 cases H
 exact ⟨rfl, _, rfl, (gT (gT (gT hG81 hG106) hG120) hG134), ⟨rfl, trivial⟩, hI136, trivial⟩
 replace H := iN h139 H
 refine wpc_false (bval_no h139) ?_
 refine wpc_skip ?_
 refine hK101 _ _ _ ?_
 refine wpc_region ?_
 refine q_mv (v := Value.map (some g49)) rfl ?_
 refine q_mv (v := string (a1.Keep.getD (Int.toNat v60) (⟨#[]⟩ : ByteArray))) rfl ?_
 refine q_mup (b := true) hI136 0 mt86 (ky_str so9) rfl rfl rfl rfl (fun wd142 hI143 => ?_)
 refine nl ?_
 refine hK90 _ _ _ ?_
 refine wpc_region ?_
 refine q_add rfl rfl ?_
 refine q_mv (v := int .i64 (w64 (v60 + 1))) rfl ?_
 refine nl ?_
 exact ih _ _ _ H _ _ _ (gT (gT (gT hG81 hG106) hG120) hG134) ⟨rfl, rfl, rfl, rfl, trivial⟩ hI143 rfl
 replace H := iN h88 H
 refine wpc_false (bool_no h88) ?_
 refine wpc_exit ?_
 cases H
 exact ⟨rfl, _, rfl, hG81, trivial, hI83, trivial⟩
 clear hC
 rcases o79 with v69 | v70
 rintro e r ds wd73 ⟨rfl, G71, rfl, hG72, hHas, hI74, _⟩
 rw [hHas.eq]; clear hHas
 have hI144 := Hp.sub hI74 (sd (sd se))
 cases H
 exact ⟨.inr rfl, rfl, _, ⟨_, _, rfl, rfl, rfl⟩, _, (gT (gT (gT hG18 hG24) hG37) hG72), hI144, rfl⟩
 rintro e r ds wd77 ⟨rfl, G75, rfl, hG76, hHas, hI78, _⟩
 rw [hHas.eq]; clear hHas
 refine hK53 _ _ _ ?_
 refine sr fun K145 hK146 => ?_
 refine q_as (v := bool true) rfl ?_
 refine nl ?_
 refine hK146 _ _ _ ?_
 refine wpc_ret ?_
 have hI147 := Hp.sub hI78 (sd (sd se))
 cases H
 exact ⟨.inr rfl, rfl, _, ⟨_, _, rfl, rfl, rfl⟩, _, (gT (gT (gT hG18 hG24) hG37) hG76), hI147, rfl⟩
set_option maxHeartbeats 1000000 in
theorem breaks_prepare_spec {a1 : api_Breaks} {a6 : ByteArray} {A2 : Option Addr} {c3 : Nat} {r1507 : Int} {r1508 : Int} {r1509 : List ByteArray} {r1514 : ByteArray} {r1517 : List (ByteArray × Bool)} {r1518 : Bool} {G : Gh} {L : List Itm} {w : World} (hI : Hp G (L) w) (hl4 : a1.Keep.length ≤ c3) (hD5 : Dat Kd.str G A2 a1.Keep) (H : breaks_prepare a1 a6 = some (r1507, r1508, r1509, r1514, r1517, r1518)) :
    Calls Tryz.prog 47 [agg [int .i64 a1.Before, int .i64 a1.Behind, slice A2 a1.Keep.length c3].toArray, string a6].toArray w fun e w' => ∃ (A1510 : Option Addr) (c1511 : Nat) (g1516 : Nat) (G' : Gh), G ≤ G' ∧ Hp G' (mpI g1516 string bool r1517 :: L) w' ∧ r1509.length ≤ c1511 ∧ Dat Kd.str G' A1510 r1509 ∧ e = .returned (tuple [agg [int .i64 r1507, int .i64 r1508, slice A1510 r1509.length c1511, string r1514, Value.map (some g1516)].toArray, bool r1518].toArray) := by
 refine calls_intro (N := 31) Tryz.func47 rfl rfl (Nat.le_of_ble_eq_true rfl) ?_
 unfold breaks_prepare at H
 refine sr fun K7 hK8 => ?_
 refine q_box hI (v := agg [int .i64 a1.Before, int .i64 a1.Behind, slice A2 a1.Keep.length c3].toArray) (vs := [int .i64 a1.Before, int .i64 a1.Behind, slice A2 a1.Keep.length c3]) rfl rfl (fun g10 wd11 hI12 => ?_)
 refine q_alloc hI12 ze88 (fun g14 wd15 hI16 => ?_)
 refine q_as (v := bool false) rfl ?_
 refine nl ?_
 refine hK8 _ _ _ ?_
 refine sr fun K17 hK18 => ?_
 refine q_ldA hI16 1 (cs := [int .i64 a1.Before, int .i64 a1.Behind, slice A2 a1.Keep.length c3]) ag28 rfl rfl rfl rfl ?_
 refine q_mv (v := string a6) rfl ?_
 refine q_mmk (α := ByteArray) (β := Bool) string bool hI16 (fun g20 wd21 hI22 => ?_)
 refine q_build (vs := [(0, agg [int .i64 a1.Before, int .i64 a1.Behind, slice A2 a1.Keep.length c3].toArray), (1, string a6), (2, Value.map (some g20))]) (cs := [int .i64 a1.Before, int .i64 a1.Behind, slice A2 a1.Keep.length c3, string a6, Value.map (some g20)]) ze88 pl88 rfl rfl ?_
 refine q_alloc hI22 ze88 (fun g24 wd25 hI26 => ?_)
 refine q_stA hI26 0 (v := agg [int .i64 a1.Before, int .i64 a1.Behind, slice A2 a1.Keep.length c3, string a6, Value.map (some g20)].toArray) (cs := [int .i64 a1.Before, int .i64 a1.Behind, slice A2 a1.Keep.length c3, string a6, Value.map (some g20)]) (vs' := [int .i64 a1.Before, int .i64 a1.Behind, slice A2 a1.Keep.length c3, string a6, Value.map (some g20)]) ag88 rfl rfl rfl rfl rfl rfl (Nat.le_of_ble_eq_true rfl) rfl (fun wd27 hI28 => ?_)
 refine nl ?_
 refine hK18 _ _ _ ?_
 refine sQ fun K29 hK30 => ?_
 refine sr fun K31 hK32 => ?_
 refine q_fa (a' := ⟨g10, 2, none⟩) fl28_2 rfl (add_plain _ _ _) ?_
 refine q_ld hI28 3 (v := slice A2 a1.Keep.length c3) ag26 rfl rfl rfl ?_
 refine q_len so26 rfl ?_
 refine q_mv (v := int .i64 0) rfl ?_
 refine nl ?_
 refine hK32 _ _ _ ?_
 refine wpc_block ?_
 obtain ⟨v46, hC, H⟩ := bS H
 refine wpc_mono (Q := fun e r ds w => e = .exit 0 ∧ ∃ (G47 : Gh), ds = [] ∧ G ≤ G47 ∧ Has [(1, string a6), (2, pointer (some ⟨g10, 0, none⟩)), (4, pointer (some ⟨g14, 0, none⟩)), (6, pointer (some ⟨g24, 0, none⟩))] r ∧ Hp G47 (bx g24 [int .i64 a1.Before, int .i64 a1.Behind, slice A2 a1.Keep.length c3, string a6, Value.map (some g20)] 88 :: mpI g20 string bool v46 :: bx g14 [int .i64 0, int .i64 0, slice none 0 0, string (⟨#[]⟩ : ByteArray), Value.map none] 88 :: bx g10 [int .i64 a1.Before, int .i64 a1.Behind, slice A2 a1.Keep.length c3] 28 :: L) w ∧ True) ?_ ?_
 clear H
 refine wpc_loop fun I hLp => ?_
 refine breaks_prepare_l45.partial_correctness a1 (fun v37 v38 o => ∀ (G52 : Gh) (r : Rg) (w : World), G ≤ G52 → Has [(1, string a6), (2, pointer (some ⟨g10, 0, none⟩)), (4, pointer (some ⟨g14, 0, none⟩)), (6, pointer (some ⟨g24, 0, none⟩)), (14, slice A2 a1.Keep.length c3), (15, int .i64 (a1.Keep.length : Int)), (16, int .i64 v37)] r → Hp G52 (bx g24 [int .i64 a1.Before, int .i64 a1.Behind, slice A2 a1.Keep.length c3, string a6, Value.map (some g20)] 88 :: mpI g20 string bool v38 :: bx g14 [int .i64 0, int .i64 0, slice none 0 0, string (⟨#[]⟩ : ByteArray), Value.map none] 88 :: bx g10 [int .i64 a1.Before, int .i64 a1.Behind, slice A2 a1.Keep.length c3] 28 :: L) w → o = v46 → I r [] w) ?_ 0 ([] : List (ByteArray × Bool)) _ hC _ _ _ gR ⟨rfl, rfl, rfl, rfl, rfl, rfl, rfl, trivial⟩ hI28 rfl
 intro _ ih v37 v38 o H G52 r wd54 hG53 hHas hI55 ho
 rw [ho] at H; clear ho
 rw [hHas.eq]; clear hHas
 refine hLp _ _ _ ?_
 refine sr fun K56 hK57 => ?_
 refine q_lss rfl rfl ?_
 refine nl ?_
 refine hK57 _ _ _ ?_
 refine sQ fun K58 hK59 => ?_
 by_cases h60 : v37 < (a1.Keep.length : Int)
 replace H := iY h60 H
 refine wpc_true (bool_yes h60) ?_
 refine wpc_skip ?_
 refine hK59 _ _ _ ?_
 refine sQ fun K61 hK62 => ?_
 refine wpc_block ?_
 refine sr fun K63 hK64 => ?_
 obtain ⟨⟨h65, h65'⟩, H⟩ := iS H
 obtain ⟨ad66, cs67, hA68, hK69, hn70, hc71⟩ := Dat.get (Dat.mono hG53 hD5) (⟨#[]⟩ : ByteArray) (v37) h65 h65'
 obtain rfl := hK69
 refine q_ia el26 rfl hA68 rfl h65 h65' ?_
 refine q_lf hI55 (v := string (a1.Keep.getD (Int.toNat v37) (⟨#[]⟩ : ByteArray))) ag9 rfl (gR.cel _ _ (hc71 0 _ rfl)) ?_
 refine q_as (v := string (a1.Keep.getD (Int.toNat v37) (⟨#[]⟩ : ByteArray))) rfl ?_
 refine nl ?_
 refine hK64 _ _ _ ?_
 refine wpc_region ?_
 refine q_fa (a' := ⟨g24, 4, none⟩) fl88_2 rfl (add_plain _ _ _) ?_
 refine q_ld hI55 0 (v := Value.map (some g20)) ag86 rfl rfl rfl ?_
 refine q_mv (v := string (a1.Keep.getD (Int.toNat v37) (⟨#[]⟩ : ByteArray))) rfl ?_
 refine q_mup (b := true) hI55 1 mt86 (ky_str so9) rfl rfl rfl rfl (fun wd72 hI73 => ?_)
 refine nl ?_
 refine hK62 _ _ _ ?_
 refine wpc_region ?_
 refine q_add rfl rfl ?_
 refine q_mv (v := int .i64 (w64 (v37 + 1))) rfl ?_
 refine nl ?_
 exact ih _ _ _ H _ _ _ hG53 ⟨rfl, rfl, rfl, rfl, rfl, rfl, rfl, trivial⟩ hI73 rfl
 replace H := iN h60 H
 refine wpc_false (bool_no h60) ?_
 refine wpc_exit ?_
 cases H
 exact ⟨rfl, _, rfl, hG53, ⟨rfl, rfl, rfl, rfl, trivial⟩, hI55, trivial⟩
 clear hC
 rintro e r ds wd49 ⟨rfl, G47, rfl, hG48, hHas, hI50, _⟩
 rw [hHas.eq]; clear hHas
 refine hK30 _ _ _ ?_
 refine sQ fun K74 hK75 => ?_
 obtain ⟨v83, hC, H⟩ := bS H
 refine wpc_mono (Q := fun e r ds w => e = .normal ∧ ∃ (G84 : Gh), ds = [] ∧ G47 ≤ G84 ∧ Has [(4, pointer (some ⟨g14, 0, none⟩)), (5, bool v83)] r ∧ Hp G84 (bx g24 [int .i64 a1.Before, int .i64 a1.Behind, slice A2 a1.Keep.length c3, string a6, Value.map (some g20)] 88 :: mpI g20 string bool v46 :: bx g14 [int .i64 a1.Before, int .i64 a1.Behind, slice A2 a1.Keep.length c3, string a6, Value.map (some g20)] 88 :: bx g10 [int .i64 a1.Before, int .i64 a1.Behind, slice A2 a1.Keep.length c3] 28 :: L) w ∧ True) ?_ ?_
 replace H := hC
 obtain ⟨y93, hy278, H⟩ := bS H
 by_cases h289 : y93 = true
 replace H := iY h289 H
 obtain ⟨y294, hy479, H⟩ := bS H
 refine wpc_drawL [0, 0, 2, 6, 14, 30, 62, 63, 255] (fun D r w => (D 7 = false ∧ ∃ (G' : Gh), G47 ≤ G' ∧ Regs [(1, string a6), (2, pointer (some ⟨g10, 0, none⟩)), (4, pointer (some ⟨g14, 0, none⟩)), (6, pointer (some ⟨g24, 0, none⟩))] [] [(0, 24, agg [int .i64 a1.Before, int .i64 a1.Behind, slice A2 a1.Keep.length c3, string a6, Value.map (some g20)].toArray), (1, 25, agg [int .i64 a1.Before, int .i64 a1.Behind, slice A2 a1.Keep.length c3].toArray), (2, 26, bool y93), (3, 27, bool y93), (4, 28, string a6), (5, 29, bool y294), (6, 30, bool y294)] D r ∧ Hp G' (bx g24 [int .i64 a1.Before, int .i64 a1.Behind, slice A2 a1.Keep.length c3, string a6, Value.map (some g20)] 88 :: mpI g20 string bool v46 :: bx g14 [int .i64 0, int .i64 0, slice none 0 0, string (⟨#[]⟩ : ByteArray), Value.map none] 88 :: bx g10 [int .i64 a1.Before, int .i64 a1.Behind, slice A2 a1.Keep.length c3] 28 :: L) w) ∨ (D 7 = true ∧ ∃ (G' : Gh), G47 ≤ G' ∧ Regs [(1, string a6), (2, pointer (some ⟨g10, 0, none⟩)), (4, pointer (some ⟨g14, 0, none⟩)), (6, pointer (some ⟨g24, 0, none⟩))] [] [(0, 24, agg [int .i64 a1.Before, int .i64 a1.Behind, slice A2 a1.Keep.length c3, string a6, Value.map (some g20)].toArray), (1, 25, agg [int .i64 a1.Before, int .i64 a1.Behind, slice A2 a1.Keep.length c3].toArray), (2, 26, bool y93), (3, 27, bool y93), (4, 28, string a6), (5, 29, bool y294), (6, 30, bool y294), (8, 5, bool y294)] D r ∧ Hp G' (bx g24 [int .i64 a1.Before, int .i64 a1.Behind, slice A2 a1.Keep.length c3, string a6, Value.map (some g20)] 88 :: mpI g20 string bool v46 :: bx g14 [int .i64 a1.Before, int .i64 a1.Behind, slice A2 a1.Keep.length c3, string a6, Value.map (some g20)] 88 :: bx g10 [int .i64 a1.Before, int .i64 a1.Behind, slice A2 a1.Keep.length c3] 28 :: L) w)) mixo rfl rfl ?_ ?_ ?_
 exact (.inl ⟨rfl, _, Gh.le_refl _, Regs.start ⟨rfl, rfl, rfl, rfl, trivial⟩ trivial, hI50.drew⟩)
 refine ⟨?_, ?_, ?_, ?_, ?_, ?_, ?_, ?_, ?_, trivial⟩
 rintro D r wd496 (⟨hd2, G492, hG493, hReg495, hI494⟩ | ⟨hd1, G492, hG493, hReg495, hI494⟩) hDi hpre hpost
 obtain ⟨r0, rfl⟩ := Has.ex (cC (hReg495.ins.get 3 rfl) cN)
 refine q_ldA hI494 0 (cs := [int .i64 a1.Before, int .i64 a1.Behind, slice A2 a1.Keep.length c3, string a6, Value.map (some g20)]) ag88 rfl rfl rfl rfl ?_
 exact nl ⟨rfl, (.inl ⟨hd2, _, hG493, (Regs.step hReg495 hDi rfl rfl rfl rfl), hI494⟩)⟩
 cases (hpost 7 rfl).symm.trans hd1
 rintro D r wd496 (⟨hd2, G492, hG493, hReg495, hI494⟩ | ⟨hd1, G492, hG493, hReg495, hI494⟩) hDi hpre hpost
 obtain ⟨r0, rfl⟩ := Has.ex (cC (hReg495.ins.get 1 rfl) cN)
 refine q_ldA hI494 3 (cs := [int .i64 a1.Before, int .i64 a1.Behind, slice A2 a1.Keep.length c3]) ag28 rfl rfl rfl rfl ?_
 exact nl ⟨rfl, (.inl ⟨hd2, _, hG493, (Regs.step hReg495 hDi rfl rfl rfl rfl), hI494⟩)⟩
 cases (hpost 7 rfl).symm.trans hd1
 rintro D r wd496 (⟨hd2, G492, hG493, hReg495, hI494⟩ | ⟨hd1, G492, hG493, hReg495, hI494⟩) hDi hpre hpost
 obtain ⟨r0, rfl⟩ := Has.ex (cC (hReg495.get 1 rfl (hpre 1 rfl)) cN)
 refine q_cv (vs := [agg [int .i64 a1.Before, int .i64 a1.Behind, slice A2 a1.Keep.length c3].toArray]) bo78 rfl rfl (breaks_Valid_spec (a1 := a1) hI494 hl4 (Dat.mono (gT hG48 hG493) hD5) hy278) ?_
 rintro _ wd91 ⟨G89, hG90, hI92, rfl⟩
 refine ⟨_, rfl, ?_⟩
 exact nl ⟨rfl, (.inl ⟨hd2, _, (gT hG493 hG90), (Regs.step hReg495 hDi rfl rfl rfl rfl), hI92⟩)⟩
 cases (hpost 7 rfl).symm.trans hd1
 rintro D r wd496 (⟨hd2, G492, hG493, hReg495, hI494⟩ | ⟨hd1, G492, hG493, hReg495, hI494⟩) hDi hpre hpost
 obtain ⟨r0, rfl⟩ := Has.ex (cC (hReg495.get 2 rfl (hpre 2 rfl)) cN)
 refine q_mv (v := bool y93) rfl ?_
 exact nl ⟨rfl, (.inl ⟨hd2, _, hG493, (Regs.step hReg495 hDi rfl rfl rfl rfl), hI494⟩)⟩
 cases (hpost 7 rfl).symm.trans hd1
 rintro D r wd496 (⟨hd2, G492, hG493, hReg495, hI494⟩ | ⟨hd1, G492, hG493, hReg495, hI494⟩) hDi hpre hpost
 obtain ⟨r0, rfl⟩ := Has.ex (cC (hReg495.ins.get 0 rfl) (cC (hReg495.get 3 rfl (hpre 3 rfl)) cN))
 refine q_mv (v := string a6) rfl ?_ (hw := gY rfl rfl rfl (bval_yes h289))
 exact nl ⟨rfl, (.inl ⟨hd2, _, hG493, (Regs.step hReg495 hDi rfl rfl rfl rfl), hI494⟩)⟩
 cases (hpost 7 rfl).symm.trans hd1
 rintro D r wd496 (⟨hd2, G492, hG493, hReg495, hI494⟩ | ⟨hd1, G492, hG493, hReg495, hI494⟩) hDi hpre hpost
 obtain ⟨r0, rfl⟩ := Has.ex (cC (hReg495.get 3 rfl (hpre 3 rfl)) (cC (hReg495.get 4 rfl (hpre 4 rfl)) cN))
 refine q_cv (vs := [string a6]) bo37 rfl rfl (text_Valid_spec (a1 := a6) hI494 hy479) ?_ (hw := gY rfl rfl rfl (bval_yes h289))
 rintro _ wd292 ⟨G290, hG291, hI293, rfl⟩
 refine ⟨_, rfl, ?_⟩
 exact nl ⟨rfl, (.inl ⟨hd2, _, (gT hG493 hG291), (Regs.step hReg495 hDi rfl rfl rfl rfl), hI293⟩)⟩
 cases (hpost 7 rfl).symm.trans hd1
 rintro D r wd496 (⟨hd2, G492, hG493, hReg495, hI494⟩ | ⟨hd1, G492, hG493, hReg495, hI494⟩) hDi hpre hpost
 obtain ⟨r0, rfl⟩ := Has.ex (cC (hReg495.get 3 rfl (hpre 3 rfl)) (cC (hReg495.get 5 rfl (hpre 5 rfl)) cN))
 refine q_pick true (v := bool y294) (bval_yes h289) rfl ?_
 exact nl ⟨rfl, (.inl ⟨hd2, _, hG493, (Regs.step hReg495 hDi rfl rfl rfl rfl), hI494⟩)⟩
 obtain ⟨r0, rfl⟩ := Has.ex (cC (hReg495.get 3 rfl (hpre 3 rfl)) (cC (hReg495.get 5 rfl (hpre 5 rfl)) cN))
 refine q_pick true (v := bool y294) (bval_yes h289) rfl ?_
 exact nl ⟨rfl, (.inr ⟨hd1, _, hG493, (Regs.step hReg495 hDi rfl rfl rfl rfl), hI494⟩)⟩
 rintro D r wd496 (⟨hd2, G492, hG493, hReg495, hI494⟩ | ⟨hd1, G492, hG493, hReg495, hI494⟩) hDi hpre hpost
 obtain ⟨r0, rfl⟩ := Has.ex (cC (hReg495.ins.get 2 rfl) (cC (hReg495.get 0 rfl (hpre 0 rfl)) cN))
 refine q_stA hI494 2 (v := agg [int .i64 a1.Before, int .i64 a1.Behind, slice A2 a1.Keep.length c3, string a6, Value.map (some g20)].toArray) (cs := [int .i64 a1.Before, int .i64 a1.Behind, slice A2 a1.Keep.length c3, string a6, Value.map (some g20)]) (vs' := [int .i64 a1.Before, int .i64 a1.Behind, slice A2 a1.Keep.length c3, string a6, Value.map (some g20)]) ag88 rfl rfl rfl rfl rfl rfl (Nat.le_of_ble_eq_true rfl) rfl (fun wd490 hI491 => ?_)
 exact nl ⟨rfl, (.inr ⟨rfl, _, hG493, (Regs.stepN (Regs.more (new := [(8, 5, bool y294)]) hReg495 (List.forall_mem_cons.2 ⟨hpost 8 rfl, (fun _ h => nomatch h)⟩)) rfl rfl), hI491⟩)⟩
 cases hDi.symm.trans hd1
 rintro D r wd496 (⟨hd2, G492, hG493, hReg495, hI494⟩ | ⟨hd1, G492, hG493, hReg495, hI494⟩) hDi hpre hpost
 cases (hpre 7 rfl).symm.trans hd2
 obtain ⟨r0, rfl⟩ := Has.ex (cC (hReg495.get 6 rfl (hpre 6 rfl)) cN)
 refine q_as (v := bool y294) rfl ?_
 exact nl ⟨rfl, (.inr ⟨hd1, _, hG493, (Regs.step hReg495 hDi rfl rfl rfl rfl), hI494⟩)⟩
 intro D r wd496 hall hR
 rcases hR with ⟨hd2, G492, hG493, hReg495, hI494⟩ | ⟨hd1, G492, hG493, hReg495, hI494⟩
 cases (hall 7 (Nat.le_of_ble_eq_true rfl)).symm.trans hd2
 obtain ⟨r0, rfl⟩ := Has.ex (cC (hReg495.ins.get 2 rfl) (cC (hReg495.get 7 rfl (hall 8 (Nat.le_of_ble_eq_true rfl))) cN))
 cases H
 exact ⟨rfl, _, rfl, hG493, ⟨rfl, rfl, trivial⟩, hI494, trivial⟩
 replace H := iN h289 H
 refine wpc_drawL [0, 0, 2, 6, 14, 30, 62, 63, 255] (fun D r w => (D 7 = false ∧ ∃ (G' : Gh), G47 ≤ G' ∧ Regs [(2, pointer (some ⟨g10, 0, none⟩)), (4, pointer (some ⟨g14, 0, none⟩)), (6, pointer (some ⟨g24, 0, none⟩))] [] [(0, 24, agg [int .i64 a1.Before, int .i64 a1.Behind, slice A2 a1.Keep.length c3, string a6, Value.map (some g20)].toArray), (1, 25, agg [int .i64 a1.Before, int .i64 a1.Behind, slice A2 a1.Keep.length c3].toArray), (2, 26, bool y93), (3, 27, bool y93), (4, 28, undef), (5, 29, undef), (6, 30, bool false)] D r ∧ Hp G' (bx g24 [int .i64 a1.Before, int .i64 a1.Behind, slice A2 a1.Keep.length c3, string a6, Value.map (some g20)] 88 :: mpI g20 string bool v46 :: bx g14 [int .i64 0, int .i64 0, slice none 0 0, string (⟨#[]⟩ : ByteArray), Value.map none] 88 :: bx g10 [int .i64 a1.Before, int .i64 a1.Behind, slice A2 a1.Keep.length c3] 28 :: L) w) ∨ (D 7 = true ∧ ∃ (G' : Gh), G47 ≤ G' ∧ Regs [(2, pointer (some ⟨g10, 0, none⟩)), (4, pointer (some ⟨g14, 0, none⟩)), (6, pointer (some ⟨g24, 0, none⟩))] [] [(0, 24, agg [int .i64 a1.Before, int .i64 a1.Behind, slice A2 a1.Keep.length c3, string a6, Value.map (some g20)].toArray), (1, 25, agg [int .i64 a1.Before, int .i64 a1.Behind, slice A2 a1.Keep.length c3].toArray), (2, 26, bool y93), (3, 27, bool y93), (4, 28, undef), (5, 29, undef), (6, 30, bool false), (8, 5, bool false)] D r ∧ Hp G' (bx g24 [int .i64 a1.Before, int .i64 a1.Behind, slice A2 a1.Keep.length c3, string a6, Value.map (some g20)] 88 :: mpI g20 string bool v46 :: bx g14 [int .i64 a1.Before, int .i64 a1.Behind, slice A2 a1.Keep.length c3, string a6, Value.map (some g20)] 88 :: bx g10 [int .i64 a1.Before, int .i64 a1.Behind, slice A2 a1.Keep.length c3] 28 :: L) w)) mixo rfl rfl ?_ ?_ ?_
 exact (.inl ⟨rfl, _, Gh.le_refl _, Regs.start ⟨rfl, rfl, rfl, trivial⟩ trivial, hI50.drew⟩)
 refine ⟨?_, ?_, ?_, ?_, ?_, ?_, ?_, ?_, ?_, trivial⟩
 rintro D r wd503 (⟨hd2, G499, hG500, hReg502, hI501⟩ | ⟨hd1, G499, hG500, hReg502, hI501⟩) hDi hpre hpost
 obtain ⟨r0, rfl⟩ := Has.ex (cC (hReg502.ins.get 2 rfl) cN)
 refine q_ldA hI501 0 (cs := [int .i64 a1.Before, int .i64 a1.Behind, slice A2 a1.Keep.length c3, string a6, Value.map (some g20)]) ag88 rfl rfl rfl rfl ?_
 exact nl ⟨rfl, (.inl ⟨hd2, _, hG500, (Regs.step hReg502 hDi rfl rfl rfl rfl), hI501⟩)⟩
 cases (hpost 7 rfl).symm.trans hd1
 rintro D r wd503 (⟨hd2, G499, hG500, hReg502, hI501⟩ | ⟨hd1, G499, hG500, hReg502, hI501⟩) hDi hpre hpost
 obtain ⟨r0, rfl⟩ := Has.ex (cC (hReg502.ins.get 0 rfl) cN)
 refine q_ldA hI501 3 (cs := [int .i64 a1.Before, int .i64 a1.Behind, slice A2 a1.Keep.length c3]) ag28 rfl rfl rfl rfl ?_
 exact nl ⟨rfl, (.inl ⟨hd2, _, hG500, (Regs.step hReg502 hDi rfl rfl rfl rfl), hI501⟩)⟩
 cases (hpost 7 rfl).symm.trans hd1
 rintro D r wd503 (⟨hd2, G499, hG500, hReg502, hI501⟩ | ⟨hd1, G499, hG500, hReg502, hI501⟩) hDi hpre hpost
 obtain ⟨r0, rfl⟩ := Has.ex (cC (hReg502.get 1 rfl (hpre 1 rfl)) cN)
 refine q_cv (vs := [agg [int .i64 a1.Before, int .i64 a1.Behind, slice A2 a1.Keep.length c3].toArray]) bo78 rfl rfl (breaks_Valid_spec (a1 := a1) hI501 hl4 (Dat.mono (gT hG48 hG500) hD5) hy278) ?_
 rintro _ wd91 ⟨G89, hG90, hI92, rfl⟩
 refine ⟨_, rfl, ?_⟩
 exact nl ⟨rfl, (.inl ⟨hd2, _, (gT hG500 hG90), (Regs.step hReg502 hDi rfl rfl rfl rfl), hI92⟩)⟩
 cases (hpost 7 rfl).symm.trans hd1
 rintro D r wd503 (⟨hd2, G499, hG500, hReg502, hI501⟩ | ⟨hd1, G499, hG500, hReg502, hI501⟩) hDi hpre hpost
 obtain ⟨r0, rfl⟩ := Has.ex (cC (hReg502.get 2 rfl (hpre 2 rfl)) cN)
 refine q_mv (v := bool y93) rfl ?_
 exact nl ⟨rfl, (.inl ⟨hd2, _, hG500, (Regs.step hReg502 hDi rfl rfl rfl rfl), hI501⟩)⟩
 cases (hpost 7 rfl).symm.trans hd1
 rintro D r wd503 (⟨hd2, G499, hG500, hReg502, hI501⟩ | ⟨hd1, G499, hG500, hReg502, hI501⟩) hDi hpre hpost
 obtain ⟨r0, rfl⟩ := Has.ex (cC (hReg502.get 3 rfl (hpre 3 rfl)) cN)
 refine wN (gN rfl rfl rfl (bval_no h289) rfl) ?_
 exact nl ⟨rfl, (.inl ⟨hd2, _, hG500, (Regs.step hReg502 hDi rfl rfl rfl rfl), hI501⟩)⟩
 cases (hpost 7 rfl).symm.trans hd1
 rintro D r wd503 (⟨hd2, G499, hG500, hReg502, hI501⟩ | ⟨hd1, G499, hG500, hReg502, hI501⟩) hDi hpre hpost
 obtain ⟨r0, rfl⟩ := Has.ex (cC (hReg502.get 3 rfl (hpre 3 rfl)) cN)
 refine wN (gN rfl rfl rfl (bval_no h289) rfl) ?_
 exact nl ⟨rfl, (.inl ⟨hd2, _, hG500, (Regs.step hReg502 hDi rfl rfl rfl rfl), hI501⟩)⟩
 cases (hpost 7 rfl).symm.trans hd1
 rintro D r wd503 (⟨hd2, G499, hG500, hReg502, hI501⟩ | ⟨hd1, G499, hG500, hReg502, hI501⟩) hDi hpre hpost
 obtain ⟨r0, rfl⟩ := Has.ex (cC (hReg502.get 3 rfl (hpre 3 rfl)) (cC (hReg502.get 5 rfl (hpre 5 rfl)) cN))
 refine q_pick false (v := bool false) (bval_no h289) rfl ?_
 exact nl ⟨rfl, (.inl ⟨hd2, _, hG500, (Regs.step hReg502 hDi rfl rfl rfl rfl), hI501⟩)⟩
 obtain ⟨r0, rfl⟩ := Has.ex (cC (hReg502.get 3 rfl (hpre 3 rfl)) (cC (hReg502.get 5 rfl (hpre 5 rfl)) cN))
 refine q_pick false (v := bool false) (bval_no h289) rfl ?_
 exact nl ⟨rfl, (.inr ⟨hd1, _, hG500, (Regs.step hReg502 hDi rfl rfl rfl rfl), hI501⟩)⟩
 rintro D r wd503 (⟨hd2, G499, hG500, hReg502, hI501⟩ | ⟨hd1, G499, hG500, hReg502, hI501⟩) hDi hpre hpost
 obtain ⟨r0, rfl⟩ := Has.ex (cC (hReg502.ins.get 1 rfl) (cC (hReg502.get 0 rfl (hpre 0 rfl)) cN))
 refine q_stA hI501 2 (v := agg [int .i64 a1.Before, int .i64 a1.Behind, slice A2 a1.Keep.length c3, string a6, Value.map (some g20)].toArray) (cs := [int .i64 a1.Before, int .i64 a1.Behind, slice A2 a1.Keep.length c3, string a6, Value.map (some g20)]) (vs' := [int .i64 a1.Before, int .i64 a1.Behind, slice A2 a1.Keep.length c3, string a6, Value.map (some g20)]) ag88 rfl rfl rfl rfl rfl rfl (Nat.le_of_ble_eq_true rfl) rfl (fun wd497 hI498 => ?_)
 exact nl ⟨rfl, (.inr ⟨rfl, _, hG500, (Regs.stepN (Regs.more (new := [(8, 5, bool false)]) hReg502 (List.forall_mem_cons.2 ⟨hpost 8 rfl, (fun _ h => nomatch h)⟩)) rfl rfl), hI498⟩)⟩
 cases hDi.symm.trans hd1
 rintro D r wd503 (⟨hd2, G499, hG500, hReg502, hI501⟩ | ⟨hd1, G499, hG500, hReg502, hI501⟩) hDi hpre hpost
 cases (hpre 7 rfl).symm.trans hd2
 obtain ⟨r0, rfl⟩ := Has.ex (cC (hReg502.get 6 rfl (hpre 6 rfl)) cN)
 refine q_as (v := bool false) rfl ?_
 exact nl ⟨rfl, (.inr ⟨hd1, _, hG500, (Regs.step hReg502 hDi rfl rfl rfl rfl), hI501⟩)⟩
 intro D r wd503 hall hR
 rcases hR with ⟨hd2, G499, hG500, hReg502, hI501⟩ | ⟨hd1, G499, hG500, hReg502, hI501⟩
 cases (hall 7 (Nat.le_of_ble_eq_true rfl)).symm.trans hd2
 obtain ⟨r0, rfl⟩ := Has.ex (cC (hReg502.ins.get 1 rfl) (cC (hReg502.get 7 rfl (hall 8 (Nat.le_of_ble_eq_true rfl))) cN))
 cases H
 exact ⟨rfl, _, rfl, hG500, ⟨rfl, rfl, trivial⟩, hI501, trivial⟩
 clear hC
 rintro e r ds wd86 ⟨rfl, G84, rfl, hG85, hHas, hI87, _⟩
 rw [hHas.eq]; clear hHas
 refine hK75 _ _ _ ?_
 refine wpc_ret ?_
 have hr504 := res_cell (P := Tryz.prog) hI87 2 (cs := [int .i64 a1.Before, int .i64 a1.Behind, slice A2 a1.Keep.length c3, string a6, Value.map (some g20)]) (g := g14) (o := 0) ag88 rfl rfl rfl
 have hI505 := Hp.front hI87 1 rfl
 have hI506 := Hp.sub hI505 (sk (sd (sd (sd se))))
 cases H
 exact ⟨.inr rfl, rfl, _, ⟨_, _, _, rfl, rfl, hr504, ⟨_, _, rfl, rfl, rfl⟩⟩, A2, c3, g20, _, (gT hG48 hG85), hI506, hl4, (Dat.mono (gT hG48 hG85) hD5), rfl⟩
set_option maxHeartbeats 1000000 in
theorem breaks_letter_spec {a1 : Int} {r1025 : Bool} {G : Gh} {L : List Itm} {w : World} (hI : Hp G (L) w) (H : breaks_letter a1 = some r1025) :
    Calls Tryz.prog 107 [int .u8 a1].toArray w fun e w' => ∃ (G' : Gh), G ≤ G' ∧ Hp G' (L) w' ∧ e = .returned (bool r1025) := by
 refine calls_intro (N := 11) Tryz.func107 rfl rfl (Nat.le_of_ble_eq_true rfl) ?_
 unfold breaks_letter at H
 refine sr fun K2 hK3 => ?_
 refine q_as (v := bool false) rfl ?_
 refine nl ?_
 refine hK3 _ _ _ ?_
 refine sr fun K4 hK5 => ?_
 refine q_mv (v := int .u8 a1) rfl ?_
 obtain ⟨y11, hy6, H⟩ := bS H
 refine q_cv (vs := [int .u8 a1]) bo49 rfl rfl (text_Class_spec (a1 := a1) hI hy6) ?_
 rintro _ wd9 ⟨G7, hG8, hI10, rfl⟩
 refine ⟨_, rfl, ?_⟩
 refine q_eql rfl rfl ?_
 refine q_mv (v := bool (decide (y11 = 1))) rfl ?_
 obtain ⟨v12, hC, H⟩ := bS H
 refine wpq_split 4 (K := fun e r ds w => e = .normal ∧ ∃ (G13 : Gh), ds = [] ∧ G7 ≤ G13 ∧ Has [(10, bool v12)] r ∧ Hp G13 (L) w ∧ True) ?_ ?_
 replace H := hC
 by_cases h18 : y11 = 1
 replace H := iY h18 H
 refine wN (gN rfl rfl rfl (bool_yes h18) rfl) ?_
 refine wN (gN rfl rfl rfl (bool_yes h18) rfl) ?_
 refine wN (gN rfl rfl rfl (bool_yes h18) rfl) ?_
 refine q_pick true (v := bool true) (bool_yes h18) rfl ?_
 refine nl ?_
 cases H
 exact ⟨rfl, _, rfl, gR, ⟨rfl, trivial⟩, hI10, trivial⟩
 replace H := iN h18 H
 refine q_mv (v := int .u8 a1) rfl ?_ (hw := gY rfl rfl rfl (bool_no h18))
 obtain ⟨y24, hy19, H⟩ := bS H
 refine q_cv (vs := [int .u8 a1]) bo49 rfl rfl (text_Class_spec (a1 := a1) hI10 hy19) ?_ (hw := gY rfl rfl rfl (bool_no h18))
 rintro _ wd22 ⟨G20, hG21, hI23, rfl⟩
 refine ⟨_, rfl, ?_⟩
 refine q_eql rfl rfl ?_ (hw := gY rfl rfl rfl (bool_no h18))
 refine q_pick false (v := bool (decide (y24 = 2))) (bool_no h18) rfl ?_
 refine nl ?_
 cases H
 exact ⟨rfl, _, rfl, hG21, ⟨rfl, trivial⟩, hI23, trivial⟩
 clear hC
 rintro e r ds wd15 ⟨rfl, G13, rfl, hG14, hHas, hI16, _⟩
 rw [hHas.eq]; clear hHas
 refine q_as (v := bool v12) rfl ?_
 refine nl ?_
 refine hK5 _ _ _ ?_
 refine wpc_ret ?_
 cases H
 exact ⟨.inr rfl, rfl, _, ⟨_, _, rfl, rfl, rfl⟩, _, (gT hG8 hG14), hI16, rfl⟩
set_option maxHeartbeats 1000000 in
theorem breaks_solid_spec {a1 : Int} {r1025 : Bool} {G : Gh} {L : List Itm} {w : World} (hI : Hp G (L) w) (H : breaks_solid a1 = some r1025) :
    Calls Tryz.prog 80 [int .u8 a1].toArray w fun e w' => ∃ (G' : Gh), G ≤ G' ∧ Hp G' (L) w' ∧ e = .returned (bool r1025) := by
 refine calls_intro (N := 10) Tryz.func80 rfl rfl (Nat.le_of_ble_eq_true rfl) ?_
 unfold breaks_solid at H
 refine sr fun K2 hK3 => ?_
 refine q_as (v := bool false) rfl ?_
 refine nl ?_
 refine hK3 _ _ _ ?_
 refine sr fun K4 hK5 => ?_
 refine q_mv (v := int .u8 a1) rfl ?_
 obtain ⟨y11, hy6, H⟩ := bS H
 refine q_cv (vs := [int .u8 a1]) bo107 rfl rfl (breaks_letter_spec (a1 := a1) hI hy6) ?_
 rintro _ wd9 ⟨G7, hG8, hI10, rfl⟩
 refine ⟨_, rfl, ?_⟩
 refine q_mv (v := bool y11) rfl ?_
 obtain ⟨v12, hC, H⟩ := bS H
 refine wpq_split 4 (K := fun e r ds w => e = .normal ∧ ∃ (G13 : Gh), ds = [] ∧ G7 ≤ G13 ∧ Has [(9, bool v12)] r ∧ Hp G13 (L) w ∧ True) ?_ ?_
 replace H := hC
 by_cases h18 : y11 = true
 replace H := iY h18 H
 refine wN (gN rfl rfl rfl (bval_yes h18) rfl) ?_
 refine wN (gN rfl rfl rfl (bval_yes h18) rfl) ?_
 refine wN (gN rfl rfl rfl (bval_yes h18) rfl) ?_
 refine q_pick true (v := bool true) (bval_yes h18) rfl ?_
 refine nl ?_
 cases H
 exact ⟨rfl, _, rfl, gR, ⟨rfl, trivial⟩, hI10, trivial⟩
 replace H := iN h18 H
 refine q_mv (v := int .u8 a1) rfl ?_ (hw := gY rfl rfl rfl (bval_no h18))
 obtain ⟨y24, hy19, H⟩ := bS H
 refine q_cv (vs := [int .u8 a1]) bo49 rfl rfl (text_Class_spec (a1 := a1) hI10 hy19) ?_ (hw := gY rfl rfl rfl (bval_no h18))
 rintro _ wd22 ⟨G20, hG21, hI23, rfl⟩
 refine ⟨_, rfl, ?_⟩
 refine q_eql rfl rfl ?_ (hw := gY rfl rfl rfl (bval_no h18))
 refine q_pick false (v := bool (decide (y24 = 3))) (bval_no h18) rfl ?_
 refine nl ?_
 cases H
 exact ⟨rfl, _, rfl, hG21, ⟨rfl, trivial⟩, hI23, trivial⟩
 clear hC
 rintro e r ds wd15 ⟨rfl, G13, rfl, hG14, hHas, hI16, _⟩
 rw [hHas.eq]; clear hHas
 refine q_as (v := bool v12) rfl ?_
 refine nl ?_
 refine hK5 _ _ _ ?_
 refine wpc_ret ?_
 cases H
 exact ⟨.inr rfl, rfl, _, ⟨_, _, rfl, rfl, rfl⟩, _, (gT hG8 hG14), hI16, rfl⟩
set_option maxHeartbeats 1000000 in
theorem breaks_ruled_places_k1_spec {a1 : Int} {a2 : Int} {a3 : List ByteArray} {a8 : ByteArray} {a11 : List (ByteArray × Bool)} {A4 : Option Addr} {c5 : Nat} {g10 : Nat} {r1022 : Int} {r1023 : Int} {r1024 : List ByteArray} {r1029 : ByteArray} {G : Gh} {L : List Itm} {w : World} (hI : Hp G (mpI g10 string bool a11 :: L) w) (hl6 : a3.length ≤ c5) (hD7 : Dat Kd.str G A4 a3) (H : breaks_ruled_places_k1 a1 a2 a3 a8 a11 = some (r1022, r1023, r1024, r1029)) :
    Calls Tryz.prog 48 [agg [int .i64 a1, int .i64 a2, slice A4 a3.length c5, string a8, Value.map (some g10)].toArray].toArray w fun e w' => ∃ (g1021 : Nat) (A1025 : Option Addr) (c1026 : Nat) (G' : Gh), G ≤ G' ∧ Hp G' (bx g1021 [int .i64 r1022, int .i64 r1023, slice A1025 r1024.length c1026, string r1029, Value.map (some g10)] 88 :: mpI g10 string bool a11 :: L) w' ∧ r1024.length ≤ c1026 ∧ Dat Kd.str G' A1025 r1024 ∧ e = .returned (func (.func 79) [].toArray [pointer (some ⟨g1021, 0, none⟩)].toArray) := by
 refine calls_intro (N := 4) Tryz.func48 rfl rfl (Nat.le_of_ble_eq_true rfl) ?_
 unfold breaks_ruled_places_k1 at H
 refine sr fun K12 hK13 => ?_
 refine q_box hI (v := agg [int .i64 a1, int .i64 a2, slice A4 a3.length c5, string a8, Value.map (some g10)].toArray) (vs := [int .i64 a1, int .i64 a2, slice A4 a3.length c5, string a8, Value.map (some g10)]) rfl rfl (fun g15 wd16 hI17 => ?_)
 refine q_as (v := Value.nilFunc) rfl ?_
 refine nl ?_
 refine hK13 _ _ _ ?_
 refine sr fun K18 hK19 => ?_
 refine q_fn (vs := []) (us := [pointer (some ⟨g15, 0, none⟩)]) rfl rfl ?_
 refine q_as (v := func (.func 79) [].toArray [pointer (some ⟨g15, 0, none⟩)].toArray) rfl ?_
 refine nl ?_
 refine hK19 _ _ _ ?_
 refine wpc_ret ?_
 cases H
 exact ⟨.inr rfl, rfl, _, ⟨_, _, rfl, rfl, rfl⟩, g15, A4, c5, _, gR, hI17, hl6, hD7, rfl⟩
set_option maxHeartbeats 1000000 in
theorem breaks_ruled_letters_1_k1_spec {a3 : Int} {a6 : Int} {a7 : Int} {a8 : List ByteArray} {a13 : ByteArray} {a16 : List (ByteArray × Bool)} {g2 : Nat} {g5 : Nat} {A9 : Option Addr} {c10 : Nat} {g15 : Nat} {r1050 : Bool} {G : Gh} {L : List Itm} {w : World} (hI : Hp G (bx g2 [int .i64 a3] 3 :: bx g5 [int .i64 a6, int .i64 a7, slice A9 a8.length c10, string a13, Value.map (some g15)] 88 :: mpI g15 string bool a16 :: L) w) (hl11 : a8.length ≤ c10) (hD12 : Dat Kd.str G A9 a8) (H : breaks_ruled_letters_1_k1 a3 a6 a7 a8 a13 a16 = some r1050) :
    Calls Tryz.prog 135 [pointer (some ⟨g2, 0, none⟩), pointer (some ⟨g5, 0, none⟩)].toArray w fun e w' => ∃ (G' : Gh), G ≤ G' ∧ Hp G' (bx g2 [int .i64 a3] 3 :: bx g5 [int .i64 a6, int .i64 a7, slice A9 a8.length c10, string a13, Value.map (some g15)] 88 :: mpI g15 string bool a16 :: L) w' ∧ e = .returned (bool r1050) := by
 refine calls_intro (N := 26) Tryz.func135 rfl rfl (Nat.le_of_ble_eq_true rfl) ?_
 unfold breaks_ruled_letters_1_k1 at H
 refine sr fun K17 hK18 => ?_
 refine q_as (v := bool false) rfl ?_
 refine nl ?_
 refine hK18 _ _ _ ?_
 refine sr fun K19 hK20 => ?_
 refine q_ld hI 0 (v := int .i64 a3) ag3 rfl rfl rfl ?_
 refine q_geq rfl rfl ?_
 refine q_mv (v := bool (decide (0 ≤ a3))) rfl ?_
 obtain ⟨v21, hC, H⟩ := bS H
 refine wpq_split 6 (K := fun e r ds w => e = .normal ∧ ∃ (G22 : Gh), ds = [] ∧ G ≤ G22 ∧ Has [(0, pointer (some ⟨g2, 0, none⟩)), (1, pointer (some ⟨g5, 0, none⟩)), (11, bool v21)] r ∧ Hp G22 (bx g2 [int .i64 a3] 3 :: bx g5 [int .i64 a6, int .i64 a7, slice A9 a8.length c10, string a13, Value.map (some g15)] 88 :: mpI g15 string bool a16 :: L) w ∧ True) ?_ ?_
 replace H := hC
 by_cases h27 : 0 ≤ a3
 replace H := iY h27 H
 refine q_ld hI 0 (v := int .i64 a3) ag3 rfl rfl rfl ?_ (hw := gY rfl rfl rfl (bool_yes h27))
 refine q_fa (a' := ⟨g5, 3, none⟩) fl88_1 rfl (add_plain _ _ _) ?_ (hw := gY rfl rfl rfl (bool_yes h27))
 refine q_ld hI 1 (v := string a13) ag9 rfl rfl rfl ?_ (hw := gY rfl rfl rfl (bool_yes h27))
 refine q_lens so9 rfl ?_ (hw := gY rfl rfl rfl (bool_yes h27))
 refine q_lss rfl rfl ?_ (hw := gY rfl rfl rfl (bool_yes h27))
 refine q_pick true (v := bool (decide (a3 < (a13.size : Int)))) (bool_yes h27) rfl ?_
 refine nl ?_
 cases H
 exact ⟨rfl, _, rfl, gR, ⟨rfl, rfl, rfl, trivial⟩, hI, trivial⟩
 replace H := iN h27 H
 refine wN (gN rfl rfl rfl (bool_no h27) rfl) ?_
 refine wN (gN rfl rfl rfl (bool_no h27) rfl) ?_
 refine wN (gN rfl rfl rfl (bool_no h27) rfl) ?_
 refine wN (gN rfl rfl rfl (bool_no h27) rfl) ?_
 refine wN (gN rfl rfl rfl (bool_no h27) rfl) ?_
 refine q_pick false (v := bool false) (bool_no h27) rfl ?_
 refine nl ?_
 cases H
 exact ⟨rfl, _, rfl, gR, ⟨rfl, rfl, rfl, trivial⟩, hI, trivial⟩
 clear hC
 rintro e r ds wd24 ⟨rfl, G22, rfl, hG23, hHas, hI25, _⟩
 rw [hHas.eq]; clear hHas
 refine q_mv (v := bool v21) rfl ?_
 obtain ⟨v28, hC, H⟩ := bS H
 refine wpq_split 13 (K := fun e r ds w => e = .normal ∧ ∃ (G29 : Gh), ds = [] ∧ G22 ≤ G29 ∧ Has [(25, bool v28)] r ∧ Hp G29 (bx g2 [int .i64 a3] 3 :: bx g5 [int .i64 a6, int .i64 a7, slice A9 a8.length c10, string a13, Value.map (some g15)] 88 :: mpI g15 string bool a16 :: L) w ∧ True) ?_ ?_
 replace H := hC
 by_cases h34 : v21 = true
 replace H := iY h34 H
 refine q_fa (a' := ⟨g5, 3, none⟩) fl88_1 rfl (add_plain _ _ _) ?_ (hw := gY rfl rfl rfl (bval_yes h34))
 refine q_ld hI25 1 (v := string a13) ag9 rfl rfl rfl ?_ (hw := gY rfl rfl rfl (bval_yes h34))
 refine q_ld hI25 0 (v := int .i64 a3) ag3 rfl rfl rfl ?_ (hw := gY rfl rfl rfl (bval_yes h34))
 obtain ⟨⟨h35, h35'⟩, H⟩ := iS H
 refine q_is so9 rfl rfl h35 h35' rfl ?_ (hw := gY rfl rfl rfl (bval_yes h34))
 obtain ⟨y41, hy36, H⟩ := bS H
 refine q_cv (vs := [int .u8 (bt a13 a3)]) bo107 rfl rfl (breaks_letter_spec (a1 := bt a13 a3) hI25 hy36) ?_ (hw := gY rfl rfl rfl (bval_yes h34))
 rintro _ wd39 ⟨G37, hG38, hI40, rfl⟩
 refine ⟨_, rfl, ?_⟩
 refine q_mv (v := bool y41) rfl ?_ (hw := gY rfl rfl rfl (bval_yes h34))
 obtain ⟨v42, hC, H⟩ := bS H
 refine wpq_split 6 (K := fun e r ds w => e = .normal ∧ ∃ (G43 : Gh), ds = [] ∧ G37 ≤ G43 ∧ Has [(12, bool v21), (24, bool v42)] r ∧ Hp G43 (bx g2 [int .i64 a3] 3 :: bx g5 [int .i64 a6, int .i64 a7, slice A9 a8.length c10, string a13, Value.map (some g15)] 88 :: mpI g15 string bool a16 :: L) w ∧ True) ?_ ?_
 replace H := hC
 by_cases h48 : y41 = true
 replace H := iY h48 H
 refine wN (gN rfl rfl rfl (bval_yes h48) rfl) ?_
 refine wN (gN rfl rfl rfl (bval_yes h48) rfl) ?_
 refine wN (gN rfl rfl rfl (bval_yes h48) rfl) ?_
 refine wN (gN rfl rfl rfl (bval_yes h48) rfl) ?_
 refine wN (gN rfl rfl rfl (bval_yes h48) rfl) ?_
 refine q_pick true (v := bool true) (bval_yes h48) rfl ?_ (hw := gY rfl rfl rfl (bval_yes h34))
 refine nl ?_
 cases H
 exact ⟨rfl, _, rfl, gR, ⟨rfl, rfl, trivial⟩, hI40, trivial⟩
 replace H := iN h48 H
 refine q_fa (a' := ⟨g5, 3, none⟩) fl88_1 rfl (add_plain _ _ _) ?_ (hw := gY rfl rfl rfl (bval_no h48))
 refine q_ld hI40 1 (v := string a13) ag9 rfl rfl rfl ?_ (hw := gY rfl rfl rfl (bval_no h48))
 refine q_ld hI40 0 (v := int .i64 a3) ag3 rfl rfl rfl ?_ (hw := gY rfl rfl rfl (bval_no h48))
 obtain ⟨⟨h49, h49'⟩, H⟩ := iS H
 refine q_is so9 rfl rfl h49 h49' rfl ?_ (hw := gY rfl rfl rfl (bval_no h48))
 refine q_eql rfl rfl ?_ (hw := gY rfl rfl rfl (bval_no h48))
 refine q_pick false (v := bool (decide ((bt a13 a3) = 126))) (bval_no h48) rfl ?_ (hw := gY rfl rfl rfl (bval_yes h34))
 refine nl ?_
 cases H
 exact ⟨rfl, _, rfl, gR, ⟨rfl, rfl, trivial⟩, hI40, trivial⟩
 clear hC
 rintro e r ds wd45 ⟨rfl, G43, rfl, hG44, hHas, hI46, _⟩
 rw [hHas.eq]; clear hHas
 refine q_pick true (v := bool v42) (bval_yes h34) rfl ?_
 refine nl ?_
 cases H
 exact ⟨rfl, _, rfl, (gT hG38 hG44), ⟨rfl, trivial⟩, hI46, trivial⟩
 replace H := iN h34 H
 refine wN (gN rfl rfl rfl (bval_no h34) rfl) ?_
 refine wN (gN rfl rfl rfl (bval_no h34) rfl) ?_
 refine wN (gN rfl rfl rfl (bval_no h34) rfl) ?_
 refine wN (gN rfl rfl rfl (bval_no h34) rfl) ?_
 refine wN (gN rfl rfl rfl (bval_no h34) rfl) ?_
 refine wN (gN rfl rfl rfl (bval_no h34) rfl) ?_
 refine wN (gN rfl rfl rfl rfl rfl) ?_
 refine wN (gN rfl rfl rfl rfl rfl) ?_
 refine wN (gN rfl rfl rfl rfl rfl) ?_
 refine wN (gN rfl rfl rfl rfl rfl) ?_
 refine wN (gN rfl rfl rfl rfl rfl) ?_
 refine wN (gN rfl rfl rfl (bval_no h34) rfl) ?_
 refine q_pick false (v := bool false) (bval_no h34) rfl ?_
 refine nl ?_
 cases H
 exact ⟨rfl, _, rfl, gR, ⟨rfl, trivial⟩, hI25, trivial⟩
 clear hC
 rintro e r ds wd31 ⟨rfl, G29, rfl, hG30, hHas, hI32, _⟩
 rw [hHas.eq]; clear hHas
 refine q_as (v := bool v28) rfl ?_
 refine nl ?_
 refine hK20 _ _ _ ?_
 refine wpc_ret ?_
 cases H
 exact ⟨.inr rfl, rfl, _, ⟨_, _, rfl, rfl, rfl⟩, _, (gT hG23 hG30), hI32, rfl⟩
set_option maxHeartbeats 1000000 in
theorem breaks_ruled_letters_k1_spec {a1 : Int} {a2 : Int} {a3 : List ByteArray} {a8 : ByteArray} {a11 : List (ByteArray × Bool)} {a12 : Int} {a13 : Bool} {A4 : Option Addr} {c5 : Nat} {g10 : Nat} {r1247 : ByteArray} {G : Gh} {L : List Itm} {w : World} (hI : Hp G (mpI g10 string bool a11 :: L) w) (hl6 : a3.length ≤ c5) (hD7 : Dat Kd.str G A4 a3) (H : breaks_ruled_letters_k1 a1 a2 a3 a8 a11 a12 a13 = some r1247) :
    Calls Tryz.prog 108 [agg [int .i64 a1, int .i64 a2, slice A4 a3.length c5, string a8, Value.map (some g10)].toArray, int .i64 a12, bool a13].toArray w fun e w' => ∃ (G' : Gh), G ≤ G' ∧ Hp G' (mpI g10 string bool a11 :: L) w' ∧ e = .returned (string r1247) := by
 refine calls_intro (N := 33) Tryz.func108 rfl rfl (Nat.le_of_ble_eq_true rfl) ?_
 unfold breaks_ruled_letters_k1 at H
 refine sr fun K14 hK15 => ?_
 refine q_box hI (v := agg [int .i64 a1, int .i64 a2, slice A4 a3.length c5, string a8, Value.map (some g10)].toArray) (vs := [int .i64 a1, int .i64 a2, slice A4 a3.length c5, string a8, Value.map (some g10)]) rfl rfl (fun g17 wd18 hI19 => ?_)
 refine q_box hI19 (v := int .i64 a12) (vs := [int .i64 a12]) rfl rfl (fun g21 wd22 hI23 => ?_)
 refine q_as (v := string (⟨#[]⟩ : ByteArray)) rfl ?_
 refine nl ?_
 refine hK15 _ _ _ ?_
 refine sr fun K24 hK25 => ?_
 refine q_as (v := slice none 0 0) rfl ?_
 refine nl ?_
 refine hK25 _ _ _ ?_
 refine sr fun K26 hK27 => ?_
 refine q_as (v := int .i64 1) rfl ?_
 refine nl ?_
 refine hK27 _ _ _ ?_
 refine sQ fun K28 hK29 => ?_
 refine sr fun K30 hK31 => ?_
 refine q_mv (v := bool a13) rfl ?_
 refine nl ?_
 refine hK31 _ _ _ ?_
 by_cases h32 : a13 = true
 replace H := iY h32 H
 refine wpc_true (bval_yes h32) ?_
 refine wpc_region ?_
 refine q_ld hI23 0 (v := int .i64 a12) ag3 rfl rfl rfl ?_
 refine q_sub rfl rfl ?_
 refine q_stA hI23 0 (v := int .i64 (w64 (a12 - 1))) (cs := [int .i64 (w64 (a12 - 1))]) (vs' := [int .i64 (w64 (a12 - 1))]) ag3 rfl rfl rfl rfl rfl rfl (Nat.le_of_ble_eq_true rfl) rfl (fun wd33 hI34 => ?_)
 refine q_as (v := int .i64 (-1)) rfl ?_
 refine nl ?_
 refine hK29 _ _ _ ?_
 refine sr fun K35 hK36 => ?_
 refine q_fn (vs := []) (us := [pointer (some ⟨g21, 0, none⟩), pointer (some ⟨g17, 0, none⟩)]) rfl rfl ?_
 refine q_as (v := func (.func 135) [].toArray [pointer (some ⟨g21, 0, none⟩), pointer (some ⟨g17, 0, none⟩)].toArray) rfl ?_
 refine nl ?_
 refine hK36 _ _ _ ?_
 refine sQ fun K37 hK38 => ?_
 refine wpc_block ?_
 obtain ⟨⟨v64, v71⟩, hC, H⟩ := bS H
 refine wpc_mono (Q := fun e r ds w => e = .exit 0 ∧ ∃ (A65 : Option Addr) (c66 : Nat) (G72 : Gh), ds = [] ∧ G ≤ G72 ∧ Has [(7, slice A65 v64.length c66)] r ∧ Hp G72 (bx g21 [int .i64 v71] 3 :: bx g17 [int .i64 a1, int .i64 a2, slice A4 a3.length c5, string a8, Value.map (some g10)] 88 :: mpI g10 string bool a11 :: tk (slice A65 v64.length c66) 1 5 :: L) w ∧ v64.length ≤ c66 ∧ Dat (Kd.int .u8) G72 A65 v64 ∧ Own A65 c66 ∧ True) ?_ ?_
 clear H
 have hI132 := Hp.emp hI34
 have hI134 := Hp.front hI132 3 rfl
 have hI135 := Hp.front hI134 3 rfl
 have hI136 := Hp.front hI135 3 rfl
 refine wpc_loop fun I hLp => ?_
 refine breaks_ruled_letters_k1_l63.partial_correctness a1 a2 a3 a8 a11 (fun v43 v50 o => ∀ (A44 : Option Addr) (c45 : Nat) (G77 : Gh) (r : Rg) (w : World), G ≤ G77 → Has [(3, pointer (some ⟨g17, 0, none⟩)), (4, pointer (some ⟨g21, 0, none⟩)), (7, slice A44 v43.length c45), (8, int .i64 (-1)), (9, func (.func 135) [].toArray [pointer (some ⟨g21, 0, none⟩), pointer (some ⟨g17, 0, none⟩)].toArray)] r → Hp G77 (bx g21 [int .i64 v50] 3 :: bx g17 [int .i64 a1, int .i64 a2, slice A4 a3.length c5, string a8, Value.map (some g10)] 88 :: mpI g10 string bool a11 :: tk (slice A44 v43.length c45) 1 5 :: L) w → v43.length ≤ c45 → Dat (Kd.int .u8) G77 A44 v43 → Own A44 c45 → o = (v64, v71) → I r [] w) ?_ ([] : List Int) (w64 (a12 - 1)) _ hC none 0 _ _ _ gR ⟨rfl, rfl, rfl, rfl, rfl, trivial⟩ hI136 (show ([] : List Int).length ≤ 0 from Nat.le_refl 0) (Dat.nil _ _ _) Own.nil rfl
 intro _ ih v43 v50 o H A44 c45 G77 r wd79 hG78 hHas hI80 hl46 hD47 ho48 ho
 rw [ho] at H; clear ho
 rw [hHas.eq]; clear hHas
 refine hLp _ _ _ ?_
 refine sQ fun K81 hK82 => ?_
 refine sr fun K83 hK84 => ?_
 refine q_mv (v := func (.func 135) [].toArray [pointer (some ⟨g21, 0, none⟩), pointer (some ⟨g17, 0, none⟩)].toArray) rfl ?_
 obtain ⟨y90, hy85, H⟩ := bS H
 refine q_cv (vs := [pointer (some ⟨g21, 0, none⟩), pointer (some ⟨g17, 0, none⟩)]) bo135 rfl rfl (breaks_ruled_letters_1_k1_spec (a3 := v50) (a6 := a1) (a7 := a2) (a8 := a3) (a13 := a8) (a16 := a11) hI80 hl6 (Dat.mono hG78 hD7) hy85) ?_
 rintro _ wd88 ⟨G86, hG87, hI89, rfl⟩
 refine ⟨_, rfl, ?_⟩
 refine nl ?_
 refine hK84 _ _ _ ?_
 by_cases h91 : y90 = true
 replace H := iY h91 H
 refine wpc_true (bval_yes h91) ?_
 refine wpc_skip ?_
 refine hK82 _ _ _ ?_
 refine sQ fun K92 hK93 => ?_
 obtain ⟨v94, hC, H⟩ := bS H
 refine wpc_mono (Q := fun e r ds w => e = .normal ∧ ∃ (A95 : Option Addr) (c96 : Nat) (G101 : Gh), ds = [] ∧ G86 ≤ G101 ∧ Has [(3, pointer (some ⟨g17, 0, none⟩)), (4, pointer (some ⟨g21, 0, none⟩)), (7, slice A95 v94.length c96), (8, int .i64 (-1)), (9, func (.func 135) [].toArray [pointer (some ⟨g21, 0, none⟩), pointer (some ⟨g17, 0, none⟩)].toArray)] r ∧ Hp G101 (bx g21 [int .i64 v50] 3 :: bx g17 [int .i64 a1, int .i64 a2, slice A4 a3.length c5, string a8, Value.map (some g10)] 88 :: mpI g10 string bool a11 :: tk (slice A95 v94.length c96) 1 5 :: L) w ∧ v94.length ≤ c96 ∧ Dat (Kd.int .u8) G101 A95 v94 ∧ Own A95 c96 ∧ True) ?_ ?_
 replace H := hC
 refine wpc_block ?_
 refine sr fun K106 hK107 => ?_
 refine q_fa (a' := ⟨g17, 3, none⟩) fl88_1 rfl (add_plain _ _ _) ?_
 refine q_ld hI89 1 (v := string a8) ag9 rfl rfl rfl ?_
 refine q_ld hI89 0 (v := int .i64 v50) ag3 rfl rfl rfl ?_
 obtain ⟨⟨h108, h108'⟩, H⟩ := iS H
 refine q_is so9 rfl rfl h108 h108' rfl ?_
 refine q_neq rfl rfl ?_
 refine nl ?_
 refine hK107 _ _ _ ?_
 by_cases h109 : ¬ (bt a8 v50) = 126
 replace H := iY h109 H
 refine wpc_true (bool_yes h109) ?_
 refine wpc_region ?_
 refine q_mv (v := slice A44 v43.length c45) rfl ?_
 refine q_fa (a' := ⟨g17, 3, none⟩) fl88_1 rfl (add_plain _ _ _) ?_
 refine q_ld hI89 1 (v := string a8) ag9 rfl rfl rfl ?_
 refine q_ld hI89 0 (v := int .i64 v50) ag3 rfl rfl rfl ?_
 obtain ⟨⟨h110, h110'⟩, H⟩ := iS H
 refine q_is so9 rfl rfl h110 h110' rfl ?_
 refine q_bs hI89 (vs := [(0, int .u8 (bt a8 v50))]) (cs := [int .u8 (bt a8 v50)]) el124 ze5 rfl (by decide) rfl rfl (fun g112 wd113 hI114 => ?_)
 obtain ⟨h124, H⟩ := iS H
 refine q_app (xs := v43) (ys := [bt a8 v50]) (Kd.int .u8) hI114 4 el124 ze5 rfl rfl rfl rfl ho48 hl46 (Dat.mono hG87 hD47) (src_bx hI114 0 so124 rfl rfl) ⟨[int .u8 (bt a8 v50)], _, rfl, rfl, rfl⟩ rfl (by simp only [List.length_cons, List.length_nil]; omega) (by simp only [List.length_cons, List.length_nil]; omega) (fun A115 c116 G117 wd118 hG119 ho120 hl121 hD122 hI123 => ?_)
 refine q_as (v := slice A115 (v43 ++ [bt a8 v50]).length c116) rfl ?_
 refine nl ?_
 have hI125 := Hp.front hI123 4 rfl
 have hI126 := Hp.front hI125 4 rfl
 have hI127 := Hp.front hI126 4 rfl
 have hI128 := Hp.front hI127 4 rfl
 have hI129 := Hp.sub hI128 (sk (sk (sk (sk (sd se)))))
 cases H
 exact ⟨rfl, A115, c116, _, rfl, hG119, ⟨rfl, rfl, rfl, rfl, rfl, trivial⟩, hI129, hl121, hD122, ho120, trivial⟩
 replace H := iN h109 H
 refine wpc_false (bool_no h109) ?_
 refine wpc_skip ?_
 cases H
 exact ⟨rfl, A44, c45, _, rfl, gR, ⟨rfl, rfl, rfl, rfl, rfl, trivial⟩, hI89, hl46, (Dat.mono hG87 hD47), ho48, trivial⟩
 clear hC
 rintro e r ds wd103 ⟨rfl, A95, c96, G101, rfl, hG102, hHas, hI104, hl97, hD98, ho99, _⟩
 rw [hHas.eq]; clear hHas
 refine hK93 _ _ _ ?_
 refine wpc_region ?_
 refine q_ld hI104 0 (v := int .i64 v50) ag3 rfl rfl rfl ?_
 refine q_mv (v := int .i64 (-1)) rfl ?_
 refine q_add rfl rfl ?_
 refine q_stA hI104 0 (v := int .i64 (w64 (v50 + (-1)))) (cs := [int .i64 (w64 (v50 + (-1)))]) (vs' := [int .i64 (w64 (v50 + (-1)))]) ag3 rfl rfl rfl rfl rfl rfl (Nat.le_of_ble_eq_true rfl) rfl (fun wd130 hI131 => ?_)
 refine nl ?_
 exact ih _ _ _ H A95 c96 _ _ _ (gT (gT hG78 hG87) hG102) ⟨rfl, rfl, rfl, rfl, rfl, trivial⟩ hI131 hl97 hD98 ho99 rfl
 replace H := iN h91 H
 refine wpc_false (bval_no h91) ?_
 refine wpc_exit ?_
 cases H
 exact ⟨rfl, A44, c45, _, rfl, (gT hG78 hG87), ⟨rfl, trivial⟩, hI89, hl46, (Dat.mono hG87 hD47), ho48, trivial⟩
 clear hC
 rintro e r ds wd74 ⟨rfl, A65, c66, G72, rfl, hG73, hHas, hI75, hl67, hD68, ho69, _⟩
 rw [hHas.eq]; clear hHas
 refine hK38 _ _ _ ?_
 refine sr fun K137 hK138 => ?_
 refine q_mv (v := slice A65 v64.length c66) rfl ?_
 refine q_cvb hI75 el124 ik5 so9 rfl rfl hD68 ?_
 refine q_as (v := string (bstr v64)) rfl ?_
 refine nl ?_
 refine hK138 _ _ _ ?_
 refine wpc_ret ?_
 have hI139 := Hp.front hI75 2 rfl
 have hI140 := Hp.sub hI139 (sk (sd (sd (sd se))))
 cases H
 exact ⟨.inr rfl, rfl, _, ⟨_, _, rfl, rfl, rfl⟩, _, hG73, hI140, rfl⟩
 replace H := iN h32 H
 refine wpc_false (bval_no h32) ?_
 refine wpc_skip ?_
 refine hK29 _ _ _ ?_
 refine sr fun K141 hK142 => ?_
 refine q_fn (vs := []) (us := [pointer (some ⟨g21, 0, none⟩), pointer (some ⟨g17, 0, none⟩)]) rfl rfl ?_
 refine q_as (v := func (.func 135) [].toArray [pointer (some ⟨g21, 0, none⟩), pointer (some ⟨g17, 0, none⟩)].toArray) rfl ?_
 refine nl ?_
 refine hK142 _ _ _ ?_
 refine sQ fun K143 hK144 => ?_
 refine wpc_block ?_
 obtain ⟨⟨v170, v177⟩, hC, H⟩ := bS H
 refine wpc_mono (Q := fun e r ds w => e = .exit 0 ∧ ∃ (A171 : Option Addr) (c172 : Nat) (G178 : Gh), ds = [] ∧ G ≤ G178 ∧ Has [(7, slice A171 v170.length c172)] r ∧ Hp G178 (bx g21 [int .i64 v177] 3 :: bx g17 [int .i64 a1, int .i64 a2, slice A4 a3.length c5, string a8, Value.map (some g10)] 88 :: mpI g10 string bool a11 :: tk (slice A171 v170.length c172) 1 5 :: L) w ∧ v170.length ≤ c172 ∧ Dat (Kd.int .u8) G178 A171 v170 ∧ Own A171 c172 ∧ True) ?_ ?_
 clear H
 have hI238 := Hp.emp hI23
 have hI240 := Hp.front hI238 3 rfl
 have hI241 := Hp.front hI240 3 rfl
 have hI242 := Hp.front hI241 3 rfl
 refine wpc_loop fun I hLp => ?_
 refine breaks_ruled_letters_k1_l169.partial_correctness a1 a2 a3 a8 a11 (fun v149 v156 o => ∀ (A150 : Option Addr) (c151 : Nat) (G183 : Gh) (r : Rg) (w : World), G ≤ G183 → Has [(3, pointer (some ⟨g17, 0, none⟩)), (4, pointer (some ⟨g21, 0, none⟩)), (7, slice A150 v149.length c151), (8, int .i64 1), (9, func (.func 135) [].toArray [pointer (some ⟨g21, 0, none⟩), pointer (some ⟨g17, 0, none⟩)].toArray)] r → Hp G183 (bx g21 [int .i64 v156] 3 :: bx g17 [int .i64 a1, int .i64 a2, slice A4 a3.length c5, string a8, Value.map (some g10)] 88 :: mpI g10 string bool a11 :: tk (slice A150 v149.length c151) 1 5 :: L) w → v149.length ≤ c151 → Dat (Kd.int .u8) G183 A150 v149 → Own A150 c151 → o = (v170, v177) → I r [] w) ?_ ([] : List Int) a12 _ hC none 0 _ _ _ gR ⟨rfl, rfl, rfl, rfl, rfl, trivial⟩ hI242 (show ([] : List Int).length ≤ 0 from Nat.le_refl 0) (Dat.nil _ _ _) Own.nil rfl
 intro _ ih v149 v156 o H A150 c151 G183 r wd185 hG184 hHas hI186 hl152 hD153 ho154 ho
 rw [ho] at H; clear ho
 rw [hHas.eq]; clear hHas
 refine hLp _ _ _ ?_
 refine sQ fun K187 hK188 => ?_
 refine sr fun K189 hK190 => ?_
 refine q_mv (v := func (.func 135) [].toArray [pointer (some ⟨g21, 0, none⟩), pointer (some ⟨g17, 0, none⟩)].toArray) rfl ?_
 obtain ⟨y196, hy191, H⟩ := bS H
 refine q_cv (vs := [pointer (some ⟨g21, 0, none⟩), pointer (some ⟨g17, 0, none⟩)]) bo135 rfl rfl (breaks_ruled_letters_1_k1_spec (a3 := v156) (a6 := a1) (a7 := a2) (a8 := a3) (a13 := a8) (a16 := a11) hI186 hl6 (Dat.mono hG184 hD7) hy191) ?_
 rintro _ wd194 ⟨G192, hG193, hI195, rfl⟩
 refine ⟨_, rfl, ?_⟩
 refine nl ?_
 refine hK190 _ _ _ ?_
 by_cases h197 : y196 = true
 replace H := iY h197 H
 refine wpc_true (bval_yes h197) ?_
 refine wpc_skip ?_
 refine hK188 _ _ _ ?_
 refine sQ fun K198 hK199 => ?_
 obtain ⟨v200, hC, H⟩ := bS H
 refine wpc_mono (Q := fun e r ds w => e = .normal ∧ ∃ (A201 : Option Addr) (c202 : Nat) (G207 : Gh), ds = [] ∧ G192 ≤ G207 ∧ Has [(3, pointer (some ⟨g17, 0, none⟩)), (4, pointer (some ⟨g21, 0, none⟩)), (7, slice A201 v200.length c202), (8, int .i64 1), (9, func (.func 135) [].toArray [pointer (some ⟨g21, 0, none⟩), pointer (some ⟨g17, 0, none⟩)].toArray)] r ∧ Hp G207 (bx g21 [int .i64 v156] 3 :: bx g17 [int .i64 a1, int .i64 a2, slice A4 a3.length c5, string a8, Value.map (some g10)] 88 :: mpI g10 string bool a11 :: tk (slice A201 v200.length c202) 1 5 :: L) w ∧ v200.length ≤ c202 ∧ Dat (Kd.int .u8) G207 A201 v200 ∧ Own A201 c202 ∧ True) ?_ ?_
 replace H := hC
 refine wpc_block ?_
 refine sr fun K212 hK213 => ?_
 refine q_fa (a' := ⟨g17, 3, none⟩) fl88_1 rfl (add_plain _ _ _) ?_
 refine q_ld hI195 1 (v := string a8) ag9 rfl rfl rfl ?_
 refine q_ld hI195 0 (v := int .i64 v156) ag3 rfl rfl rfl ?_
 obtain ⟨⟨h214, h214'⟩, H⟩ := iS H
 refine q_is so9 rfl rfl h214 h214' rfl ?_
 refine q_neq rfl rfl ?_
 refine nl ?_
 refine hK213 _ _ _ ?_
 by_cases h215 : ¬ (bt a8 v156) = 126
 replace H := iY h215 H
 refine wpc_true (bool_yes h215) ?_
 refine wpc_region ?_
 refine q_mv (v := slice A150 v149.length c151) rfl ?_
 refine q_fa (a' := ⟨g17, 3, none⟩) fl88_1 rfl (add_plain _ _ _) ?_
 refine q_ld hI195 1 (v := string a8) ag9 rfl rfl rfl ?_
 refine q_ld hI195 0 (v := int .i64 v156) ag3 rfl rfl rfl ?_
 obtain ⟨⟨h216, h216'⟩, H⟩ := iS H
 refine q_is so9 rfl rfl h216 h216' rfl ?_
 refine q_bs hI195 (vs := [(0, int .u8 (bt a8 v156))]) (cs := [int .u8 (bt a8 v156)]) el124 ze5 rfl (by decide) rfl rfl (fun g218 wd219 hI220 => ?_)
 obtain ⟨h230, H⟩ := iS H
 refine q_app (xs := v149) (ys := [bt a8 v156]) (Kd.int .u8) hI220 4 el124 ze5 rfl rfl rfl rfl ho154 hl152 (Dat.mono hG193 hD153) (src_bx hI220 0 so124 rfl rfl) ⟨[int .u8 (bt a8 v156)], _, rfl, rfl, rfl⟩ rfl (by simp only [List.length_cons, List.length_nil]; omega) (by simp only [List.length_cons, List.length_nil]; omega) (fun A221 c222 G223 wd224 hG225 ho226 hl227 hD228 hI229 => ?_)
 refine q_as (v := slice A221 (v149 ++ [bt a8 v156]).length c222) rfl ?_
 refine nl ?_
 have hI231 := Hp.front hI229 4 rfl
 have hI232 := Hp.front hI231 4 rfl
 have hI233 := Hp.front hI232 4 rfl
 have hI234 := Hp.front hI233 4 rfl
 have hI235 := Hp.sub hI234 (sk (sk (sk (sk (sd se)))))
 cases H
 exact ⟨rfl, A221, c222, _, rfl, hG225, ⟨rfl, rfl, rfl, rfl, rfl, trivial⟩, hI235, hl227, hD228, ho226, trivial⟩
 replace H := iN h215 H
 refine wpc_false (bool_no h215) ?_
 refine wpc_skip ?_
 cases H
 exact ⟨rfl, A150, c151, _, rfl, gR, ⟨rfl, rfl, rfl, rfl, rfl, trivial⟩, hI195, hl152, (Dat.mono hG193 hD153), ho154, trivial⟩
 clear hC
 rintro e r ds wd209 ⟨rfl, A201, c202, G207, rfl, hG208, hHas, hI210, hl203, hD204, ho205, _⟩
 rw [hHas.eq]; clear hHas
 refine hK199 _ _ _ ?_
 refine wpc_region ?_
 refine q_ld hI210 0 (v := int .i64 v156) ag3 rfl rfl rfl ?_
 refine q_mv (v := int .i64 1) rfl ?_
 refine q_add rfl rfl ?_
 refine q_stA hI210 0 (v := int .i64 (w64 (v156 + 1))) (cs := [int .i64 (w64 (v156 + 1))]) (vs' := [int .i64 (w64 (v156 + 1))]) ag3 rfl rfl rfl rfl rfl rfl (Nat.le_of_ble_eq_true rfl) rfl (fun wd236 hI237 => ?_)
 refine nl ?_
 exact ih _ _ _ H A201 c202 _ _ _ (gT (gT hG184 hG193) hG208) ⟨rfl, rfl, rfl, rfl, rfl, trivial⟩ hI237 hl203 hD204 ho205 rfl
 replace H := iN h197 H
 refine wpc_false (bval_no h197) ?_
 refine wpc_exit ?_
 cases H
 exact ⟨rfl, A150, c151, _, rfl, (gT hG184 hG193), ⟨rfl, trivial⟩, hI195, hl152, (Dat.mono hG193 hD153), ho154, trivial⟩
 clear hC
 rintro e r ds wd180 ⟨rfl, A171, c172, G178, rfl, hG179, hHas, hI181, hl173, hD174, ho175, _⟩
 rw [hHas.eq]; clear hHas
 refine hK144 _ _ _ ?_
 refine sr fun K243 hK244 => ?_
 refine q_mv (v := slice A171 v170.length c172) rfl ?_
 refine q_cvb hI181 el124 ik5 so9 rfl rfl hD174 ?_
 refine q_as (v := string (bstr v170)) rfl ?_
 refine nl ?_
 refine hK244 _ _ _ ?_
 refine wpc_ret ?_
 have hI245 := Hp.front hI181 2 rfl
 have hI246 := Hp.sub hI245 (sk (sd (sd (sd se))))
 cases H
 exact ⟨.inr rfl, rfl, _, ⟨_, _, rfl, rfl, rfl⟩, _, hG179, hI246, rfl⟩
set_option maxHeartbeats 1000000 in
theorem breaks_ruled_soft_k1_spec {a1 : Int} {a2 : Int} {a3 : List ByteArray} {a8 : ByteArray} {a11 : List (ByteArray × Bool)} {a12 : Int} {A4 : Option Addr} {c5 : Nat} {g10 : Nat} {r1482 : Bool} {G : Gh} {L : List Itm} {w : World} (hI : Hp G (mpI g10 string bool a11 :: L) w) (hl6 : a3.length ≤ c5) (hD7 : Dat Kd.str G A4 a3) (H : breaks_ruled_soft_k1 a1 a2 a3 a8 a11 a12 = some r1482) :
    Calls Tryz.prog 81 [agg [int .i64 a1, int .i64 a2, slice A4 a3.length c5, string a8, Value.map (some g10)].toArray, int .i64 a12].toArray w fun e w' => ∃ (G' : Gh), G ≤ G' ∧ Hp G' (mpI g10 string bool a11 :: L) w' ∧ e = .returned (bool r1482) := by
 refine calls_intro (N := 50) Tryz.func81 rfl rfl (Nat.le_of_ble_eq_true rfl) ?_
 unfold breaks_ruled_soft_k1 at H
 refine sr fun K13 hK14 => ?_
 refine q_box hI (v := agg [int .i64 a1, int .i64 a2, slice A4 a3.length c5, string a8, Value.map (some g10)].toArray) (vs := [int .i64 a1, int .i64 a2, slice A4 a3.length c5, string a8, Value.map (some g10)]) rfl rfl (fun g16 wd17 hI18 => ?_)
 refine q_as (v := bool false) rfl ?_
 refine nl ?_
 refine hK14 _ _ _ ?_
 refine sQ fun K19 hK20 => ?_
 obtain ⟨y33, hy218, H⟩ := bS H
 obtain ⟨y234, hy419, H⟩ := bS H
 refine wpc_drawL [0, 0, 2, 7, 0, 0, 63, 127, 255] (fun D r w => (D 3 = false ∧ ∃ (G' : Gh), G ≤ G' ∧ Regs [(1, int .i64 a12), (2, pointer (some ⟨g16, 0, none⟩))] [] [(0, 7, agg [int .i64 a1, int .i64 a2, slice A4 a3.length c5, string a8, Value.map (some g10)].toArray), (1, 8, int .i64 a12), (2, 9, int .i64 (w64 (a12 - 1))), (4, 11, agg [int .i64 a1, int .i64 a2, slice A4 a3.length c5, string a8, Value.map (some g10)].toArray), (5, 12, int .i64 a12)] D r ∧ Hp G' (bx g16 [int .i64 a1, int .i64 a2, slice A4 a3.length c5, string a8, Value.map (some g10)] 88 :: mpI g10 string bool a11 :: L) w) ∨ (D 3 = true ∧ ∃ (G' : Gh), G ≤ G' ∧ Regs [(1, int .i64 a12), (2, pointer (some ⟨g16, 0, none⟩))] [] [(0, 7, agg [int .i64 a1, int .i64 a2, slice A4 a3.length c5, string a8, Value.map (some g10)].toArray), (1, 8, int .i64 a12), (2, 9, int .i64 (w64 (a12 - 1))), (4, 11, agg [int .i64 a1, int .i64 a2, slice A4 a3.length c5, string a8, Value.map (some g10)].toArray), (5, 12, int .i64 a12), (3, 10, string y33), (6, 13, string y234), (7, 5, string y33), (8, 6, string y234)] D r ∧ Hp G' (mpI g10 string bool a11 :: bx g16 [int .i64 a1, int .i64 a2, slice A4 a3.length c5, string a8, Value.map (some g10)] 88 :: L) w)) mixo rfl rfl ?_ ?_ ?_
 exact (.inl ⟨rfl, _, Gh.le_refl _, Regs.start ⟨rfl, rfl, trivial⟩ trivial, hI18.drew⟩)
 refine ⟨?_, ?_, ?_, ?_, ?_, ?_, ?_, ?_, ?_, trivial⟩
 rintro D r wd434 (⟨hd2, G430, hG431, hReg433, hI432⟩ | ⟨hd1, G430, hG431, hReg433, hI432⟩) hDi hpre hpost
 obtain ⟨r0, rfl⟩ := Has.ex (cC (hReg433.ins.get 1 rfl) cN)
 refine q_ldA hI432 0 (cs := [int .i64 a1, int .i64 a2, slice A4 a3.length c5, string a8, Value.map (some g10)]) ag88 rfl rfl rfl rfl ?_
 exact nl ⟨rfl, (.inl ⟨hd2, _, hG431, (Regs.step hReg433 hDi rfl rfl rfl rfl), hI432⟩)⟩
 cases (hpost 3 rfl).symm.trans hd1
 rintro D r wd434 (⟨hd2, G430, hG431, hReg433, hI432⟩ | ⟨hd1, G430, hG431, hReg433, hI432⟩) hDi hpre hpost
 obtain ⟨r0, rfl⟩ := Has.ex (cC (hReg433.ins.get 0 rfl) cN)
 refine q_mv (v := int .i64 a12) rfl ?_
 exact nl ⟨rfl, (.inl ⟨hd2, _, hG431, (Regs.step hReg433 hDi rfl rfl rfl rfl), hI432⟩)⟩
 cases (hpost 3 rfl).symm.trans hd1
 rintro D r wd434 (⟨hd2, G430, hG431, hReg433, hI432⟩ | ⟨hd1, G430, hG431, hReg433, hI432⟩) hDi hpre hpost
 obtain ⟨r0, rfl⟩ := Has.ex (cC (hReg433.get 1 rfl (hpre 1 rfl)) cN)
 refine q_sub rfl rfl ?_
 exact nl ⟨rfl, (.inl ⟨hd2, _, hG431, (Regs.step hReg433 hDi rfl rfl rfl rfl), hI432⟩)⟩
 cases (hpost 3 rfl).symm.trans hd1
 rintro D r wd434 (⟨hd2, G430, hG431, hReg433, hI432⟩ | ⟨hd1, G430, hG431, hReg433, hI432⟩) hDi hpre hpost
 obtain ⟨r0, rfl⟩ := Has.ex (cC (hReg433.get 0 rfl (hpre 0 rfl)) (cC (hReg433.get 2 rfl (hpre 2 rfl)) cN))
 have hI229 := Hp.front hI432 1 rfl
 refine q_cv (vs := [agg [int .i64 a1, int .i64 a2, slice A4 a3.length c5, string a8, Value.map (some g10)].toArray, int .i64 (w64 (a12 - 1)), bool true]) bo108 rfl rfl (breaks_ruled_letters_k1_spec (a1 := a1) (a2 := a2) (a3 := a3) (a8 := a8) (a11 := a11) (a12 := w64 (a12 - 1)) (a13 := true) hI229 hl6 (Dat.mono hG431 hD7) hy218) ?_
 rintro _ wd31 ⟨G29, hG30, hI32, rfl⟩
 refine ⟨_, rfl, ?_⟩
 exact nl ⟨rfl, (.inr ⟨rfl, _, (gT hG431 hG30), (Regs.step (Regs.more (new := [(3, 10, string y33), (6, 13, string y234), (7, 5, string y33), (8, 6, string y234)]) hReg433 (List.forall_mem_cons.2 ⟨hDi, (List.forall_mem_cons.2 ⟨hpost 6 rfl, (List.forall_mem_cons.2 ⟨hpost 7 rfl, (List.forall_mem_cons.2 ⟨hpost 8 rfl, (fun _ h => nomatch h)⟩)⟩)⟩)⟩)) hDi rfl rfl rfl rfl), hI32⟩)⟩
 cases hDi.symm.trans hd1
 rintro D r wd434 (⟨hd2, G430, hG431, hReg433, hI432⟩ | ⟨hd1, G430, hG431, hReg433, hI432⟩) hDi hpre hpost
 obtain ⟨r0, rfl⟩ := Has.ex (cC (hReg433.ins.get 1 rfl) cN)
 refine q_ldA hI432 0 (cs := [int .i64 a1, int .i64 a2, slice A4 a3.length c5, string a8, Value.map (some g10)]) ag88 rfl rfl rfl rfl ?_
 exact nl ⟨rfl, (.inl ⟨hd2, _, hG431, (Regs.step hReg433 hDi rfl rfl rfl rfl), hI432⟩)⟩
 obtain ⟨r0, rfl⟩ := Has.ex (cC (hReg433.ins.get 1 rfl) cN)
 refine q_ldA hI432 1 (cs := [int .i64 a1, int .i64 a2, slice A4 a3.length c5, string a8, Value.map (some g10)]) ag88 rfl rfl rfl rfl ?_
 exact nl ⟨rfl, (.inr ⟨hd1, _, hG431, (Regs.step hReg433 hDi rfl rfl rfl rfl), hI432⟩)⟩
 rintro D r wd434 (⟨hd2, G430, hG431, hReg433, hI432⟩ | ⟨hd1, G430, hG431, hReg433, hI432⟩) hDi hpre hpost
 obtain ⟨r0, rfl⟩ := Has.ex (cC (hReg433.ins.get 0 rfl) cN)
 refine q_mv (v := int .i64 a12) rfl ?_
 exact nl ⟨rfl, (.inl ⟨hd2, _, hG431, (Regs.step hReg433 hDi rfl rfl rfl rfl), hI432⟩)⟩
 obtain ⟨r0, rfl⟩ := Has.ex (cC (hReg433.ins.get 0 rfl) cN)
 refine q_mv (v := int .i64 a12) rfl ?_
 exact nl ⟨rfl, (.inr ⟨hd1, _, hG431, (Regs.step hReg433 hDi rfl rfl rfl rfl), hI432⟩)⟩
 rintro D r wd434 (⟨hd2, G430, hG431, hReg433, hI432⟩ | ⟨hd1, G430, hG431, hReg433, hI432⟩) hDi hpre hpost
 cases (hpre 3 rfl).symm.trans hd2
 obtain ⟨r0, rfl⟩ := Has.ex (cC (hReg433.get 3 rfl (hpre 4 rfl)) (cC (hReg433.get 4 rfl (hpre 5 rfl)) cN))
 refine q_cv (vs := [agg [int .i64 a1, int .i64 a2, slice A4 a3.length c5, string a8, Value.map (some g10)].toArray, int .i64 a12, bool false]) bo108 rfl rfl (breaks_ruled_letters_k1_spec (a1 := a1) (a2 := a2) (a3 := a3) (a8 := a8) (a11 := a11) (a12 := a12) (a13 := false) hI432 hl6 (Dat.mono hG431 hD7) hy419) ?_
 rintro _ wd232 ⟨G230, hG231, hI233, rfl⟩
 refine ⟨_, rfl, ?_⟩
 exact nl ⟨rfl, (.inr ⟨hd1, _, (gT hG431 hG231), (Regs.step hReg433 hDi rfl rfl rfl rfl), hI233⟩)⟩
 rintro D r wd434 (⟨hd2, G430, hG431, hReg433, hI432⟩ | ⟨hd1, G430, hG431, hReg433, hI432⟩) hDi hpre hpost
 cases (hpre 3 rfl).symm.trans hd2
 obtain ⟨r0, rfl⟩ := Has.ex (cC (hReg433.get 5 rfl (hpre 3 rfl)) cN)
 refine q_as (v := string y33) rfl ?_
 exact nl ⟨rfl, (.inr ⟨hd1, _, hG431, (Regs.step hReg433 hDi rfl rfl rfl rfl), hI432⟩)⟩
 rintro D r wd434 (⟨hd2, G430, hG431, hReg433, hI432⟩ | ⟨hd1, G430, hG431, hReg433, hI432⟩) hDi hpre hpost
 cases (hpre 3 rfl).symm.trans hd2
 obtain ⟨r0, rfl⟩ := Has.ex (cC (hReg433.get 6 rfl (hpre 6 rfl)) cN)
 refine q_as (v := string y234) rfl ?_
 exact nl ⟨rfl, (.inr ⟨hd1, _, hG431, (Regs.step hReg433 hDi rfl rfl rfl rfl), hI432⟩)⟩
 intro D r wd434 hall hR
 rcases hR with ⟨hd2, G430, hG431, hReg433, hI432⟩ | ⟨hd1, G430, hG431, hReg433, hI432⟩
 cases (hall 3 (Nat.le_of_ble_eq_true rfl)).symm.trans hd2
 obtain ⟨r0, rfl⟩ := Has.ex (cC (hReg433.ins.get 0 rfl) (cC (hReg433.ins.get 1 rfl) (cC (hReg433.get 7 rfl (hall 7 (Nat.le_of_ble_eq_true rfl))) (cC (hReg433.get 8 rfl (hall 8 (Nat.le_of_ble_eq_true rfl))) cN))))
 refine hK20 _ _ _ ?_
 refine sQ fun K435 hK436 => ?_
 refine sr fun K437 hK438 => ?_
 refine q_mv (v := int .i64 a12) rfl ?_
 refine q_lss rfl rfl ?_
 refine q_mv (v := bool (decide (a12 < 2))) rfl ?_
 obtain ⟨v439, hC, H⟩ := bS H
 refine wpq_split 8 (K := fun e r ds w => e = .normal ∧ ∃ (G440 : Gh), ds = [] ∧ G430 ≤ G440 ∧ Has [(2, pointer (some ⟨g16, 0, none⟩)), (5, string y33), (6, string y234), (24, bool v439)] r ∧ Hp G440 (mpI g10 string bool a11 :: bx g16 [int .i64 a1, int .i64 a2, slice A4 a3.length c5, string a8, Value.map (some g10)] 88 :: L) w ∧ True) ?_ ?_
 replace H := hC
 by_cases h445 : a12 < 2
 replace H := iY h445 H
 refine wN (gN rfl rfl rfl (bool_yes h445) rfl) ?_
 refine wN (gN rfl rfl rfl (bool_yes h445) rfl) ?_
 refine wN (gN rfl rfl rfl (bool_yes h445) rfl) ?_
 refine wN (gN rfl rfl rfl (bool_yes h445) rfl) ?_
 refine wN (gN rfl rfl rfl (bool_yes h445) rfl) ?_
 refine wN (gN rfl rfl rfl (bool_yes h445) rfl) ?_
 refine wN (gN rfl rfl rfl (bool_yes h445) rfl) ?_
 refine q_pick true (v := bool true) (bool_yes h445) rfl ?_
 refine nl ?_
 cases H
 exact ⟨rfl, _, rfl, gR, ⟨rfl, rfl, rfl, rfl, trivial⟩, hI432, trivial⟩
 replace H := iN h445 H
 refine q_fa (a' := ⟨g16, 3, none⟩) fl88_1 rfl (add_plain _ _ _) ?_ (hw := gY rfl rfl rfl (bool_no h445))
 refine q_ld hI432 1 (v := string a8) ag9 rfl rfl rfl ?_ (hw := gY rfl rfl rfl (bool_no h445))
 refine q_mv (v := int .i64 a12) rfl ?_ (hw := gY rfl rfl rfl (bool_no h445))
 refine q_sub rfl rfl ?_ (hw := gY rfl rfl rfl (bool_no h445))
 obtain ⟨⟨h446, h446'⟩, H⟩ := iS H
 refine q_is so9 rfl rfl h446 h446' rfl ?_ (hw := gY rfl rfl rfl (bool_no h445))
 obtain ⟨y452, hy447, H⟩ := bS H
 refine q_cv (vs := [int .u8 (bt a8 (w64 (a12 - 2)))]) bo107 rfl rfl (breaks_letter_spec (a1 := bt a8 (w64 (a12 - 2))) hI432 hy447) ?_ (hw := gY rfl rfl rfl (bool_no h445))
 rintro _ wd450 ⟨G448, hG449, hI451, rfl⟩
 refine ⟨_, rfl, ?_⟩
 refine q_not rfl ?_ (hw := gY rfl rfl rfl (bool_no h445))
 refine q_pick false (v := bool (!y452)) (bool_no h445) rfl ?_
 refine nl ?_
 cases H
 exact ⟨rfl, _, rfl, hG449, ⟨rfl, rfl, rfl, rfl, trivial⟩, hI451, trivial⟩
 clear hC
 rintro e r ds wd442 ⟨rfl, G440, rfl, hG441, hHas, hI443, _⟩
 rw [hHas.eq]; clear hHas
 refine q_mv (v := bool v439) rfl ?_
 obtain ⟨v453, hC, H⟩ := bS H
 refine wpq_split 7 (K := fun e r ds w => e = .normal ∧ ∃ (G454 : Gh), ds = [] ∧ G440 ≤ G454 ∧ Has [(2, pointer (some ⟨g16, 0, none⟩)), (5, string y33), (6, string y234), (32, bool v453)] r ∧ Hp G454 (mpI g10 string bool a11 :: bx g16 [int .i64 a1, int .i64 a2, slice A4 a3.length c5, string a8, Value.map (some g10)] 88 :: L) w ∧ True) ?_ ?_
 replace H := hC
 by_cases h459 : v439 = true
 replace H := iY h459 H
 refine wN (gN rfl rfl rfl (bval_yes h459) rfl) ?_
 refine wN (gN rfl rfl rfl (bval_yes h459) rfl) ?_
 refine wN (gN rfl rfl rfl (bval_yes h459) rfl) ?_
 refine wN (gN rfl rfl rfl (bval_yes h459) rfl) ?_
 refine wN (gN rfl rfl rfl (bval_yes h459) rfl) ?_
 refine wN (gN rfl rfl rfl (bval_yes h459) rfl) ?_
 refine q_pick true (v := bool true) (bval_yes h459) rfl ?_
 refine nl ?_
 cases H
 exact ⟨rfl, _, rfl, gR, ⟨rfl, rfl, rfl, rfl, trivial⟩, hI443, trivial⟩
 replace H := iN h459 H
 refine q_mv (v := string y33) rfl ?_ (hw := gY rfl rfl rfl (bval_no h459))
 refine q_lens so9 rfl ?_ (hw := gY rfl rfl rfl (bval_no h459))
 refine q_fa (a' := ⟨g16, 0, none⟩) fl88_0 rfl (add_plain _ _ _) ?_ (hw := gY rfl rfl rfl (bval_no h459))
 refine q_fa (a' := ⟨g16, 0, none⟩) fl28_0 rfl (add_plain _ _ _) ?_ (hw := gY rfl rfl rfl (bval_no h459))
 refine q_ld hI443 1 (v := int .i64 a1) ag3 rfl rfl rfl ?_ (hw := gY rfl rfl rfl (bval_no h459))
 refine q_lss rfl rfl ?_ (hw := gY rfl rfl rfl (bval_no h459))
 refine q_pick false (v := bool (decide ((y33.size : Int) < a1))) (bval_no h459) rfl ?_
 refine nl ?_
 cases H
 exact ⟨rfl, _, rfl, gR, ⟨rfl, rfl, rfl, rfl, trivial⟩, hI443, trivial⟩
 clear hC
 rintro e r ds wd456 ⟨rfl, G454, rfl, hG455, hHas, hI457, _⟩
 rw [hHas.eq]; clear hHas
 refine q_mv (v := bool v453) rfl ?_
 obtain ⟨v460, hC, H⟩ := bS H
 refine wpq_split 7 (K := fun e r ds w => e = .normal ∧ ∃ (G461 : Gh), ds = [] ∧ G454 ≤ G461 ∧ Has [(2, pointer (some ⟨g16, 0, none⟩)), (5, string y33), (6, string y234), (40, bool v460)] r ∧ Hp G461 (mpI g10 string bool a11 :: bx g16 [int .i64 a1, int .i64 a2, slice A4 a3.length c5, string a8, Value.map (some g10)] 88 :: L) w ∧ True) ?_ ?_
 replace H := hC
 by_cases h466 : v453 = true
 replace H := iY h466 H
 refine wN (gN rfl rfl rfl (bval_yes h466) rfl) ?_
 refine wN (gN rfl rfl rfl (bval_yes h466) rfl) ?_
 refine wN (gN rfl rfl rfl (bval_yes h466) rfl) ?_
 refine wN (gN rfl rfl rfl (bval_yes h466) rfl) ?_
 refine wN (gN rfl rfl rfl (bval_yes h466) rfl) ?_
 refine wN (gN rfl rfl rfl (bval_yes h466) rfl) ?_
 refine q_pick true (v := bool true) (bval_yes h466) rfl ?_
 refine nl ?_
 cases H
 exact ⟨rfl, _, rfl, gR, ⟨rfl, rfl, rfl, rfl, trivial⟩, hI457, trivial⟩
 replace H := iN h466 H
 refine q_mv (v := string y234) rfl ?_ (hw := gY rfl rfl rfl (bval_no h466))
 refine q_lens so9 rfl ?_ (hw := gY rfl rfl rfl (bval_no h466))
 refine q_fa (a' := ⟨g16, 0, none⟩) fl88_0 rfl (add_plain _ _ _) ?_ (hw := gY rfl rfl rfl (bval_no h466))
 refine q_fa (a' := ⟨g16, 1, none⟩) fl28_1 rfl (add_plain _ _ _) ?_ (hw := gY rfl rfl rfl (bval_no h466))
 refine q_ld hI457 1 (v := int .i64 a2) ag3 rfl rfl rfl ?_ (hw := gY rfl rfl rfl (bval_no h466))
 refine q_lss rfl rfl ?_ (hw := gY rfl rfl rfl (bval_no h466))
 refine q_pick false (v := bool (decide ((y234.size : Int) < a2))) (bval_no h466) rfl ?_
 refine nl ?_
 cases H
 exact ⟨rfl, _, rfl, gR, ⟨rfl, rfl, rfl, rfl, trivial⟩, hI457, trivial⟩
 clear hC
 rintro e r ds wd463 ⟨rfl, G461, rfl, hG462, hHas, hI464, _⟩
 rw [hHas.eq]; clear hHas
 refine nl ?_
 refine hK438 _ _ _ ?_
 by_cases h467 : v460 = true
 replace H := iY h467 H
 refine wpc_true (bval_yes h467) ?_
 refine sr fun K468 hK469 => ?_
 refine q_as (v := bool false) rfl ?_
 refine nl ?_
 refine hK469 _ _ _ ?_
 refine wpc_ret ?_
 have hI470 := Hp.sub hI464 (sk (sd se))
 cases H
 exact ⟨.inr rfl, rfl, _, ⟨_, _, rfl, rfl, rfl⟩, _, (gT (gT (gT hG431 hG441) hG455) hG462), hI470, rfl⟩
 replace H := iN h467 H
 refine wpc_false (bval_no h467) ?_
 refine wpc_skip ?_
 refine hK436 _ _ _ ?_
 refine sQ fun K471 hK472 => ?_
 refine wpc_quiet mixo (by kernel_rfl) ?_
 have hI473 := hI464.drew
 refine wq (q_fa (a' := ⟨g16, 4, none⟩) fl88_2 rfl (add_plain _ _ _) wqd) rfl ?_
 refine wq (q_ld hI473 1 (v := Value.map (some g10)) ag86 rfl rfl rfl wqd) rfl ?_
 refine wq (q_mv (v := string y33) rfl wqd) rfl ?_
 obtain ⟨⟨h475, h476⟩, H⟩ := iS H
 refine wq (q_ss (l := 0) (h := 1) so9 rfl (.inl ⟨rfl, rfl⟩) (.inr ⟨_, rfl, rfl⟩) (Int.le_refl 0) h475 h476 wqd) rfl ?_
 refine wq (q_mv (v := string y234) rfl wqd) rfl ?_
 obtain ⟨⟨h478, h479⟩, H⟩ := iS H
 refine wq (q_ss (l := 0) (h := 1) so9 rfl (.inl ⟨rfl, rfl⟩) (.inr ⟨_, rfl, rfl⟩) (Int.le_refl 0) h478 h479 wqd) rfl ?_
 obtain ⟨h480, H⟩ := iS H
 refine wq (q_str_add rfl rfl h480 wqd) rfl ?_
 refine wq (q_mlk (zv := false) hI473 0 mt86 (ky_str so9) zv4 rfl rfl rfl wqd) rfl ?_
 refine wq (q_not rfl wqd) rfl ?_
 refine wq (q_as (v := bool (!((mget a11 ((sub y33 0 1) ++ (sub y234 0 1))).getD false))) rfl wqd) rfl ?_
 refine wqq_nil ?_
 refine hK472 _ _ _ ?_
 refine wpc_ret ?_
 have hI481 := Hp.sub hI473 (sk (sd se))
 cases H
 exact ⟨.inr rfl, rfl, _, ⟨_, _, rfl, rfl, rfl⟩, _, (gT (gT (gT hG431 hG441) hG455) hG462), hI481, rfl⟩
set_option maxHeartbeats 1000000 in
theorem breaks_ruled_places_1_k1_spec {σ : Type} {St : σ → Gh → List Itm → Prop} {yl : Nat} {φ : σ → api_Break → Option (σ × Bool)} {sy : σ} {a3 : Int} {a4 : Int} {a5 : List ByteArray} {a10 : ByteArray} {a13 : List (ByteArray × Bool)} {g2 : Nat} {A6 : Option Addr} {c7 : Nat} {g12 : Nat} {ry : σ} {G : Gh} {T : List Itm} {w : World} (hI : Hp G (bx g2 [int .i64 a3, int .i64 a4, slice A6 a5.length c7, string a10, Value.map (some g12)] 88 :: mpI g12 string bool a13 :: T) w) (hl8 : a5.length ≤ c7) (hD9 : Dat Kd.str G A6 a5) (hy : Yl Tryz.prog φ (encS k_api_Break) St yl) (hS : St sy G T) (H : breaks_ruled_places_1_k1 φ sy a3 a4 a5 a10 a13 = some ry) :
    Calls Tryz.prog 79 [func (.yield yl) #[] #[], pointer (some ⟨g2, 0, none⟩)].toArray w fun e w' => ∃ (T' : List Itm) (G' : Gh), G ≤ G' ∧ Hp G' (bx g2 [int .i64 a3, int .i64 a4, slice A6 a5.length c7, string a10, Value.map (some g12)] 88 :: mpI g12 string bool a13 :: T') w' ∧ St ry G' T' ∧ e = .returned (tuple [].toArray) := by
 refine calls_intro (N := 75) Tryz.func79 rfl rfl (Nat.le_of_ble_eq_true rfl) ?_
 unfold breaks_ruled_places_1_k1 at H
 refine sr fun K14 hK15 => ?_
 refine q_as (v := bool false) rfl ?_
 refine nl ?_
 refine hK15 _ _ _ ?_
 refine sr fun K16 hK17 => ?_
 refine q_as (v := int .i64 1) rfl ?_
 refine nl ?_
 refine hK17 _ _ _ ?_
 refine wpc_block ?_
 obtain ⟨o51, hC, H⟩ := bS H
 refine wpc_mono (Q := fun e r ds w => match (generalizing := false) o51 with | (Sum.inl v38) => e = .ret ∧ ∃ (T37 : List Itm) (G43 : Gh), ds = [] ∧ G ≤ G43 ∧ Has [] r ∧ Hp G43 (bx g2 [int .i64 a3, int .i64 a4, slice A6 a5.length c7, string a10, Value.map (some g12)] 88 :: mpI g12 string bool a13 :: T37) w ∧ St v38 G43 T37 ∧ True | (Sum.inr v41) => e = .exit 0 ∧ ∃ (T40 : List Itm) (G47 : Gh), ds = [] ∧ G ≤ G47 ∧ Has [] r ∧ Hp G47 (bx g2 [int .i64 a3, int .i64 a4, slice A6 a5.length c7, string a10, Value.map (some g12)] 88 :: mpI g12 string bool a13 :: T40) w ∧ St v41 G47 T40 ∧ True) ?_ ?_
 clear H
 refine wpc_loop fun I hLp => ?_
 refine breaks_ruled_places_1_k1_l36.partial_correctness φ a3 a4 a5 a10 a13 (fun v22 v23 v25 o => ∀ (T24 : List Itm) (G52 : Gh) (r : Rg) (w : World), G ≤ G52 → Has [(0, func (.yield yl) #[] #[]), (1, pointer (some ⟨g2, 0, none⟩)), (3, bool v22), (4, int .i64 v23)] r → Hp G52 (bx g2 [int .i64 a3, int .i64 a4, slice A6 a5.length c7, string a10, Value.map (some g12)] 88 :: mpI g12 string bool a13 :: T24) w → St v25 G52 T24 → o = o51 → I r [] w) ?_ false 1 sy _ hC T _ _ _ gR ⟨rfl, rfl, rfl, rfl, trivial⟩ hI hS rfl
 intro _ ih v22 v23 v25 o H T24 G52 r wd54 hG53 hHas hI55 hS26 ho
 rw [ho] at H; clear ho
 rw [hHas.eq]; clear hHas
 refine hLp _ _ _ ?_
 refine sQ fun K56 hK57 => ?_
 refine sr fun K58 hK59 => ?_
 refine q_mv (v := int .i64 v23) rfl ?_
 refine q_fa (a' := ⟨g2, 3, none⟩) fl88_1 rfl (add_plain _ _ _) ?_
 refine q_ld hI55 0 (v := string a10) ag9 rfl rfl rfl ?_
 refine q_lens so9 rfl ?_
 refine q_lss rfl rfl ?_
 refine nl ?_
 refine hK59 _ _ _ ?_
 by_cases h60 : v23 < (a10.size : Int)
 replace H := iY h60 H
 refine wpc_true (bool_yes h60) ?_
 refine wpc_skip ?_
 refine hK57 _ _ _ ?_
 refine sQ fun K61 hK62 => ?_
 obtain ⟨o78, hC, H⟩ := bS H
 refine wpc_mono (Q := fun e r ds w => match (generalizing := false) o78 with | (Sum.inl v64) => e = .ret ∧ ∃ (T63 : List Itm) (G70 : Gh), ds = [] ∧ G52 ≤ G70 ∧ Has [] r ∧ Hp G70 (bx g2 [int .i64 a3, int .i64 a4, slice A6 a5.length c7, string a10, Value.map (some g12)] 88 :: mpI g12 string bool a13 :: T63) w ∧ St v64 G70 T63 ∧ True | (Sum.inr (v66, v68)) => e = .normal ∧ ∃ (T67 : List Itm) (G74 : Gh), ds = [] ∧ G52 ≤ G74 ∧ Has [(0, func (.yield yl) #[] #[]), (1, pointer (some ⟨g2, 0, none⟩)), (3, bool v66), (4, int .i64 v23)] r ∧ Hp G74 (bx g2 [int .i64 a3, int .i64 a4, slice A6 a5.length c7, string a10, Value.map (some g12)] 88 :: mpI g12 string bool a13 :: T67) w ∧ St v68 G74 T67 ∧ True) ?_ ?_
 replace H := hC
 refine wpc_block ?_
 refine sr fun K79 hK80 => ?_
 refine q_mv (v := bool v22) rfl ?_
 refine q_mv (v := bool v22) rfl ?_
 obtain ⟨v81, hC, H⟩ := bS H
 refine wpq_split 7 (K := fun e r ds w => e = .normal ∧ ∃ (G82 : Gh), ds = [] ∧ G52 ≤ G82 ∧ Has [(0, func (.yield yl) #[] #[]), (1, pointer (some ⟨g2, 0, none⟩)), (4, int .i64 v23), (21, bool v81)] r ∧ Hp G82 (bx g2 [int .i64 a3, int .i64 a4, slice A6 a5.length c7, string a10, Value.map (some g12)] 88 :: mpI g12 string bool a13 :: T24) w ∧ True) ?_ ?_
 replace H := hC
 by_cases h87 : v22 = true
 replace H := iY h87 H
 refine wN (gN rfl rfl rfl (bval_yes h87) rfl) ?_
 refine wN (gN rfl rfl rfl (bval_yes h87) rfl) ?_
 refine wN (gN rfl rfl rfl (bval_yes h87) rfl) ?_
 refine wN (gN rfl rfl rfl (bval_yes h87) rfl) ?_
 refine wN (gN rfl rfl rfl (bval_yes h87) rfl) ?_
 refine wN (gN rfl rfl rfl (bval_yes h87) rfl) ?_
 refine q_pick true (v := bool true) (bval_yes h87) rfl ?_
 refine nl ?_
 cases H
 exact ⟨rfl, _, rfl, gR, ⟨rfl, rfl, rfl, rfl, trivial⟩, hI55, trivial⟩
 replace H := iN h87 H
 refine q_fa (a' := ⟨g2, 3, none⟩) fl88_1 rfl (add_plain _ _ _) ?_ (hw := gY rfl rfl rfl (bval_no h87))
 refine q_ld hI55 0 (v := string a10) ag9 rfl rfl rfl ?_ (hw := gY rfl rfl rfl (bval_no h87))
 refine q_mv (v := int .i64 v23) rfl ?_ (hw := gY rfl rfl rfl (bval_no h87))
 refine q_sub rfl rfl ?_ (hw := gY rfl rfl rfl (bval_no h87))
 obtain ⟨⟨h88, h88'⟩, H⟩ := iS H
 refine q_is so9 rfl rfl h88 h88' rfl ?_ (hw := gY rfl rfl rfl (bval_no h87))
 refine q_neq rfl rfl ?_ (hw := gY rfl rfl rfl (bval_no h87))
 refine q_pick false (v := bool (decide (¬ (bt a10 (w64 (v23 - 1))) = 32))) (bval_no h87) rfl ?_
 refine nl ?_
 cases H
 exact ⟨rfl, _, rfl, gR, ⟨rfl, rfl, rfl, rfl, trivial⟩, hI55, trivial⟩
 clear hC
 rintro e r ds wd84 ⟨rfl, G82, rfl, hG83, hHas, hI85, _⟩
 rw [hHas.eq]; clear hHas
 refine q_as (v := bool v81) rfl ?_
 refine nl ?_
 refine hK80 _ _ _ ?_
 refine sr fun K89 hK90 => ?_
 refine q_as (v := bool false) rfl ?_
 refine nl ?_
 refine hK90 _ _ _ ?_
 refine sQ fun K91 hK92 => ?_
 refine sr fun K93 hK94 => ?_
 refine q_fa (a' := ⟨g2, 3, none⟩) fl88_1 rfl (add_plain _ _ _) ?_
 refine q_ld hI85 0 (v := string a10) ag9 rfl rfl rfl ?_
 refine q_mv (v := int .i64 v23) rfl ?_
 refine q_sub rfl rfl ?_
 obtain ⟨⟨h95, h95'⟩, H⟩ := iS H
 refine q_is so9 rfl rfl h95 h95' rfl ?_
 refine nl ?_
 refine hK94 _ _ _ ?_
 refine wpc_block ?_
 refine sr fun K96 hK97 => ?_
 refine q_eql rfl rfl ?_
 refine q_as (v := bool (decide ((bt a10 (w64 (v23 - 1))) = 32))) rfl ?_
 refine nl ?_
 refine hK97 _ _ _ ?_
 by_cases h98 : (bt a10 (w64 (v23 - 1))) = 32
 replace H := iY h98 H
 refine wpc_true (bool_yes h98) ?_
 refine wpc_region ?_
 refine q_mv (v := bool v81) rfl ?_
 refine q_mv (v := bool v81) rfl ?_
 obtain ⟨v99, hC, H⟩ := bS H
 refine wpq_split 6 (K := fun e r ds w => e = .normal ∧ ∃ (G100 : Gh), ds = [] ∧ G82 ≤ G100 ∧ Has [(0, func (.yield yl) #[] #[]), (1, pointer (some ⟨g2, 0, none⟩)), (3, bool v81), (4, int .i64 v23), (36, bool v99)] r ∧ Hp G100 (bx g2 [int .i64 a3, int .i64 a4, slice A6 a5.length c7, string a10, Value.map (some g12)] 88 :: mpI g12 string bool a13 :: T24) w ∧ True) ?_ ?_
 replace H := hC
 by_cases h105 : v81 = true
 replace H := iY h105 H
 refine q_fa (a' := ⟨g2, 3, none⟩) fl88_1 rfl (add_plain _ _ _) ?_ (hw := gY rfl rfl rfl (bval_yes h105))
 refine q_ld hI85 0 (v := string a10) ag9 rfl rfl rfl ?_ (hw := gY rfl rfl rfl (bval_yes h105))
 refine q_mv (v := int .i64 v23) rfl ?_ (hw := gY rfl rfl rfl (bval_yes h105))
 obtain ⟨⟨h106, h106'⟩, H⟩ := iS H
 refine q_is so9 rfl rfl h106 h106' rfl ?_ (hw := gY rfl rfl rfl (bval_yes h105))
 refine q_neq rfl rfl ?_ (hw := gY rfl rfl rfl (bval_yes h105))
 refine q_pick true (v := bool (decide (¬ (bt a10 v23) = 32))) (bval_yes h105) rfl ?_
 refine nl ?_
 cases H
 exact ⟨rfl, _, rfl, gR, ⟨rfl, rfl, rfl, rfl, rfl, trivial⟩, hI85, trivial⟩
 replace H := iN h105 H
 refine wN (gN rfl rfl rfl (bval_no h105) rfl) ?_
 refine wN (gN rfl rfl rfl (bval_no h105) rfl) ?_
 refine wN (gN rfl rfl rfl (bval_no h105) rfl) ?_
 refine wN (gN rfl rfl rfl (bval_no h105) rfl) ?_
 refine wN (gN rfl rfl rfl (bval_no h105) rfl) ?_
 refine q_pick false (v := bool false) (bval_no h105) rfl ?_
 refine nl ?_
 cases H
 exact ⟨rfl, _, rfl, gR, ⟨rfl, rfl, rfl, rfl, rfl, trivial⟩, hI85, trivial⟩
 clear hC
 rintro e r ds wd102 ⟨rfl, G100, rfl, hG101, hHas, hI103, _⟩
 rw [hHas.eq]; clear hHas
 refine q_as (v := bool v99) rfl ?_
 refine nl ?_
 refine hK92 _ _ _ ?_
 refine sr fun K107 hK108 => ?_
 refine q_mv (v := bool v99) rfl ?_
 refine q_mv (v := bool v99) rfl ?_
 obtain ⟨⟨v109, v111⟩, hC, H⟩ := bS H
 refine wpq_split 12 (K := fun e r ds w => e = .normal ∧ ∃ (T110 : List Itm) (G113 : Gh), ds = [] ∧ G100 ≤ G113 ∧ Has [(0, func (.yield yl) #[] #[]), (1, pointer (some ⟨g2, 0, none⟩)), (3, bool v81), (4, int .i64 v23), (74, bool v109)] r ∧ Hp G113 (bx g2 [int .i64 a3, int .i64 a4, slice A6 a5.length c7, string a10, Value.map (some g12)] 88 :: mpI g12 string bool a13 :: T110) w ∧ St v111 G113 T110 ∧ True) ?_ ?_
 replace H := hC
 by_cases h118 : v99 = true
 replace H := iY h118 H
 refine q_mv (v := func (.yield yl) #[] #[]) rfl ?_ (hw := gY rfl rfl rfl (bval_yes h118))
 refine q_mv (v := int .i64 v23) rfl ?_ (hw := gY rfl rfl rfl (bval_yes h118))
 refine q_fa (a' := ⟨g2, 3, none⟩) fl88_1 rfl (add_plain _ _ _) ?_ (hw := gY rfl rfl rfl (bval_yes h118))
 refine q_ld hI103 0 (v := string a10) ag9 rfl rfl rfl ?_ (hw := gY rfl rfl rfl (bval_yes h118))
 refine q_mv (v := int .i64 v23) rfl ?_ (hw := gY rfl rfl rfl (bval_yes h118))
 refine q_sub rfl rfl ?_ (hw := gY rfl rfl rfl (bval_yes h118))
 obtain ⟨⟨h119, h119'⟩, H⟩ := iS H
 refine q_is so9 rfl rfl h119 h119' rfl ?_ (hw := gY rfl rfl rfl (bval_yes h118))
 refine q_eql rfl rfl ?_ (hw := gY rfl rfl rfl (bval_yes h118))
 refine q_build (vs := [(0, int .i64 v23), (1, bool (decide ((bt a10 (w64 (v23 - 1))) = 126)))]) (cs := [int .i64 v23, bool (decide ((bt a10 (w64 (v23 - 1))) = 126))]) ze51 pl51 rfl rfl ?_ (hw := gY rfl rfl rfl (bval_yes h118))
 obtain ⟨⟨s120, b121⟩, hx122, H⟩ := bS H
 refine q_yl hy [bx g2 [int .i64 a3, int .i64 a4, slice A6 a5.length c7, string a10, Value.map (some g12)] 88, mpI g12 string bool a13] hI103 (hy.mono (gT hG83 hG101) hS26) rfl rfl ⟨_, rfl, (mk_api_Break (x := (⟨v23, decide ((bt a10 (w64 (v23 - 1))) = 126)⟩ : api_Break)))⟩ hx122 (fun wd123 G124 T125 hG126 hS127 hI128 => ?_) (hw := gY rfl rfl rfl (bval_yes h118))
 refine q_not rfl ?_ (hw := gY rfl rfl rfl (bval_yes h118))
 refine q_pick true (v := bool (!b121)) (bval_yes h118) rfl ?_
 refine nl ?_
 cases H
 exact ⟨rfl, T125, _, rfl, hG126, ⟨rfl, rfl, rfl, rfl, rfl, trivial⟩, hI128, hS127, trivial⟩
 replace H := iN h118 H
 refine wN (gN rfl rfl rfl (bval_no h118) rfl) ?_
 refine wN (gN rfl rfl rfl (bval_no h118) rfl) ?_
 refine wN (gN rfl rfl rfl (bval_no h118) rfl) ?_
 refine wN (gN rfl rfl rfl (bval_no h118) rfl) ?_
 refine wN (gN rfl rfl rfl (bval_no h118) rfl) ?_
 refine wN (gN rfl rfl rfl (bval_no h118) rfl) ?_
 refine wN (gN rfl rfl rfl (bval_no h118) rfl) ?_
 refine wN (gN rfl rfl rfl (bval_no h118) rfl) ?_
 refine wN (gN rfl rfl rfl (bval_no h118) rfl) ?_
 refine wN (gN rfl rfl rfl (bval_no h118) rfl) ?_
 refine wN (gN rfl rfl rfl (bval_no h118) rfl) ?_
 refine q_pick false (v := bool false) (bval_no h118) rfl ?_
 refine nl ?_
 cases H
 exact ⟨rfl, T24, _, rfl, gR, ⟨rfl, rfl, rfl, rfl, rfl, trivial⟩, hI103, (hy.mono (gT hG83 hG101) hS26), trivial⟩
 clear hC
 rintro e r ds wd115 ⟨rfl, T110, G113, rfl, hG114, hHas, hI116, hS112, _⟩
 rw [hHas.eq]; clear hHas
 refine nl ?_
 refine hK108 _ _ _ ?_
 by_cases h129 : v109 = true
 replace H := iY h129 H
 refine wpc_true (bval_yes h129) ?_
 refine wpc_ret ?_
 cases H
 exact ⟨rfl, T110, _, rfl, (gT (gT hG83 hG101) hG114), trivial, hI116, hS112, trivial⟩
 replace H := iN h129 H
 refine wpc_false (bval_no h129) ?_
 refine wpc_skip ?_
 cases H
 exact ⟨rfl, T110, _, rfl, (gT (gT hG83 hG101) hG114), ⟨rfl, rfl, rfl, rfl, trivial⟩, hI116, hS112, trivial⟩
 replace H := iN h98 H
 refine wpc_false (bool_no h98) ?_
 refine sr fun K130 hK131 => ?_
 refine q_eql rfl rfl ?_
 refine q_as (v := bool (decide ((bt a10 (w64 (v23 - 1))) = 45))) rfl ?_
 refine nl ?_
 refine hK131 _ _ _ ?_
 by_cases h132 : (bt a10 (w64 (v23 - 1))) = 45
 replace H := iY h132 H
 refine wpc_true (bool_yes h132) ?_
 refine wpc_region ?_
 refine q_mv (v := int .i64 v23) rfl ?_
 refine q_gtr rfl rfl ?_
 refine q_mv (v := bool (decide (1 < v23))) rfl ?_
 obtain ⟨v133, hC, H⟩ := bS H
 refine wpq_split 7 (K := fun e r ds w => e = .normal ∧ ∃ (G134 : Gh), ds = [] ∧ G82 ≤ G134 ∧ Has [(0, func (.yield yl) #[] #[]), (1, pointer (some ⟨g2, 0, none⟩)), (3, bool v81), (4, int .i64 v23), (48, bool v133)] r ∧ Hp G134 (bx g2 [int .i64 a3, int .i64 a4, slice A6 a5.length c7, string a10, Value.map (some g12)] 88 :: mpI g12 string bool a13 :: T24) w ∧ True) ?_ ?_
 replace H := hC
 by_cases h139 : 1 < v23
 replace H := iY h139 H
 refine q_fa (a' := ⟨g2, 3, none⟩) fl88_1 rfl (add_plain _ _ _) ?_ (hw := gY rfl rfl rfl (bool_yes h139))
 refine q_ld hI85 0 (v := string a10) ag9 rfl rfl rfl ?_ (hw := gY rfl rfl rfl (bool_yes h139))
 refine q_mv (v := int .i64 v23) rfl ?_ (hw := gY rfl rfl rfl (bool_yes h139))
 refine q_sub rfl rfl ?_ (hw := gY rfl rfl rfl (bool_yes h139))
 obtain ⟨⟨h140, h140'⟩, H⟩ := iS H
 refine q_is so9 rfl rfl h140 h140' rfl ?_ (hw := gY rfl rfl rfl (bool_yes h139))
 obtain ⟨y146, hy141, H⟩ := bS H
 refine q_cv (vs := [int .u8 (bt a10 (w64 (v23 - 2)))]) bo80 rfl rfl (breaks_solid_spec (a1 := bt a10 (w64 (v23 - 2))) hI85 hy141) ?_ (hw := gY rfl rfl rfl (bool_yes h139))
 rintro _ wd144 ⟨G142, hG143, hI145, rfl⟩
 refine ⟨_, rfl, ?_⟩
 refine q_pick true (v := bool y146) (bool_yes h139) rfl ?_
 refine nl ?_
 cases H
 exact ⟨rfl, _, rfl, hG143, ⟨rfl, rfl, rfl, rfl, rfl, trivial⟩, hI145, trivial⟩
 replace H := iN h139 H
 refine wN (gN rfl rfl rfl (bool_no h139) rfl) ?_
 refine wN (gN rfl rfl rfl (bool_no h139) rfl) ?_
 refine wN (gN rfl rfl rfl (bool_no h139) rfl) ?_
 refine wN (gN rfl rfl rfl (bool_no h139) rfl) ?_
 refine wN (gN rfl rfl rfl (bool_no h139) rfl) ?_
 refine wN (gN rfl rfl rfl (bool_no h139) rfl) ?_
 refine q_pick false (v := bool false) (bool_no h139) rfl ?_
 refine nl ?_
 cases H
 exact ⟨rfl, _, rfl, gR, ⟨rfl, rfl, rfl, rfl, rfl, trivial⟩, hI85, trivial⟩
 clear hC
 rintro e r ds wd136 ⟨rfl, G134, rfl, hG135, hHas, hI137, _⟩
 rw [hHas.eq]; clear hHas
 refine q_mv (v := bool v133) rfl ?_
 obtain ⟨v147, hC, H⟩ := bS H
 refine wpq_split 6 (K := fun e r ds w => e = .normal ∧ ∃ (G148 : Gh), ds = [] ∧ G134 ≤ G148 ∧ Has [(0, func (.yield yl) #[] #[]), (1, pointer (some ⟨g2, 0, none⟩)), (3, bool v81), (4, int .i64 v23), (55, bool v147)] r ∧ Hp G148 (bx g2 [int .i64 a3, int .i64 a4, slice A6 a5.length c7, string a10, Value.map (some g12)] 88 :: mpI g12 string bool a13 :: T24) w ∧ True) ?_ ?_
 replace H := hC
 by_cases h153 : v133 = true
 replace H := iY h153 H
 refine q_fa (a' := ⟨g2, 3, none⟩) fl88_1 rfl (add_plain _ _ _) ?_ (hw := gY rfl rfl rfl (bval_yes h153))
 refine q_ld hI137 0 (v := string a10) ag9 rfl rfl rfl ?_ (hw := gY rfl rfl rfl (bval_yes h153))
 refine q_mv (v := int .i64 v23) rfl ?_ (hw := gY rfl rfl rfl (bval_yes h153))
 obtain ⟨⟨h154, h154'⟩, H⟩ := iS H
 refine q_is so9 rfl rfl h154 h154' rfl ?_ (hw := gY rfl rfl rfl (bval_yes h153))
 obtain ⟨y160, hy155, H⟩ := bS H
 refine q_cv (vs := [int .u8 (bt a10 v23)]) bo80 rfl rfl (breaks_solid_spec (a1 := bt a10 v23) hI137 hy155) ?_ (hw := gY rfl rfl rfl (bval_yes h153))
 rintro _ wd158 ⟨G156, hG157, hI159, rfl⟩
 refine ⟨_, rfl, ?_⟩
 refine q_pick true (v := bool y160) (bval_yes h153) rfl ?_
 refine nl ?_
 cases H
 exact ⟨rfl, _, rfl, hG157, ⟨rfl, rfl, rfl, rfl, rfl, trivial⟩, hI159, trivial⟩
 replace H := iN h153 H
 refine wN (gN rfl rfl rfl (bval_no h153) rfl) ?_
 refine wN (gN rfl rfl rfl (bval_no h153) rfl) ?_
 refine wN (gN rfl rfl rfl (bval_no h153) rfl) ?_
 refine wN (gN rfl rfl rfl (bval_no h153) rfl) ?_
 refine wN (gN rfl rfl rfl (bval_no h153) rfl) ?_
 refine q_pick false (v := bool false) (bval_no h153) rfl ?_
 refine nl ?_
 cases H
 exact ⟨rfl, _, rfl, gR, ⟨rfl, rfl, rfl, rfl, rfl, trivial⟩, hI137, trivial⟩
 clear hC
 rintro e r ds wd150 ⟨rfl, G148, rfl, hG149, hHas, hI151, _⟩
 rw [hHas.eq]; clear hHas
 refine q_as (v := bool v147) rfl ?_
 refine nl ?_
 refine hK92 _ _ _ ?_
 refine sr fun K161 hK162 => ?_
 refine q_mv (v := bool v147) rfl ?_
 refine q_mv (v := bool v147) rfl ?_
 obtain ⟨⟨v163, v165⟩, hC, H⟩ := bS H
 refine wpq_split 12 (K := fun e r ds w => e = .normal ∧ ∃ (T164 : List Itm) (G167 : Gh), ds = [] ∧ G148 ≤ G167 ∧ Has [(0, func (.yield yl) #[] #[]), (1, pointer (some ⟨g2, 0, none⟩)), (3, bool v81), (4, int .i64 v23), (74, bool v163)] r ∧ Hp G167 (bx g2 [int .i64 a3, int .i64 a4, slice A6 a5.length c7, string a10, Value.map (some g12)] 88 :: mpI g12 string bool a13 :: T164) w ∧ St v165 G167 T164 ∧ True) ?_ ?_
 replace H := hC
 by_cases h172 : v147 = true
 replace H := iY h172 H
 refine q_mv (v := func (.yield yl) #[] #[]) rfl ?_ (hw := gY rfl rfl rfl (bval_yes h172))
 refine q_mv (v := int .i64 v23) rfl ?_ (hw := gY rfl rfl rfl (bval_yes h172))
 refine q_fa (a' := ⟨g2, 3, none⟩) fl88_1 rfl (add_plain _ _ _) ?_ (hw := gY rfl rfl rfl (bval_yes h172))
 refine q_ld hI151 0 (v := string a10) ag9 rfl rfl rfl ?_ (hw := gY rfl rfl rfl (bval_yes h172))
 refine q_mv (v := int .i64 v23) rfl ?_ (hw := gY rfl rfl rfl (bval_yes h172))
 refine q_sub rfl rfl ?_ (hw := gY rfl rfl rfl (bval_yes h172))
 obtain ⟨⟨h173, h173'⟩, H⟩ := iS H
 refine q_is so9 rfl rfl h173 h173' rfl ?_ (hw := gY rfl rfl rfl (bval_yes h172))
 refine q_eql rfl rfl ?_ (hw := gY rfl rfl rfl (bval_yes h172))
 refine q_build (vs := [(0, int .i64 v23), (1, bool (decide ((bt a10 (w64 (v23 - 1))) = 126)))]) (cs := [int .i64 v23, bool (decide ((bt a10 (w64 (v23 - 1))) = 126))]) ze51 pl51 rfl rfl ?_ (hw := gY rfl rfl rfl (bval_yes h172))
 obtain ⟨⟨s174, b175⟩, hx176, H⟩ := bS H
 refine q_yl hy [bx g2 [int .i64 a3, int .i64 a4, slice A6 a5.length c7, string a10, Value.map (some g12)] 88, mpI g12 string bool a13] hI151 (hy.mono (gT (gT hG83 hG135) hG149) hS26) rfl rfl ⟨_, rfl, (mk_api_Break (x := (⟨v23, decide ((bt a10 (w64 (v23 - 1))) = 126)⟩ : api_Break)))⟩ hx176 (fun wd177 G178 T179 hG180 hS181 hI182 => ?_) (hw := gY rfl rfl rfl (bval_yes h172))
 refine q_not rfl ?_ (hw := gY rfl rfl rfl (bval_yes h172))
 refine q_pick true (v := bool (!b175)) (bval_yes h172) rfl ?_
 refine nl ?_
 cases H
 exact ⟨rfl, T179, _, rfl, hG180, ⟨rfl, rfl, rfl, rfl, rfl, trivial⟩, hI182, hS181, trivial⟩
 replace H := iN h172 H
 refine wN (gN rfl rfl rfl (bval_no h172) rfl) ?_
 refine wN (gN rfl rfl rfl (bval_no h172) rfl) ?_
 refine wN (gN rfl rfl rfl (bval_no h172) rfl) ?_
 refine wN (gN rfl rfl rfl (bval_no h172) rfl) ?_
 refine wN (gN rfl rfl rfl (bval_no h172) rfl) ?_
 refine wN (gN rfl rfl rfl (bval_no h172) rfl) ?_
 refine wN (gN rfl rfl rfl (bval_no h172) rfl) ?_
 refine wN (gN rfl rfl rfl (bval_no h172) rfl) ?_
 refine wN (gN rfl rfl rfl (bval_no h172) rfl) ?_
 refine wN (gN rfl rfl rfl (bval_no h172) rfl) ?_
 refine wN (gN rfl rfl rfl (bval_no h172) rfl) ?_
 refine q_pick false (v := bool false) (bval_no h172) rfl ?_
 refine nl ?_
 cases H
 exact ⟨rfl, T24, _, rfl, gR, ⟨rfl, rfl, rfl, rfl, rfl, trivial⟩, hI151, (hy.mono (gT (gT hG83 hG135) hG149) hS26), trivial⟩
 clear hC
 rintro e r ds wd169 ⟨rfl, T164, G167, rfl, hG168, hHas, hI170, hS166, _⟩
 rw [hHas.eq]; clear hHas
 refine nl ?_
 refine hK162 _ _ _ ?_
 by_cases h183 : v163 = true
 replace H := iY h183 H
 refine wpc_true (bval_yes h183) ?_
 refine wpc_ret ?_
 cases H
 exact ⟨rfl, T164, _, rfl, (gT (gT (gT hG83 hG135) hG149) hG168), trivial, hI170, hS166, trivial⟩
 replace H := iN h183 H
 refine wpc_false (bval_no h183) ?_
 refine wpc_skip ?_
 cases H
 exact ⟨rfl, T164, _, rfl, (gT (gT (gT hG83 hG135) hG149) hG168), ⟨rfl, rfl, rfl, rfl, trivial⟩, hI170, hS166, trivial⟩
 replace H := iN h132 H
 refine wpc_false (bool_no h132) ?_
 refine sr fun K184 hK185 => ?_
 refine q_eql rfl rfl ?_
 refine q_as (v := bool (decide ((bt a10 (w64 (v23 - 1))) = 126))) rfl ?_
 refine nl ?_
 refine hK185 _ _ _ ?_
 by_cases h186 : (bt a10 (w64 (v23 - 1))) = 126
 replace H := iY h186 H
 refine wpc_true (bool_yes h186) ?_
 refine wpc_region ?_
 refine q_ldA hI85 0 (cs := [int .i64 a3, int .i64 a4, slice A6 a5.length c7, string a10, Value.map (some g12)]) ag88 rfl rfl rfl rfl ?_
 refine q_mv (v := int .i64 v23) rfl ?_
 have hI187 := Hp.front hI85 1 rfl
 obtain ⟨y193, hy188, H⟩ := bS H
 refine q_cv (vs := [agg [int .i64 a3, int .i64 a4, slice A6 a5.length c7, string a10, Value.map (some g12)].toArray, int .i64 v23]) bo81 rfl rfl (breaks_ruled_soft_k1_spec (a1 := a3) (a2 := a4) (a3 := a5) (a8 := a10) (a11 := a13) (a12 := v23) hI187 hl8 (Dat.mono (gT hG53 hG83) hD9) hy188) ?_
 rintro _ wd191 ⟨G189, hG190, hI192, rfl⟩
 refine ⟨_, rfl, ?_⟩
 refine q_as (v := bool y193) rfl ?_
 refine nl ?_
 refine hK92 _ _ _ ?_
 refine sr fun K194 hK195 => ?_
 refine q_mv (v := bool y193) rfl ?_
 refine q_mv (v := bool y193) rfl ?_
 obtain ⟨⟨v196, v198⟩, hC, H⟩ := bS H
 refine wpq_split 12 (K := fun e r ds w => e = .normal ∧ ∃ (T197 : List Itm) (G200 : Gh), ds = [] ∧ G189 ≤ G200 ∧ Has [(0, func (.yield yl) #[] #[]), (1, pointer (some ⟨g2, 0, none⟩)), (3, bool v81), (4, int .i64 v23), (74, bool v196)] r ∧ Hp G200 (mpI g12 string bool a13 :: bx g2 [int .i64 a3, int .i64 a4, slice A6 a5.length c7, string a10, Value.map (some g12)] 88 :: T197) w ∧ St v198 G200 T197 ∧ True) ?_ ?_
 replace H := hC
 by_cases h205 : y193 = true
 replace H := iY h205 H
 refine q_mv (v := func (.yield yl) #[] #[]) rfl ?_ (hw := gY rfl rfl rfl (bval_yes h205))
 refine q_mv (v := int .i64 v23) rfl ?_ (hw := gY rfl rfl rfl (bval_yes h205))
 refine q_fa (a' := ⟨g2, 3, none⟩) fl88_1 rfl (add_plain _ _ _) ?_ (hw := gY rfl rfl rfl (bval_yes h205))
 refine q_ld hI192 1 (v := string a10) ag9 rfl rfl rfl ?_ (hw := gY rfl rfl rfl (bval_yes h205))
 refine q_mv (v := int .i64 v23) rfl ?_ (hw := gY rfl rfl rfl (bval_yes h205))
 refine q_sub rfl rfl ?_ (hw := gY rfl rfl rfl (bval_yes h205))
 obtain ⟨⟨h206, h206'⟩, H⟩ := iS H
 refine q_is so9 rfl rfl h206 h206' rfl ?_ (hw := gY rfl rfl rfl (bval_yes h205))
 refine q_eql rfl rfl ?_ (hw := gY rfl rfl rfl (bval_yes h205))
 refine q_build (vs := [(0, int .i64 v23), (1, bool (decide ((bt a10 (w64 (v23 - 1))) = 126)))]) (cs := [int .i64 v23, bool (decide ((bt a10 (w64 (v23 - 1))) = 126))]) ze51 pl51 rfl rfl ?_ (hw := gY rfl rfl rfl (bval_yes h205))
 obtain ⟨⟨s207, b208⟩, hx209, H⟩ := bS H
 refine q_yl hy [mpI g12 string bool a13, bx g2 [int .i64 a3, int .i64 a4, slice A6 a5.length c7, string a10, Value.map (some g12)] 88] hI192 (hy.mono (gT hG83 hG190) hS26) rfl rfl ⟨_, rfl, (mk_api_Break (x := (⟨v23, decide ((bt a10 (w64 (v23 - 1))) = 126)⟩ : api_Break)))⟩ hx209 (fun wd210 G211 T212 hG213 hS214 hI215 => ?_) (hw := gY rfl rfl rfl (bval_yes h205))
 refine q_not rfl ?_ (hw := gY rfl rfl rfl (bval_yes h205))
 refine q_pick true (v := bool (!b208)) (bval_yes h205) rfl ?_
 refine nl ?_
 cases H
 exact ⟨rfl, T212, _, rfl, hG213, ⟨rfl, rfl, rfl, rfl, rfl, trivial⟩, hI215, hS214, trivial⟩
 replace H := iN h205 H
 refine wN (gN rfl rfl rfl (bval_no h205) rfl) ?_
 refine wN (gN rfl rfl rfl (bval_no h205) rfl) ?_
 refine wN (gN rfl rfl rfl (bval_no h205) rfl) ?_
 refine wN (gN rfl rfl rfl (bval_no h205) rfl) ?_
 refine wN (gN rfl rfl rfl (bval_no h205) rfl) ?_
 refine wN (gN rfl rfl rfl (bval_no h205) rfl) ?_
 refine wN (gN rfl rfl rfl (bval_no h205) rfl) ?_
 refine wN (gN rfl rfl rfl (bval_no h205) rfl) ?_
 refine wN (gN rfl rfl rfl (bval_no h205) rfl) ?_
 refine wN (gN rfl rfl rfl (bval_no h205) rfl) ?_
 refine wN (gN rfl rfl rfl (bval_no h205) rfl) ?_
 refine q_pick false (v := bool false) (bval_no h205) rfl ?_
 refine nl ?_
 cases H
 exact ⟨rfl, T24, _, rfl, gR, ⟨rfl, rfl, rfl, rfl, rfl, trivial⟩, hI192, (hy.mono (gT hG83 hG190) hS26), trivial⟩
 clear hC
 rintro e r ds wd202 ⟨rfl, T197, G200, rfl, hG201, hHas, hI203, hS199, _⟩
 rw [hHas.eq]; clear hHas
 refine nl ?_
 refine hK195 _ _ _ ?_
 by_cases h216 : v196 = true
 replace H := iY h216 H
 refine wpc_true (bval_yes h216) ?_
 refine wpc_ret ?_
 have hI217 := Hp.front hI203 1 rfl
 cases H
 exact ⟨rfl, T197, _, rfl, (gT (gT hG83 hG190) hG201), trivial, hI217, hS199, trivial⟩
 replace H := iN h216 H
 refine wpc_false (bval_no h216) ?_
 refine wpc_skip ?_
 have hI218 := Hp.front hI203 1 rfl
 cases H
 exact ⟨rfl, T197, _, rfl, (gT (gT hG83 hG190) hG201), ⟨rfl, rfl, rfl, rfl, trivial⟩, hI218, hS199, trivial⟩
 replace H := iN h186 H
 refine wpc_false (bool_no h186) ?_
 refine wpc_skip ?_
 refine hK92 _ _ _ ?_
 refine sr fun K219 hK220 => ?_
 refine q_mv (v := bool false) rfl ?_
 refine q_mv (v := bool false) rfl ?_
 refine wN (gN rfl rfl rfl rfl rfl) ?_
 refine wN (gN rfl rfl rfl rfl rfl) ?_
 refine wN (gN rfl rfl rfl rfl rfl) ?_
 refine wN (gN rfl rfl rfl rfl rfl) ?_
 refine wN (gN rfl rfl rfl rfl rfl) ?_
 refine wN (gN rfl rfl rfl rfl rfl) ?_
 refine wN (gN rfl rfl rfl rfl rfl) ?_
 refine wN (gN rfl rfl rfl rfl rfl) ?_
 refine wN (gN rfl rfl rfl rfl rfl) ?_
 refine wN (gN rfl rfl rfl rfl rfl) ?_
 refine wN (gN rfl rfl rfl rfl rfl) ?_
 refine q_pick false (v := bool false) rfl rfl ?_
 refine nl ?_
 refine hK220 _ _ _ ?_
 refine wpc_false rfl ?_
 refine wpc_skip ?_
 cases H
 exact ⟨rfl, T24, _, rfl, hG83, ⟨rfl, rfl, rfl, rfl, trivial⟩, hI85, (hy.mono hG83 hS26), trivial⟩
 clear hC
 rcases o78 with v64 | ⟨v66, v68⟩
 rintro e r ds wd72 ⟨rfl, T63, G70, rfl, hG71, hHas, hI73, hS65, _⟩
 rw [hHas.eq]; clear hHas
 cases H
 exact ⟨rfl, T63, _, rfl, (gT hG53 hG71), trivial, hI73, hS65, trivial⟩
 rintro e r ds wd76 ⟨rfl, T67, G74, rfl, hG75, hHas, hI77, hS69, _⟩
 rw [hHas.eq]; clear hHas
 refine hK62 _ _ _ ?_
 refine wpc_region ?_
 refine q_mv (v := int .i64 v23) rfl ?_
 refine q_add rfl rfl ?_
 refine q_as (v := int .i64 (w64 (v23 + 1))) rfl ?_
 refine nl ?_
 exact ih _ _ _ _ H T67 _ _ _ (gT hG53 hG75) ⟨rfl, rfl, rfl, rfl, trivial⟩ hI77 hS69 rfl
 replace H := iN h60 H
 refine wpc_false (bool_no h60) ?_
 refine wpc_exit ?_
 cases H
 exact ⟨rfl, T24, _, rfl, hG53, trivial, hI55, hS26, trivial⟩
 clear hC
 rcases o51 with v38 | v41
 rintro e r ds wd45 ⟨rfl, T37, G43, rfl, hG44, hHas, hI46, hS39, _⟩
 rw [hHas.eq]; clear hHas
 cases H
 exact ⟨.inr rfl, rfl, _, rfl, T37, _, hG44, hI46, hS39, rfl⟩
 rintro e r ds wd49 ⟨rfl, T40, G47, rfl, hG48, hHas, hI50, hS42, _⟩
 rw [hHas.eq]; clear hHas
 cases H
 exact ⟨.inl rfl, rfl, _, rfl, T40, _, hG48, hI50, hS42, rfl⟩
set_option maxHeartbeats 1000000 in
theorem breaks_List_spec {a1 : api_Breaks} {a6 : ByteArray} {A2 : Option Addr} {c3 : Nat} {r1174 : List api_Break} {r1181 : Int} {G : Gh} {L : List Itm} {w : World} (hI : Hp G (L) w) (hl4 : a1.Keep.length ≤ c3) (hD5 : Dat Kd.str G A2 a1.Keep) (H : breaks_List a1 a6 = some (r1174, r1181)) :
    Calls Tryz.prog 19 [agg [int .i64 a1.Before, int .i64 a1.Behind, slice A2 a1.Keep.length c3].toArray, string a6].toArray w fun e w' => ∃ (A1175 : Option Addr) (c1176 : Nat) (G' : Gh), G ≤ G' ∧ Hp G' (tk (slice A1175 r1174.length c1176) 2 51 :: L) w' ∧ r1174.length ≤ c1176 ∧ Dat k_api_Break G' A1175 r1174 ∧ Own A1175 c1176 ∧ e = .returned (tuple [slice A1175 r1174.length c1176, int .i64 r1181].toArray) := by
 refine calls_intro_m (N := 26) Tryz.func19 rfl rfl (Nat.le_of_ble_eq_true rfl) ?_
 unfold breaks_List at H
 refine sr fun K7 hK8 => ?_
 refine q_box hI (v := agg [int .i64 a1.Before, int .i64 a1.Behind, slice A2 a1.Keep.length c3].toArray) (vs := [int .i64 a1.Before, int .i64 a1.Behind, slice A2 a1.Keep.length c3]) rfl rfl (fun g10 wd11 hI12 => ?_)
 refine q_as (v := slice none 0 0) rfl ?_
 refine q_as (v := int .i64 0) rfl ?_
 refine nl ?_
 refine hK8 _ _ _ ?_
 refine sr fun K13 hK14 => ?_
 refine q_ldA hI12 0 (cs := [int .i64 a1.Before, int .i64 a1.Behind, slice A2 a1.Keep.length c3]) ag28 rfl rfl rfl rfl ?_
 refine q_mv (v := string a6) rfl ?_
 obtain ⟨⟨y20, y21, y22, y27, y30, y31⟩, hy15, H⟩ := bS H
 refine q_cv (vs := [agg [int .i64 a1.Before, int .i64 a1.Behind, slice A2 a1.Keep.length c3].toArray, string a6]) bo47 rfl rfl (breaks_prepare_spec (a1 := a1) (a6 := a6) hI12 hl4 hD5 hy15) ?_
 rintro _ wd18 ⟨A23, c24, g29, G16, hG17, hI19, hl25, hD26, rfl⟩
 refine ⟨_, rfl, ?_⟩
 refine q_mv (v := tuple [agg [int .i64 y20, int .i64 y21, slice A23 y22.length c24, string y27, Value.map (some g29)].toArray, bool y31].toArray) rfl ?_
 refine q_ex (v := agg [int .i64 y20, int .i64 y21, slice A23 y22.length c24, string y27, Value.map (some g29)].toArray) rfl rfl ?_
 refine q_ex (v := bool y31) rfl rfl ?_
 refine q_alloc hI19 ze88 (fun g33 wd34 hI35 => ?_)
 refine q_stA hI35 0 (v := agg [int .i64 y20, int .i64 y21, slice A23 y22.length c24, string y27, Value.map (some g29)].toArray) (cs := [int .i64 y20, int .i64 y21, slice A23 y22.length c24, string y27, Value.map (some g29)]) (vs' := [int .i64 y20, int .i64 y21, slice A23 y22.length c24, string y27, Value.map (some g29)]) ag88 rfl rfl rfl rfl rfl rfl (Nat.le_of_ble_eq_true rfl) rfl (fun wd36 hI37 => ?_)
 refine q_as (v := bool y31) rfl ?_
 refine nl ?_
 refine hK14 _ _ _ ?_
 refine sQ fun K38 hK39 => ?_
 refine sr fun K40 hK41 => ?_
 refine q_mv (v := bool y31) rfl ?_
 refine q_not rfl ?_
 refine nl ?_
 refine hK41 _ _ _ ?_
 by_cases h42 : (!y31) = true
 replace H := iY h42 H
 refine wpc_true (bval_yes h42) ?_
 refine sr fun K43 hK44 => ?_
 refine q_as (v := slice none 0 0) rfl ?_
 refine q_as (v := int .i64 1) rfl ?_
 refine nl ?_
 refine hK44 _ _ _ ?_
 refine wpc_ret ?_
 refine ⟨.inr rfl, ([] : List Nat), _, _, rfl, Hp.marks (K := [bx g33 [int .i64 y20, int .i64 y21, slice A23 y22.length c24, string y27, Value.map (some g29)] 88, mpI g29 string bool y30, bx g10 [int .i64 a1.Before, int .i64 a1.Behind, slice A2 a1.Keep.length c3] 28]) hI37, fun wd46 hI45 => ?_⟩
 have hI47 := Hp.emp hI45
 have hI49 := Hp.sub hI47 (sk (sd (sd (sd se))))
 cases H
 exact ⟨_, ⟨_, _, rfl, rfl, ⟨_, _, rfl, rfl, rfl⟩⟩, none, 0, _, hG17, hI49, (show ([] : List api_Break).length ≤ 0 from Nat.le_refl 0), (Dat.nil _ _ _), Own.nil, rfl⟩
 replace H := iN h42 H
 refine wpc_false (bval_no h42) ?_
 refine wpc_skip ?_
 refine hK39 _ _ _ ?_
 refine sr fun K50 hK51 => ?_
 refine q_alloc hI37 ze45 (fun g53 wd54 hI55 => ?_)
 refine nl ?_
 refine hK51 _ _ _ ?_
 refine sQ fun K56 hK57 => ?_
 refine sr fun K58 hK59 => ?_
 refine q_ldA hI55 1 (cs := [int .i64 y20, int .i64 y21, slice A23 y22.length c24, string y27, Value.map (some g29)]) ag88 rfl rfl rfl rfl ?_
 have hI60 := Hp.front hI55 3 rfl
 have hI61 := Hp.front hI60 2 rfl
 have hI62 := Hp.front hI61 2 rfl
 have hI63 := Hp.front hI62 3 rfl
 obtain ⟨⟨y71, y72, y73, y78⟩, hy64, H⟩ := bS H
 refine q_cv (vs := [agg [int .i64 y20, int .i64 y21, slice A23 y22.length c24, string y27, Value.map (some g29)].toArray]) bo48 rfl rfl (breaks_ruled_places_k1_spec (a1 := y20) (a2 := y21) (a3 := y22) (a8 := y27) (a11 := y30) hI63 hl25 hD26 hy64) ?_
 rintro _ wd67 ⟨g70, A74, c75, G65, hG66, hI68, hl76, hD77, rfl⟩
 refine ⟨_, rfl, ?_⟩
 refine nl ?_
 refine hK59 _ _ _ ?_
 refine wpc_block ?_
 have hI79 := Hp.emp hI68
 have hI99 := Hp.front hI79 5 rfl
 have hI100 := Hp.front hI99 4 rfl
 have hI101 := Hp.front hI100 4 rfl
 have hI102 := Hp.front hI101 4 rfl
 have hI103 := Hp.sub hI102 (sk (sk (sk (sk (sk (sd se))))))
 obtain ⟨⟨v82, jo106⟩, hr152, H⟩ := bS H
 refine wpc_range hI103 bo79 rfl (fun fn tmps gl gd81 wd172 hA149 hI150 => ?_)
 have hY151 : Yl Tryz.prog (rnd (fun (u : (List api_Break)) (x : api_Break) => breaks_List_r104 u x)) (encS k_api_Break) _ gl := yl_intro (pp := [20]) (gdd := gd81) hI150 (fun (u : (List api_Break)) (x : api_Break) => breaks_List_r104 u x) [] (fun (u : (List api_Break)) (G' : Gh) (K : List Itm) => ∃ (A83 : Option Addr) (c84 : Nat) (_ : G65 ≤ G'), K = bx g53 [slice A83 u.length c84] 45 :: bx g10 [int .i64 a1.Before, int .i64 a1.Behind, slice A2 a1.Keep.length c3] 28 :: tk (slice A83 u.length c84) 2 51 :: (List.map mkI (gd81 :: ([] : List Nat)) ++ L) ∧ u.length ≤ c84 ∧ Dat k_api_Break G' A83 u ∧ Own A83 c84 ∧ True) hA149 (fun _ _ _ h => (fun h => encS_len h) h) (fun hG' ⟨A83, c84, h0', hK', hl85, hD86, ho87, _⟩ => ⟨A83, c84, gT h0' hG', hK', hl85, (Dat.mono hG' hD86), ho87, trivial⟩) (by
 rintro Rd Bs v82 u' x112 jo' G108 K M wd110 vs ⟨A83, c84, hG109, rfl, hl85, hD86, ho87, _⟩ ⟨_, rfl, hK113⟩ H hI114
 obtain ⟨rfl⟩ := open_api_Break hK113
 replace H : breaks_List_r104 v82 x112 = some (u', jo') := H
 unfold breaks_List_r104 at H
 refine wpc_region ?_
 refine q_alloc hI114 ze51 (fun g116 wd117 hI118 => ?_)
 refine q_stA hI118 0 (v := agg [int .i64 x112.At, bool x112.Hyphen].toArray) (cs := [int .i64 x112.At, bool x112.Hyphen]) (vs' := [int .i64 x112.At, bool x112.Hyphen]) ag51 rfl rfl rfl rfl rfl rfl (Nat.le_of_ble_eq_true rfl) rfl (fun wd119 hI120 => ?_)
 refine nl ?_
 have hI123 := Hp.front hI120 4 rfl
 have hI124 := Hp.front hI123 4 rfl
 have hI125 := Hp.front hI124 4 rfl
 have hI126 := Hp.front hI125 3 rfl
 have hI127 := Hp.front hI126 4 rfl
 refine ⟨rfl, rfl, _, _, gR, hI127, fun wd122 hI121 => ?_⟩
 refine wpc_block ?_
 refine wpc_region ?_
 refine q_ld hI121 2 (v := slice A83 v82.length c84) ag45 rfl rfl rfl ?_
 refine q_ldA hI121 1 (cs := [int .i64 x112.At, bool x112.Hyphen]) ag51 rfl rfl rfl rfl ?_
 refine q_bs hI121 (vs := [(0, agg [int .i64 x112.At, bool x112.Hyphen].toArray)]) (cs := [int .i64 x112.At, bool x112.Hyphen]) el45 ze51 rfl (by decide) rfl rfl (fun g129 wd130 hI131 => ?_)
 obtain ⟨h141, H⟩ := iS H
 refine q_app (xs := v82) (ys := [x112]) k_api_Break hI131 5 el45 ze51 rfl rfl rfl rfl ho87 hl85 hD86 (src_bx hI131 0 so45 rfl rfl) ⟨[int .i64 x112.At, bool x112.Hyphen], _, rfl, (mk_api_Break (x := x112)), rfl⟩ rfl (by simp only [List.length_cons, List.length_nil]; omega) (by simp only [List.length_cons, List.length_nil]; omega) (fun A132 c133 G134 wd135 hG136 ho137 hl138 hD139 hI140 => ?_)
 refine q_stA hI140 3 (v := slice A132 (v82 ++ [x112]).length c133) (cs := [slice A132 (v82 ++ [x112]).length c133]) (vs' := [slice A132 (v82 ++ [x112]).length c133]) ag45 rfl rfl rfl rfl rfl rfl (Nat.le_of_ble_eq_true rfl) rfl (fun wd142 hI143 => ?_)
 refine nl ?_
 have hI144 := Hp.front hI143 5 rfl
 have hI145 := Hp.front hI144 5 rfl
 have hI146 := Hp.front hI145 5 rfl
 have hI147 := Hp.front hI146 4 rfl
 have hI148 := Hp.sub hI147 (sk (sk (sk (sk (sd (sd se))))))
 cases H
 exact ⟨rfl, _, _, hG136, ⟨A132, c133, (gT hG109 hG136), rfl, hl138, hD139, ho137, trivial⟩, hI148⟩)
 have hI173 := Hp.sink (A := [bx g70 [int .i64 y71, int .i64 y72, slice A74 y73.length c75, string y78, Value.map (some g29)] 88, mpI g29 string bool y30]) (K := [bx g53 [slice none 0 0] 45, bx g10 [int .i64 a1.Before, int .i64 a1.Behind, slice A2 a1.Keep.length c3] 28, tk (slice none 0 0) 2 51]) hI150
 refine (breaks_ruled_places_1_k1_spec (sy := (([] : List api_Break), none)) hI173 hl76 hD77 hY151 ⟨_, rfl, none, 0, Gh.le_refl _, rfl, (show ([] : List api_Break).length ≤ 0 from Nat.le_refl 0), (Dat.nil _ _ _), Own.nil, trivial⟩ hr152).mono ?_
 rintro _ wd155 ⟨T159, G153, hG1540, hI156, ⟨K, rfl, A83, c84, hG154, rfl, hl85, hD86, ho87, _⟩, rfl⟩
 have hH161 := Hp.front hI156 2 rfl
 rcases jo106 with _ | j
 refine ⟨_, rfl, LoopState.ready, none, G153, _, (fun h => nomatch h), hH161, fun wd157 hI158 => ?_⟩
 refine hK57 _ _ _ ?_
 refine sr fun K166 hK167 => ?_
 refine q_ld hI158 2 (v := slice A83 v82.length c84) ag45 rfl rfl rfl ?_
 refine q_as (v := slice A83 v82.length c84) rfl ?_
 refine q_as (v := int .i64 0) rfl ?_
 refine nl ?_
 refine hK167 _ _ _ ?_
 refine wpc_ret ?_
 refine ⟨.inr rfl, (gd81 :: ([] : List Nat)), _, _, rfl, Hp.marks (K := [bx g70 [int .i64 y71, int .i64 y72, slice A74 y73.length c75, string y78, Value.map (some g29)] 88, mpI g29 string bool y30, bx g53 [slice A83 v82.length c84] 45, bx g10 [int .i64 a1.Before, int .i64 a1.Behind, slice A2 a1.Keep.length c3] 28, tk (slice A83 v82.length c84) 2 51]) hI158, fun wd169 hI168 => ?_⟩
 have hI170 := Hp.front hI168 4 rfl
 have hI171 := Hp.sub hI170 (sk (sd (sd (sd (sd se)))))
 cases H
 exact ⟨_, ⟨_, _, rfl, rfl, ⟨_, _, rfl, rfl, rfl⟩⟩, A83, c84, _, (gT (gT hG17 hG66) hG154), hI171, hl85, hD86, ho87, rfl⟩
 cases H
set_option maxHeartbeats 1000000 in
theorem cmp_isNaN_byte_spec {a1 : Int} {r1006 : Bool} {G : Gh} {L : List Itm} {w : World} (hI : Hp G (L) w) (H : cmp_isNaN_byte a1 = some r1006) :
    Calls Tryz.prog 117 [int .u8 a1].toArray w fun e w' => ∃ (G' : Gh), G ≤ G' ∧ Hp G' (L) w' ∧ e = .returned (bool r1006) := by
 refine calls_intro (N := 6) Tryz.func117 rfl rfl (Nat.le_of_ble_eq_true rfl) ?_
 unfold cmp_isNaN_byte at H
 refine sr fun K2 hK3 => ?_
 refine q_as (v := bool false) rfl ?_
 refine nl ?_
 refine hK3 _ _ _ ?_
 refine sr fun K4 hK5 => ?_
 refine q_mv (v := int .u8 a1) rfl ?_
 refine q_mv (v := int .u8 a1) rfl ?_
 refine q_neq rfl rfl ?_
 refine q_as (v := bool (decide (¬ a1 = a1))) rfl ?_
 refine nl ?_
 refine hK5 _ _ _ ?_
 refine wpc_ret ?_
 cases H
 exact ⟨.inr rfl, rfl, _, ⟨_, _, rfl, rfl, rfl⟩, _, gR, hI, rfl⟩
set_option maxHeartbeats 1000000 in
theorem cmp_Compare_byte_spec {a1 : Int} {a2 : Int} {r1058 : Int} {G : Gh} {L : List Itm} {w : World} (hI : Hp G (L) w) (H : cmp_Compare_byte a1 a2 = some r1058) :
    Calls Tryz.prog 90 [int .u8 a1, int .u8 a2].toArray w fun e w' => ∃ (G' : Gh), G ≤ G' ∧ Hp G' (L) w' ∧ e = .returned (int .i64 r1058) := by
 refine calls_intro (N := 20) Tryz.func90 rfl rfl (Nat.le_of_ble_eq_true rfl) ?_
 unfold cmp_Compare_byte at H
 refine sr fun K3 hK4 => ?_
 refine q_as (v := int .i64 0) rfl ?_
 refine nl ?_
 refine hK4 _ _ _ ?_
 refine sr fun K5 hK6 => ?_
 refine q_mv (v := int .u8 a1) rfl ?_
 obtain ⟨y12, hy7, H⟩ := bS H
 refine q_cv (vs := [int .u8 a1]) bo117 rfl rfl (cmp_isNaN_byte_spec (a1 := a1) hI hy7) ?_
 rintro _ wd10 ⟨G8, hG9, hI11, rfl⟩
 refine ⟨_, rfl, ?_⟩
 refine q_as (v := bool y12) rfl ?_
 refine nl ?_
 refine hK6 _ _ _ ?_
 refine sr fun K13 hK14 => ?_
 refine q_mv (v := int .u8 a2) rfl ?_
 obtain ⟨y20, hy15, H⟩ := bS H
 refine q_cv (vs := [int .u8 a2]) bo117 rfl rfl (cmp_isNaN_byte_spec (a1 := a2) hI11 hy15) ?_
 rintro _ wd18 ⟨G16, hG17, hI19, rfl⟩
 refine ⟨_, rfl, ?_⟩
 refine q_as (v := bool y20) rfl ?_
 refine nl ?_
 refine hK14 _ _ _ ?_
 refine sQ fun K21 hK22 => ?_
 refine sr fun K23 hK24 => ?_
 refine q_mv (v := bool y12) rfl ?_
 refine nl ?_
 refine hK24 _ _ _ ?_
 by_cases h25 : y12 = true
 replace H := iY h25 H
 refine wpc_true (bval_yes h25) ?_
 refine sQ fun K26 hK27 => ?_
 refine sr fun K28 hK29 => ?_
 refine q_mv (v := bool y20) rfl ?_
 refine nl ?_
 refine hK29 _ _ _ ?_
 by_cases h30 : y20 = true
 replace H := iY h30 H
 refine wpc_true (bval_yes h30) ?_
 refine sr fun K31 hK32 => ?_
 refine q_as (v := int .i64 0) rfl ?_
 refine nl ?_
 refine hK32 _ _ _ ?_
 refine wpc_ret ?_
 cases H
 exact ⟨.inr rfl, rfl, _, ⟨_, _, rfl, rfl, rfl⟩, _, (gT hG9 hG17), hI19, rfl⟩
 replace H := iN h30 H
 refine wpc_false (bval_no h30) ?_
 refine wpc_skip ?_
 refine hK27 _ _ _ ?_
 refine sr fun K33 hK34 => ?_
 refine q_as (v := int .i64 (-1)) rfl ?_
 refine nl ?_
 refine hK34 _ _ _ ?_
 refine wpc_ret ?_
 cases H
 exact ⟨.inr rfl, rfl, _, ⟨_, _, rfl, rfl, rfl⟩, _, (gT hG9 hG17), hI19, rfl⟩
 replace H := iN h25 H
 refine wpc_false (bval_no h25) ?_
 refine wpc_skip ?_
 refine hK22 _ _ _ ?_
 refine sQ fun K35 hK36 => ?_
 refine sr fun K37 hK38 => ?_
 refine q_mv (v := bool y20) rfl ?_
 refine nl ?_
 refine hK38 _ _ _ ?_
 by_cases h39 : y20 = true
 replace H := iY h39 H
 refine wpc_true (bval_yes h39) ?_
 refine sr fun K40 hK41 => ?_
 refine q_as (v := int .i64 1) rfl ?_
 refine nl ?_
 refine hK41 _ _ _ ?_
 refine wpc_ret ?_
 cases H
 exact ⟨.inr rfl, rfl, _, ⟨_, _, rfl, rfl, rfl⟩, _, (gT hG9 hG17), hI19, rfl⟩
 replace H := iN h39 H
 refine wpc_false (bval_no h39) ?_
 refine wpc_skip ?_
 refine hK36 _ _ _ ?_
 refine sQ fun K42 hK43 => ?_
 refine sr fun K44 hK45 => ?_
 refine q_mv (v := int .u8 a1) rfl ?_
 refine q_mv (v := int .u8 a2) rfl ?_
 refine q_lss rfl rfl ?_
 refine nl ?_
 refine hK45 _ _ _ ?_
 by_cases h46 : a1 < a2
 replace H := iY h46 H
 refine wpc_true (bool_yes h46) ?_
 refine sr fun K47 hK48 => ?_
 refine q_as (v := int .i64 (-1)) rfl ?_
 refine nl ?_
 refine hK48 _ _ _ ?_
 refine wpc_ret ?_
 cases H
 exact ⟨.inr rfl, rfl, _, ⟨_, _, rfl, rfl, rfl⟩, _, (gT hG9 hG17), hI19, rfl⟩
 replace H := iN h46 H
 refine wpc_false (bool_no h46) ?_
 refine wpc_skip ?_
 refine hK43 _ _ _ ?_
 refine sQ fun K49 hK50 => ?_
 refine sr fun K51 hK52 => ?_
 refine q_mv (v := int .u8 a1) rfl ?_
 refine q_mv (v := int .u8 a2) rfl ?_
 refine q_gtr rfl rfl ?_
 refine nl ?_
 refine hK52 _ _ _ ?_
 by_cases h53 : a2 < a1
 replace H := iY h53 H
 refine wpc_true (bool_yes h53) ?_
 refine sr fun K54 hK55 => ?_
 refine q_as (v := int .i64 1) rfl ?_
 refine nl ?_
 refine hK55 _ _ _ ?_
 refine wpc_ret ?_
 cases H
 exact ⟨.inr rfl, rfl, _, ⟨_, _, rfl, rfl, rfl⟩, _, (gT hG9 hG17), hI19, rfl⟩
 replace H := iN h53 H
 refine wpc_false (bool_no h53) ?_
 refine wpc_skip ?_
 refine hK50 _ _ _ ?_
 refine sr fun K56 hK57 => ?_
 refine q_as (v := int .i64 0) rfl ?_
 refine nl ?_
 refine hK57 _ _ _ ?_
 refine wpc_ret ?_
 cases H
 exact ⟨.inr rfl, rfl, _, ⟨_, _, rfl, rfl, rfl⟩, _, (gT hG9 hG17), hI19, rfl⟩
set_option maxHeartbeats 1000000 in
theorem font_glyph_1_spec {a1 : api_Glyph} {a2 : Int} {r1018 : Int} {G : Gh} {L : List Itm} {w : World} (hI : Hp G (L) w) (H : font_glyph_1 a1 a2 = some r1018) :
    Calls Tryz.prog 89 [agg [int .u8 a1.Byte, int .i64 a1.Advance].toArray, int .u8 a2].toArray w fun e w' => ∃ (G' : Gh), G ≤ G' ∧ Hp G' (L) w' ∧ e = .returned (int .i64 r1018) := by
 refine calls_intro (N := 9) Tryz.func89 rfl rfl (Nat.le_of_ble_eq_true rfl) ?_
 unfold font_glyph_1 at H
 refine sr fun K3 hK4 => ?_
 refine q_box hI (v := agg [int .u8 a1.Byte, int .i64 a1.Advance].toArray) (vs := [int .u8 a1.Byte, int .i64 a1.Advance]) rfl rfl (fun g6 wd7 hI8 => ?_)
 refine q_as (v := int .i64 0) rfl ?_
 refine nl ?_
 refine hK4 _ _ _ ?_
 refine sr fun K9 hK10 => ?_
 refine q_fa (a' := ⟨g6, 0, none⟩) fl98_0 rfl (add_plain _ _ _) ?_
 refine q_ld hI8 0 (v := int .u8 a1.Byte) ag5 rfl rfl rfl ?_
 refine q_mv (v := int .u8 a2) rfl ?_
 obtain ⟨y16, hy11, H⟩ := bS H
 refine q_cv (vs := [int .u8 a1.Byte, int .u8 a2]) bo90 rfl rfl (cmp_Compare_byte_spec (a1 := a1.Byte) (a2 := a2) hI8 hy11) ?_
 rintro _ wd14 ⟨G12, hG13, hI15, rfl⟩
 refine ⟨_, rfl, ?_⟩
 refine q_as (v := int .i64 y16) rfl ?_
 refine nl ?_
 refine hK10 _ _ _ ?_
 refine wpc_ret ?_
 have hI17 := Hp.sub hI15 (sd se)
 cases H
 exact ⟨.inr rfl, rfl, _, ⟨_, _, rfl, rfl, rfl⟩, _, hG13, hI17, rfl⟩
set_option maxHeartbeats 1000000 in
theorem slices_BinarySearchFunc_byte_k1_spec {a1 : List api_Glyph} {a6 : Int} {A2 : Option Addr} {c3 : Nat} {r1083 : Int} {r1084 : Bool} {G : Gh} {L : List Itm} {w : World} (hI : Hp G (L) w) (hl4 : a1.length ≤ c3) (hD5 : Dat k_api_Glyph G A2 a1) (H : slices_BinarySearchFunc_byte_k1 a1 a6 = some (r1083, r1084)) :
    Calls Tryz.prog 116 [slice A2 a1.length c3, int .u8 a6, func (.func 89) [].toArray [].toArray].toArray w fun e w' => ∃ (G' : Gh), G ≤ G' ∧ Hp G' (L) w' ∧ e = .returned (tuple [int .i64 r1083, bool r1084].toArray) := by
 refine calls_intro (N := 49) Tryz.func116 rfl rfl (Nat.le_of_ble_eq_true rfl) ?_
 unfold slices_BinarySearchFunc_byte_k1 at H
 refine sr fun K7 hK8 => ?_
 refine q_as (v := int .i64 0) rfl ?_
 refine q_as (v := bool false) rfl ?_
 refine nl ?_
 refine hK8 _ _ _ ?_
 refine sr fun K9 hK10 => ?_
 refine q_mv (v := slice A2 a1.length c3) rfl ?_
 refine q_len so22 rfl ?_
 refine q_as (v := int .i64 (a1.length : Int)) rfl ?_
 refine nl ?_
 refine hK10 _ _ _ ?_
 refine sr fun K11 hK12 => ?_
 refine q_mv (v := int .i64 (a1.length : Int)) rfl ?_
 refine q_as (v := int .i64 0) rfl ?_
 refine q_as (v := int .i64 (a1.length : Int)) rfl ?_
 refine nl ?_
 refine hK12 _ _ _ ?_
 refine sQ fun K13 hK14 => ?_
 refine wpc_block ?_
 obtain ⟨v28, hC, H⟩ := bS H
 refine wpc_mono (Q := fun e r ds w => e = .exit 0 ∧ ∃ (G29 : Gh), ds = [] ∧ G ≤ G29 ∧ Has [(0, slice A2 a1.length c3), (1, int .u8 a6), (2, func (.func 89) [].toArray [].toArray), (8, int .i64 (a1.length : Int)), (9, int .i64 v28)] r ∧ Hp G29 (L) w ∧ True) ?_ ?_
 clear H
 refine wpc_loop fun I hLp => ?_
 refine slices_BinarySearchFunc_byte_k1_l27.partial_correctness a1 a6 (fun v19 v20 o => ∀ (G34 : Gh) (r : Rg) (w : World), G ≤ G34 → Has [(0, slice A2 a1.length c3), (1, int .u8 a6), (2, func (.func 89) [].toArray [].toArray), (8, int .i64 (a1.length : Int)), (9, int .i64 v19), (10, int .i64 v20)] r → Hp G34 (L) w → o = v28 → I r [] w) ?_ 0 (a1.length : Int) _ hC _ _ _ gR ⟨rfl, rfl, rfl, rfl, rfl, rfl, trivial⟩ hI rfl
 intro _ ih v19 v20 o H G34 r wd36 hG35 hHas hI37 ho
 rw [ho] at H; clear ho
 rw [hHas.eq]; clear hHas
 refine hLp _ _ _ ?_
 refine sQ fun K38 hK39 => ?_
 refine sr fun K40 hK41 => ?_
 refine q_mv (v := int .i64 v19) rfl ?_
 refine q_mv (v := int .i64 v20) rfl ?_
 refine q_lss rfl rfl ?_
 refine nl ?_
 refine hK41 _ _ _ ?_
 by_cases h42 : v19 < v20
 replace H := iY h42 H
 refine wpc_true (bool_yes h42) ?_
 refine wpc_skip ?_
 refine hK39 _ _ _ ?_
 refine wpc_block ?_
 refine sr fun K43 hK44 => ?_
 refine q_mv (v := int .i64 v19) rfl ?_
 refine q_mv (v := int .i64 v20) rfl ?_
 refine q_add rfl rfl ?_
 refine q_cvi ik3 ik83 rfl ?_
 refine q_shr (m := 1) rfl rfl rfl ?_
 refine q_cvi ik83 ik3 rfl ?_
 refine q_as (v := int .i64 (w64 (Int.fdiv (IntKind.wrap .u64 (w64 (v19 + v20))) (2 ^ 1)))) rfl ?_
 refine nl ?_
 refine hK44 _ _ _ ?_
 refine sr fun K45 hK46 => ?_
 refine q_mv (v := func (.func 89) [].toArray [].toArray) rfl ?_
 refine q_mv (v := slice A2 a1.length c3) rfl ?_
 refine q_mv (v := int .i64 (w64 (Int.fdiv (IntKind.wrap .u64 (w64 (v19 + v20))) (2 ^ 1)))) rfl ?_
 obtain ⟨⟨h47, h47'⟩, H⟩ := iS H
 obtain ⟨ad48, cs49, hA50, hK51, hn52, hc53⟩ := Dat.get (Dat.mono hG35 hD5) z_api_Glyph (w64 (Int.fdiv (IntKind.wrap .u64 (w64 (v19 + v20))) (2 ^ 1))) h47 h47'
 obtain ⟨rfl⟩ := open_api_Glyph hK51
 refine q_ia el22 rfl hA50 rfl h47 h47' ?_
 refine q_lfA hI37 ag98 rfl (cs := [int .u8 ((a1.getD (Int.toNat (w64 (Int.fdiv (IntKind.wrap .u64 (w64 (v19 + v20))) (2 ^ 1)))) z_api_Glyph).Byte), int .i64 ((a1.getD (Int.toNat (w64 (Int.fdiv (IntKind.wrap .u64 (w64 (v19 + v20))) (2 ^ 1)))) z_api_Glyph).Advance)]) rfl (fun j v hv => gR.cel _ _ (hc53 j v hv)) ?_
 refine q_mv (v := int .u8 a6) rfl ?_
 obtain ⟨y59, hy54, H⟩ := bS H
 refine q_cv (vs := [agg [int .u8 ((a1.getD (Int.toNat (w64 (Int.fdiv (IntKind.wrap .u64 (w64 (v19 + v20))) (2 ^ 1)))) z_api_Glyph).Byte), int .i64 ((a1.getD (Int.toNat (w64 (Int.fdiv (IntKind.wrap .u64 (w64 (v19 + v20))) (2 ^ 1)))) z_api_Glyph).Advance)].toArray, int .u8 a6]) bo89 rfl rfl (font_glyph_1_spec (a1 := (a1.getD (Int.toNat (w64 (Int.fdiv (IntKind.wrap .u64 (w64 (v19 + v20))) (2 ^ 1)))) z_api_Glyph)) (a2 := a6) hI37 hy54) ?_
 rintro _ wd57 ⟨G55, hG56, hI58, rfl⟩
 refine ⟨_, rfl, ?_⟩
 refine q_lss rfl rfl ?_
 refine nl ?_
 refine hK46 _ _ _ ?_
 by_cases h60 : y59 < 0
 replace H := iY h60 H
 refine wpc_true (bool_yes h60) ?_
 refine wpc_region ?_
 refine q_mv (v := int .i64 (w64 (Int.fdiv (IntKind.wrap .u64 (w64 (v19 + v20))) (2 ^ 1)))) rfl ?_
 refine q_add rfl rfl ?_
 refine q_as (v := int .i64 (w64 ((w64 (Int.fdiv (IntKind.wrap .u64 (w64 (v19 + v20))) (2 ^ 1))) + 1))) rfl ?_
 refine nl ?_
 exact ih _ _ _ H _ _ _ (gT hG35 hG56) ⟨rfl, rfl, rfl, rfl, rfl, rfl, trivial⟩ hI58 rfl
 replace H := iN h60 H
 refine wpc_false (bool_no h60) ?_
 refine wpc_region ?_
 refine q_mv (v := int .i64 (w64 (Int.fdiv (IntKind.wrap .u64 (w64 (v19 + v20))) (2 ^ 1)))) rfl ?_
 refine q_as (v := int .i64 (w64 (Int.fdiv (IntKind.wrap .u64 (w64 (v19 + v20))) (2 ^ 1)))) rfl ?_
 refine nl ?_
 exact ih _ _ _ H _ _ _ (gT hG35 hG56) ⟨rfl, rfl, rfl, rfl, rfl, rfl, trivial⟩ hI58 rfl
 replace H := iN h42 H
 refine wpc_false (bool_no h42) ?_
 refine wpc_exit ?_
 cases H
 exact ⟨rfl, _, rfl, hG35, ⟨rfl, rfl, rfl, rfl, rfl, trivial⟩, hI37, trivial⟩
 clear hC
 rintro e r ds wd31 ⟨rfl, G29, rfl, hG30, hHas, hI32, _⟩
 rw [hHas.eq]; clear hHas
 refine hK14 _ _ _ ?_
 refine sr fun K61 hK62 => ?_
 refine q_mv (v := int .i64 v28) rfl ?_
 refine q_mv (v := int .i64 v28) rfl ?_
 refine q_mv (v := int .i64 (a1.length : Int)) rfl ?_
 refine q_lss rfl rfl ?_
 refine q_mv (v := bool (decide (v28 < (a1.length : Int)))) rfl ?_
 obtain ⟨v63, hC, H⟩ := bS H
 refine wpq_split 9 (K := fun e r ds w => e = .normal ∧ ∃ (G64 : Gh), ds = [] ∧ G29 ≤ G64 ∧ Has [(35, int .i64 v28), (48, bool v63)] r ∧ Hp G64 (L) w ∧ True) ?_ ?_
 replace H := hC
 by_cases h69 : v28 < (a1.length : Int)
 replace H := iY h69 H
 refine q_mv (v := func (.func 89) [].toArray [].toArray) rfl ?_ (hw := gY rfl rfl rfl (bool_yes h69))
 refine q_mv (v := slice A2 a1.length c3) rfl ?_ (hw := gY rfl rfl rfl (bool_yes h69))
 refine q_mv (v := int .i64 v28) rfl ?_ (hw := gY rfl rfl rfl (bool_yes h69))
 obtain ⟨⟨h70, h70'⟩, H⟩ := iS H
 obtain ⟨ad71, cs72, hA73, hK74, hn75, hc76⟩ := Dat.get (Dat.mono hG30 hD5) z_api_Glyph (v28) h70 h70'
 obtain ⟨rfl⟩ := open_api_Glyph hK74
 refine q_ia el22 rfl hA73 rfl h70 h70' ?_ (hw := gY rfl rfl rfl (bool_yes h69))
 refine q_lfA hI32 ag98 rfl (cs := [int .u8 ((a1.getD (Int.toNat v28) z_api_Glyph).Byte), int .i64 ((a1.getD (Int.toNat v28) z_api_Glyph).Advance)]) rfl (fun j v hv => gR.cel _ _ (hc76 j v hv)) ?_ (hw := gY rfl rfl rfl (bool_yes h69))
 refine q_mv (v := int .u8 a6) rfl ?_ (hw := gY rfl rfl rfl (bool_yes h69))
 obtain ⟨y82, hy77, H⟩ := bS H
 refine q_cv (vs := [agg [int .u8 ((a1.getD (Int.toNat v28) z_api_Glyph).Byte), int .i64 ((a1.getD (Int.toNat v28) z_api_Glyph).Advance)].toArray, int .u8 a6]) bo89 rfl rfl (font_glyph_1_spec (a1 := (a1.getD (Int.toNat v28) z_api_Glyph)) (a2 := a6) hI32 hy77) ?_ (hw := gY rfl rfl rfl (bool_yes h69))
 rintro _ wd80 ⟨G78, hG79, hI81, rfl⟩
 refine ⟨_, rfl, ?_⟩
 refine q_eql rfl rfl ?_ (hw := gY rfl rfl rfl (bool_yes h69))
 refine q_pick true (v := bool (decide (y82 = 0))) (bool_yes h69) rfl ?_
 refine nl ?_
 cases H
 exact ⟨rfl, _, rfl, hG79, ⟨rfl, rfl, trivial⟩, hI81, trivial⟩
 replace H := iN h69 H
 refine wN (gN rfl rfl rfl (bool_no h69) rfl) ?_
 refine wN (gN rfl rfl rfl (bool_no h69) rfl) ?_
 refine wN (gN rfl rfl rfl (bool_no h69) rfl) ?_
 refine wN (gN rfl rfl rfl (bool_no h69) rfl) ?_
 refine wN (gN rfl rfl rfl (bool_no h69) rfl) ?_
 refine wN (gN rfl rfl rfl (bool_no h69) rfl) ?_
 refine wN (gN rfl rfl rfl (bool_no h69) rfl) ?_
 refine wN (gN rfl rfl rfl (bool_no h69) rfl) ?_
 refine q_pick false (v := bool false) (bool_no h69) rfl ?_
 refine nl ?_
 cases H
 exact ⟨rfl, _, rfl, gR, ⟨rfl, rfl, trivial⟩, hI32, trivial⟩
 clear hC
 rintro e r ds wd66 ⟨rfl, G64, rfl, hG65, hHas, hI67, _⟩
 rw [hHas.eq]; clear hHas
 refine q_as (v := int .i64 v28) rfl ?_
 refine q_as (v := bool v63) rfl ?_
 refine nl ?_
 refine hK62 _ _ _ ?_
 refine wpc_ret ?_
 cases H
 exact ⟨.inr rfl, rfl, _, ⟨_, _, rfl, rfl, ⟨_, _, rfl, rfl, rfl⟩⟩, _, (gT hG30 hG65), hI67, rfl⟩
set_option maxHeartbeats 1000000 in
theorem font_find_byte_k1_spec {a1 : List api_Glyph} {a6 : Int} {A2 : Option Addr} {c3 : Nat} {r1052 : api_Glyph} {r1053 : Bool} {G : Gh} {L : List Itm} {w : World} (hI : Hp G (L) w) (hl4 : a1.length ≤ c3) (hD5 : Dat k_api_Glyph G A2 a1) (H : font_find_byte_k1 a1 a6 = some (r1052, r1053)) :
    Calls Tryz.prog 88 [slice A2 a1.length c3, int .u8 a6, func (.func 89) [].toArray [].toArray].toArray w fun e w' => ∃ (G' : Gh), G ≤ G' ∧ Hp G' (L) w' ∧ e = .returned (tuple [agg [int .u8 r1052.Byte, int .i64 r1052.Advance].toArray, bool r1053].toArray) := by
 refine calls_intro (N := 25) Tryz.func88 rfl rfl (Nat.le_of_ble_eq_true rfl) ?_
 unfold font_find_byte_k1 at H
 refine sr fun K7 hK8 => ?_
 refine q_alloc hI ze98 (fun g10 wd11 hI12 => ?_)
 refine q_as (v := bool false) rfl ?_
 refine nl ?_
 refine hK8 _ _ _ ?_
 refine sr fun K13 hK14 => ?_
 refine q_mv (v := slice A2 a1.length c3) rfl ?_
 refine q_mv (v := int .u8 a6) rfl ?_
 refine q_mv (v := func (.func 89) [].toArray [].toArray) rfl ?_
 obtain ⟨⟨y20, y21⟩, hy15, H⟩ := bS H
 refine q_cv (vs := [slice A2 a1.length c3, int .u8 a6, func (.func 89) [].toArray [].toArray]) bo116 rfl rfl (slices_BinarySearchFunc_byte_k1_spec (a1 := a1) (a6 := a6) hI12 hl4 hD5 hy15) ?_
 rintro _ wd18 ⟨G16, hG17, hI19, rfl⟩
 refine ⟨_, rfl, ?_⟩
 refine q_mv (v := tuple [int .i64 y20, bool y21].toArray) rfl ?_
 refine q_ex (v := int .i64 y20) rfl rfl ?_
 refine q_ex (v := bool y21) rfl rfl ?_
 refine q_as (v := int .i64 y20) rfl ?_
 refine q_as (v := bool y21) rfl ?_
 refine nl ?_
 refine hK14 _ _ _ ?_
 refine sQ fun K22 hK23 => ?_
 refine sr fun K24 hK25 => ?_
 refine q_mv (v := bool y21) rfl ?_
 refine q_not rfl ?_
 refine nl ?_
 refine hK25 _ _ _ ?_
 by_cases h26 : (!y21) = true
 replace H := iY h26 H
 refine wpc_true (bval_yes h26) ?_
 refine sr fun K27 hK28 => ?_
 refine q_alloc hI19 ze98 (fun g30 wd31 hI32 => ?_)
 refine nl ?_
 refine hK28 _ _ _ ?_
 refine sr fun K33 hK34 => ?_
 refine q_ldA hI32 0 (cs := [int .u8 0, int .i64 0]) ag98 rfl rfl rfl rfl ?_
 refine q_stA hI32 1 (v := agg [int .u8 0, int .i64 0].toArray) (cs := [int .u8 0, int .i64 0]) (vs' := [int .u8 0, int .i64 0]) ag98 rfl rfl rfl rfl rfl rfl (Nat.le_of_ble_eq_true rfl) rfl (fun wd35 hI36 => ?_)
 refine q_as (v := bool false) rfl ?_
 refine nl ?_
 refine hK34 _ _ _ ?_
 refine wpc_ret ?_
 have hr37 := res_cell (P := Tryz.prog) hI36 1 (cs := [int .u8 0, int .i64 0]) (g := g10) (o := 0) ag98 rfl rfl rfl
 have hI38 := Hp.sub hI36 (sd (sd se))
 cases H
 exact ⟨.inr rfl, rfl, _, ⟨_, _, _, rfl, rfl, hr37, ⟨_, _, rfl, rfl, rfl⟩⟩, _, hG17, hI38, rfl⟩
 replace H := iN h26 H
 refine wpc_false (bval_no h26) ?_
 refine wpc_skip ?_
 refine hK23 _ _ _ ?_
 refine sr fun K39 hK40 => ?_
 refine q_mv (v := slice A2 a1.length c3) rfl ?_
 refine q_mv (v := int .i64 y20) rfl ?_
 obtain ⟨⟨h41, h41'⟩, H⟩ := iS H
 obtain ⟨ad42, cs43, hA44, hK45, hn46, hc47⟩ := Dat.get (Dat.mono hG17 hD5) z_api_Glyph (y20) h41 h41'
 obtain ⟨rfl⟩ := open_api_Glyph hK45
 refine q_ia el22 rfl hA44 rfl h41 h41' ?_
 refine q_lfA hI19 ag98 rfl (cs := [int .u8 ((a1.getD (Int.toNat y20) z_api_Glyph).Byte), int .i64 ((a1.getD (Int.toNat y20) z_api_Glyph).Advance)]) rfl (fun j v hv => gR.cel _ _ (hc47 j v hv)) ?_
 refine q_stA hI19 0 (v := agg [int .u8 ((a1.getD (Int.toNat y20) z_api_Glyph).Byte), int .i64 ((a1.getD (Int.toNat y20) z_api_Glyph).Advance)].toArray) (cs := [int .u8 ((a1.getD (Int.toNat y20) z_api_Glyph).Byte), int .i64 ((a1.getD (Int.toNat y20) z_api_Glyph).Advance)]) (vs' := [int .u8 ((a1.getD (Int.toNat y20) z_api_Glyph).Byte), int .i64 ((a1.getD (Int.toNat y20) z_api_Glyph).Advance)]) ag98 rfl rfl rfl rfl rfl rfl (Nat.le_of_ble_eq_true rfl) rfl (fun wd48 hI49 => ?_)
 refine q_as (v := bool true) rfl ?_
 refine nl ?_
 refine hK40 _ _ _ ?_
 refine wpc_ret ?_
 have hr50 := res_cell (P := Tryz.prog) hI49 0 (cs := [int .u8 ((a1.getD (Int.toNat y20) z_api_Glyph).Byte), int .i64 ((a1.getD (Int.toNat y20) z_api_Glyph).Advance)]) (g := g10) (o := 0) ag98 rfl rfl rfl
 have hI51 := Hp.sub hI49 (sd se)
 cases H
 exact ⟨.inr rfl, rfl, _, ⟨_, _, _, rfl, rfl, hr50, ⟨_, _, rfl, rfl, rfl⟩⟩, _, hG17, hI51, rfl⟩
set_option maxHeartbeats 1000000 in
theorem font_glyph_spec {a1 : api_Font} {a10 : Int} {A2 : Option Addr} {c3 : Nat} {A6 : Option Addr} {c7 : Nat} {r1034 : api_Glyph} {r1035 : Bool} {G : Gh} {L : List Itm} {w : World} (hI : Hp G (L) w) (hl4 : a1.Glyphs.length ≤ c3) (hD5 : Dat k_api_Glyph G A2 a1.Glyphs) (hl8 : a1.Kerns.length ≤ c7) (hD9 : Dat k_api_Kern G A6 a1.Kerns) (H : font_glyph a1 a10 = some (r1034, r1035)) :
    Calls Tryz.prog 69 [agg [slice A2 a1.Glyphs.length c3, slice A6 a1.Kerns.length c7].toArray, int .u8 a10].toArray w fun e w' => ∃ (G' : Gh), G ≤ G' ∧ Hp G' (L) w' ∧ e = .returned (tuple [agg [int .u8 r1034.Byte, int .i64 r1034.Advance].toArray, bool r1035].toArray) := by
 refine calls_intro (N := 12) Tryz.func69 rfl rfl (Nat.le_of_ble_eq_true rfl) ?_
 unfold font_glyph at H
 refine sr fun K11 hK12 => ?_
 refine q_box hI (v := agg [slice A2 a1.Glyphs.length c3, slice A6 a1.Kerns.length c7].toArray) (vs := [slice A2 a1.Glyphs.length c3, slice A6 a1.Kerns.length c7]) rfl rfl (fun g14 wd15 hI16 => ?_)
 refine q_alloc hI16 ze98 (fun g18 wd19 hI20 => ?_)
 refine q_as (v := bool false) rfl ?_
 refine nl ?_
 refine hK12 _ _ _ ?_
 refine sr fun K21 hK22 => ?_
 refine q_fa (a' := ⟨g14, 0, none⟩) fl25_0 rfl (add_plain _ _ _) ?_
 refine q_ld hI20 1 (v := slice A2 a1.Glyphs.length c3) ag22 rfl rfl rfl ?_
 refine q_mv (v := int .u8 a10) rfl ?_
 obtain ⟨⟨y28, y29⟩, hy23, H⟩ := bS H
 refine q_cv (vs := [slice A2 a1.Glyphs.length c3, int .u8 a10, func (.func 89) [].toArray [].toArray]) bo88 rfl rfl (font_find_byte_k1_spec (a1 := a1.Glyphs) (a6 := a10) hI20 hl4 hD5 hy23) ?_
 rintro _ wd26 ⟨G24, hG25, hI27, rfl⟩
 refine ⟨_, rfl, ?_⟩
 refine q_ex (v := agg [int .u8 y28.Byte, int .i64 y28.Advance].toArray) rfl rfl ?_
 refine q_ex (v := bool y29) rfl rfl ?_
 refine q_stA hI27 0 (v := agg [int .u8 y28.Byte, int .i64 y28.Advance].toArray) (cs := [int .u8 y28.Byte, int .i64 y28.Advance]) (vs' := [int .u8 y28.Byte, int .i64 y28.Advance]) ag98 rfl rfl rfl rfl rfl rfl (Nat.le_of_ble_eq_true rfl) rfl (fun wd30 hI31 => ?_)
 refine q_as (v := bool y29) rfl ?_
 refine nl ?_
 refine hK22 _ _ _ ?_
 refine wpc_ret ?_
 have hr32 := res_cell (P := Tryz.prog) hI31 0 (cs := [int .u8 y28.Byte, int .i64 y28.Advance]) (g := g18) (o := 0) ag98 rfl rfl rfl
 have hI33 := Hp.sub hI31 (sd (sd se))
 cases H
 exact ⟨.inr rfl, rfl, _, ⟨_, _, _, rfl, rfl, hr32, ⟨_, _, rfl, rfl, rfl⟩⟩, _, hG25, hI33, rfl⟩
set_option maxHeartbeats 1000000 in
theorem cmp_Or_int_spec {a1 : List Int} {A2 : Option Addr} {c3 : Nat} {r1062 : Int} {G : Gh} {L : List Itm} {w : World} (hI : Hp G (L) w) (hl4 : a1.length ≤ c3) (hD5 : Dat (Kd.int .i64) G A2 a1) (H : cmp_Or_int a1 = some r1062) :
    Calls Tryz.prog 91 [slice A2 a1.length c3].toArray w fun e w' => ∃ (G' : Gh), G ≤ G' ∧ Hp G' (L) w' ∧ e = .returned (int .i64 r1062) := by
 refine calls_intro (N := 18) Tryz.func91 rfl rfl (Nat.le_of_ble_eq_true rfl) ?_
 unfold cmp_Or_int at H
 refine sr fun K6 hK7 => ?_
 refine q_as (v := int .i64 0) rfl ?_
 refine nl ?_
 refine hK7 _ _ _ ?_
 refine sr fun K8 hK9 => ?_
 refine q_as (v := int .i64 0) rfl ?_
 refine nl ?_
 refine hK9 _ _ _ ?_
 refine sQ fun K10 hK11 => ?_
 refine sr fun K12 hK13 => ?_
 refine q_mv (v := slice A2 a1.length c3) rfl ?_
 refine q_len so29 rfl ?_
 refine q_mv (v := int .i64 0) rfl ?_
 refine nl ?_
 refine hK13 _ _ _ ?_
 refine wpc_block ?_
 obtain ⟨o34, hC, H⟩ := bS H
 refine wpc_mono (Q := fun e r ds w => match (generalizing := false) o34 with | (Sum.inl v25) => e = .ret ∧ ∃ (G26 : Gh), ds = [] ∧ G ≤ G26 ∧ Has [(2, int .i64 v25)] r ∧ Hp G26 (L) w ∧ True | (Sum.inr _) => e = .exit 0 ∧ ∃ (G30 : Gh), ds = [] ∧ G ≤ G30 ∧ Has [(3, int .i64 0)] r ∧ Hp G30 (L) w ∧ True) ?_ ?_
 clear H
 refine wpc_loop fun I hLp => ?_
 refine cmp_Or_int_l24.partial_correctness a1 (fun v18 o => ∀ (G35 : Gh) (r : Rg) (w : World), G ≤ G35 → Has [(3, int .i64 0), (6, slice A2 a1.length c3), (7, int .i64 (a1.length : Int)), (8, int .i64 v18)] r → Hp G35 (L) w → o = o34 → I r [] w) ?_ 0 _ hC _ _ _ gR ⟨rfl, rfl, rfl, rfl, trivial⟩ hI rfl
 intro _ ih v18 o H G35 r wd37 hG36 hHas hI38 ho
 rw [ho] at H; clear ho
 rw [hHas.eq]; clear hHas
 refine hLp _ _ _ ?_
 refine sr fun K39 hK40 => ?_
 refine q_lss rfl rfl ?_
 refine nl ?_
 refine hK40 _ _ _ ?_
 refine sQ fun K41 hK42 => ?_
 by_cases h43 : v18 < (a1.length : Int)
 replace H := iY h43 H
 refine wpc_true (bool_yes h43) ?_
 refine wpc_skip ?_
 refine hK42 _ _ _ ?_
 refine sQ fun K44 hK45 => ?_
 refine wpc_block ?_
 refine sr fun K46 hK47 => ?_
 obtain ⟨⟨h48, h48'⟩, H⟩ := iS H
 obtain ⟨ad49, cs50, hA51, hK52, hn53, hc54⟩ := Dat.get (Dat.mono hG36 hD5) (0 : Int) (v18) h48 h48'
 obtain rfl := hK52
 refine q_ia el29 rfl hA51 rfl h48 h48' ?_
 refine q_lf hI38 (v := int .i64 (a1.getD (Int.toNat v18) (0 : Int))) ag3 rfl (gR.cel _ _ (hc54 0 _ rfl)) ?_
 refine q_as (v := int .i64 (a1.getD (Int.toNat v18) (0 : Int))) rfl ?_
 refine nl ?_
 refine hK47 _ _ _ ?_
 refine sr fun K55 hK56 => ?_
 refine q_mv (v := int .i64 (a1.getD (Int.toNat v18) (0 : Int))) rfl ?_
 refine q_mv (v := int .i64 0) rfl ?_
 refine q_neq rfl rfl ?_
 refine nl ?_
 refine hK56 _ _ _ ?_
 by_cases h57 : ¬ (a1.getD (Int.toNat v18) (0 : Int)) = 0
 replace H := iY h57 H
 refine wpc_true (bool_yes h57) ?_
 refine sr fun K58 hK59 => ?_
 refine q_mv (v := int .i64 (a1.getD (Int.toNat v18) (0 : Int))) rfl ?_
 refine q_as (v := int .i64 (a1.getD (Int.toNat v18) (0 : Int))) rfl ?_
 refine nl ?_
 refine hK59 _ _ _ ?_
 refine wpc_ret ?_
 cases H
 exact ⟨rfl, _, rfl, hG36, ⟨rfl, trivial⟩, hI38, trivial⟩
 replace H := iN h57 H
 refine wpc_false (bool_no h57) ?_
 refine wpc_skip ?_
 refine hK45 _ _ _ ?_
 refine wpc_region ?_
 refine q_add rfl rfl ?_
 refine q_mv (v := int .i64 (w64 (v18 + 1))) rfl ?_
 refine nl ?_
 exact ih _ _ H _ _ _ hG36 ⟨rfl, rfl, rfl, rfl, trivial⟩ hI38 rfl
 replace H := iN h43 H
 refine wpc_false (bool_no h43) ?_
 refine wpc_exit ?_
 cases H
 exact ⟨rfl, _, rfl, hG36, ⟨rfl, trivial⟩, hI38, trivial⟩
 clear hC
 rcases o34 with v25 | _
 rintro e r ds wd28 ⟨rfl, G26, rfl, hG27, hHas, hI29, _⟩
 rw [hHas.eq]; clear hHas
 cases H
 exact ⟨.inr rfl, rfl, _, ⟨_, _, rfl, rfl, rfl⟩, _, hG27, hI29, rfl⟩
 rintro e r ds wd32 ⟨rfl, G30, rfl, hG31, hHas, hI33, _⟩
 rw [hHas.eq]; clear hHas
 refine hK11 _ _ _ ?_
 refine sr fun K60 hK61 => ?_
 refine q_mv (v := int .i64 0) rfl ?_
 refine q_as (v := int .i64 0) rfl ?_
 refine nl ?_
 refine hK61 _ _ _ ?_
 refine wpc_ret ?_
 cases H
 exact ⟨.inr rfl, rfl, _, ⟨_, _, rfl, rfl, rfl⟩, _, hG31, hI33, rfl⟩
set_option maxHeartbeats 1000000 in
theorem font_order_spec {a1 : api_Kern} {a2 : font_pair} {r1636 : Int} {G : Gh} {L : List Itm} {w : World} (hI : Hp G (L) w) (H : font_order a1 a2 = some r1636) :
    Calls Tryz.prog 70 [agg [int .u8 a1.Left, int .u8 a1.Right, int .i64 a1.By].toArray, agg [int .u8 a2.left, int .u8 a2.right].toArray].toArray w fun e w' => ∃ (G' : Gh), G ≤ G' ∧ Hp G' (L) w' ∧ e = .returned (int .i64 r1636) := by
 refine calls_intro (N := 17) Tryz.func70 rfl rfl (Nat.le_of_ble_eq_true rfl) ?_
 unfold font_order at H
 refine sr fun K3 hK4 => ?_
 refine q_box hI (v := agg [int .u8 a1.Left, int .u8 a1.Right, int .i64 a1.By].toArray) (vs := [int .u8 a1.Left, int .u8 a1.Right, int .i64 a1.By]) rfl rfl (fun g6 wd7 hI8 => ?_)
 refine q_box hI8 (v := agg [int .u8 a2.left, int .u8 a2.right].toArray) (vs := [int .u8 a2.left, int .u8 a2.right]) rfl rfl (fun g10 wd11 hI12 => ?_)
 refine q_as (v := int .i64 0) rfl ?_
 refine nl ?_
 refine hK4 _ _ _ ?_
 refine sQ fun K13 hK14 => ?_
 obtain ⟨y26, hy211, H⟩ := bS H
 obtain ⟨y226, hy411, H⟩ := bS H
 obtain ⟨y434, hy619, H⟩ := bS H
 refine wpc_drawL [0, 1, 0, 4, 15, 0, 32, 0, 128, 511, 1023, 2047, 4095] (fun D r w => (D 10 = false ∧ ∃ (G' : Gh), G ≤ G' ∧ Regs [(2, pointer (some ⟨g6, 0, none⟩)), (3, pointer (some ⟨g10, 0, none⟩))] [] [(0, 5, pointer (some ⟨g6, 0, none⟩)), (1, 6, int .u8 a1.Left), (2, 7, pointer (some ⟨g10, 0, none⟩)), (3, 8, int .u8 a2.left), (4, 9, int .i64 y26), (5, 10, pointer (some ⟨g6, 1, none⟩)), (6, 11, int .u8 a1.Right), (7, 12, pointer (some ⟨g10, 1, none⟩)), (8, 13, int .u8 a2.right), (9, 14, int .i64 y226)] D r ∧ Hp G' (bx g10 [int .u8 a2.left, int .u8 a2.right] 119 :: bx g6 [int .u8 a1.Left, int .u8 a1.Right, int .i64 a1.By] 114 :: L) w) ∨ (D 10 = true ∧ ∃ (g423 : Nat) (G' : Gh), G ≤ G' ∧ Dat (Kd.int .i64) G' (some ⟨g423, 0, none⟩) ([y26, y226] : List Int) ∧ Regs [(2, pointer (some ⟨g6, 0, none⟩)), (3, pointer (some ⟨g10, 0, none⟩))] [] [(0, 5, pointer (some ⟨g6, 0, none⟩)), (1, 6, int .u8 a1.Left), (2, 7, pointer (some ⟨g10, 0, none⟩)), (3, 8, int .u8 a2.left), (4, 9, int .i64 y26), (5, 10, pointer (some ⟨g6, 1, none⟩)), (6, 11, int .u8 a1.Right), (7, 12, pointer (some ⟨g10, 1, none⟩)), (8, 13, int .u8 a2.right), (9, 14, int .i64 y226), (10, 15, slice (some ⟨g423, 0, none⟩) ([y26, y226] : List Int).length 2), (11, 16, int .i64 y434), (12, 4, int .i64 y434)] D r ∧ Hp G' (tk (slice (some ⟨g423, 0, none⟩) ([y26, y226] : List Int).length 2) 1 3 :: bx g10 [int .u8 a2.left, int .u8 a2.right] 119 :: bx g6 [int .u8 a1.Left, int .u8 a1.Right, int .i64 a1.By] 114 :: L) w)) mixo rfl rfl ?_ ?_ ?_
 exact (.inl ⟨rfl, _, Gh.le_refl _, Regs.start ⟨rfl, rfl, trivial⟩ trivial, hI12.drew⟩)
 refine ⟨?_, ?_, ?_, ?_, ?_, ?_, ?_, ?_, ?_, ?_, ?_, ?_, ?_, trivial⟩
 rintro D r wd634 (⟨hd2, G630, hG631, hReg633, hI632⟩ | ⟨hd1, g423, G630, hG631, hD428, hReg633, hI632⟩) hDi hpre hpost
 obtain ⟨r0, rfl⟩ := Has.ex (cC (hReg633.ins.get 0 rfl) cN)
 refine q_fa (a' := ⟨g6, 0, none⟩) fl114_0 rfl (add_plain _ _ _) ?_
 exact nl ⟨rfl, (.inl ⟨hd2, _, hG631, (Regs.step hReg633 hDi rfl rfl rfl rfl), hI632⟩)⟩
 cases (hpost 10 rfl).symm.trans hd1
 rintro D r wd634 (⟨hd2, G630, hG631, hReg633, hI632⟩ | ⟨hd1, g423, G630, hG631, hD428, hReg633, hI632⟩) hDi hpre hpost
 obtain ⟨r0, rfl⟩ := Has.ex (cC (hReg633.get 0 rfl (hpre 0 rfl)) cN)
 refine q_ld hI632 1 (v := int .u8 a1.Left) ag5 rfl rfl rfl ?_
 exact nl ⟨rfl, (.inl ⟨hd2, _, hG631, (Regs.step hReg633 hDi rfl rfl rfl rfl), hI632⟩)⟩
 cases (hpost 10 rfl).symm.trans hd1
 rintro D r wd634 (⟨hd2, G630, hG631, hReg633, hI632⟩ | ⟨hd1, g423, G630, hG631, hD428, hReg633, hI632⟩) hDi hpre hpost
 obtain ⟨r0, rfl⟩ := Has.ex (cC (hReg633.ins.get 1 rfl) cN)
 refine q_fa (a' := ⟨g10, 0, none⟩) fl119_0 rfl (add_plain _ _ _) ?_
 exact nl ⟨rfl, (.inl ⟨hd2, _, hG631, (Regs.step hReg633 hDi rfl rfl rfl rfl), hI632⟩)⟩
 cases (hpost 10 rfl).symm.trans hd1
 rintro D r wd634 (⟨hd2, G630, hG631, hReg633, hI632⟩ | ⟨hd1, g423, G630, hG631, hD428, hReg633, hI632⟩) hDi hpre hpost
 obtain ⟨r0, rfl⟩ := Has.ex (cC (hReg633.get 2 rfl (hpre 2 rfl)) cN)
 refine q_ld hI632 0 (v := int .u8 a2.left) ag5 rfl rfl rfl ?_
 exact nl ⟨rfl, (.inl ⟨hd2, _, hG631, (Regs.step hReg633 hDi rfl rfl rfl rfl), hI632⟩)⟩
 cases (hpost 10 rfl).symm.trans hd1
 rintro D r wd634 (⟨hd2, G630, hG631, hReg633, hI632⟩ | ⟨hd1, g423, G630, hG631, hD428, hReg633, hI632⟩) hDi hpre hpost
 obtain ⟨r0, rfl⟩ := Has.ex (cC (hReg633.get 1 rfl (hpre 1 rfl)) (cC (hReg633.get 3 rfl (hpre 3 rfl)) cN))
 refine q_cv (vs := [int .u8 a1.Left, int .u8 a2.left]) bo90 rfl rfl (cmp_Compare_byte_spec (a1 := a1.Left) (a2 := a2.left) hI632 hy211) ?_
 rintro _ wd24 ⟨G22, hG23, hI25, rfl⟩
 refine ⟨_, rfl, ?_⟩
 exact nl ⟨rfl, (.inl ⟨hd2, _, (gT hG631 hG23), (Regs.step hReg633 hDi rfl rfl rfl rfl), hI25⟩)⟩
 cases (hpost 10 rfl).symm.trans hd1
 rintro D r wd634 (⟨hd2, G630, hG631, hReg633, hI632⟩ | ⟨hd1, g423, G630, hG631, hD428, hReg633, hI632⟩) hDi hpre hpost
 obtain ⟨r0, rfl⟩ := Has.ex (cC (hReg633.ins.get 0 rfl) cN)
 refine q_fa (a' := ⟨g6, 1, none⟩) fl114_1 rfl (add_plain _ _ _) ?_
 exact nl ⟨rfl, (.inl ⟨hd2, _, hG631, (Regs.step hReg633 hDi rfl rfl rfl rfl), hI632⟩)⟩
 cases (hpost 10 rfl).symm.trans hd1
 rintro D r wd634 (⟨hd2, G630, hG631, hReg633, hI632⟩ | ⟨hd1, g423, G630, hG631, hD428, hReg633, hI632⟩) hDi hpre hpost
 obtain ⟨r0, rfl⟩ := Has.ex (cC (hReg633.get 5 rfl (hpre 5 rfl)) cN)
 refine q_ld hI632 1 (v := int .u8 a1.Right) ag5 rfl rfl rfl ?_
 exact nl ⟨rfl, (.inl ⟨hd2, _, hG631, (Regs.step hReg633 hDi rfl rfl rfl rfl), hI632⟩)⟩
 cases (hpost 10 rfl).symm.trans hd1
 rintro D r wd634 (⟨hd2, G630, hG631, hReg633, hI632⟩ | ⟨hd1, g423, G630, hG631, hD428, hReg633, hI632⟩) hDi hpre hpost
 obtain ⟨r0, rfl⟩ := Has.ex (cC (hReg633.ins.get 1 rfl) cN)
 refine q_fa (a' := ⟨g10, 1, none⟩) fl119_1 rfl (add_plain _ _ _) ?_
 exact nl ⟨rfl, (.inl ⟨hd2, _, hG631, (Regs.step hReg633 hDi rfl rfl rfl rfl), hI632⟩)⟩
 cases (hpost 10 rfl).symm.trans hd1
 rintro D r wd634 (⟨hd2, G630, hG631, hReg633, hI632⟩ | ⟨hd1, g423, G630, hG631, hD428, hReg633, hI632⟩) hDi hpre hpost
 obtain ⟨r0, rfl⟩ := Has.ex (cC (hReg633.get 7 rfl (hpre 7 rfl)) cN)
 refine q_ld hI632 0 (v := int .u8 a2.right) ag5 rfl rfl rfl ?_
 exact nl ⟨rfl, (.inl ⟨hd2, _, hG631, (Regs.step hReg633 hDi rfl rfl rfl rfl), hI632⟩)⟩
 cases (hpost 10 rfl).symm.trans hd1
 rintro D r wd634 (⟨hd2, G630, hG631, hReg633, hI632⟩ | ⟨hd1, g423, G630, hG631, hD428, hReg633, hI632⟩) hDi hpre hpost
 obtain ⟨r0, rfl⟩ := Has.ex (cC (hReg633.get 6 rfl (hpre 6 rfl)) (cC (hReg633.get 8 rfl (hpre 8 rfl)) cN))
 refine q_cv (vs := [int .u8 a1.Right, int .u8 a2.right]) bo90 rfl rfl (cmp_Compare_byte_spec (a1 := a1.Right) (a2 := a2.right) hI632 hy411) ?_
 rintro _ wd224 ⟨G222, hG223, hI225, rfl⟩
 refine ⟨_, rfl, ?_⟩
 exact nl ⟨rfl, (.inl ⟨hd2, _, (gT hG631 hG223), (Regs.step hReg633 hDi rfl rfl rfl rfl), hI225⟩)⟩
 cases (hpost 10 rfl).symm.trans hd1
 rintro D r wd634 (⟨hd2, G630, hG631, hReg633, hI632⟩ | ⟨hd1, g423, G630, hG631, hD428, hReg633, hI632⟩) hDi hpre hpost
 obtain ⟨r0, rfl⟩ := Has.ex (cC (hReg633.get 4 rfl (hpre 4 rfl)) (cC (hReg633.get 9 rfl (hpre 9 rfl)) cN))
 refine q_bs hI632 (vs := [(0, int .i64 y26), (1, int .i64 y226)]) (cs := [int .i64 y26, int .i64 y226]) el29 ze3 rfl (by decide) rfl rfl (fun g423 wd424 hI425 => ?_)
 obtain ⟨G426, hG427, hI429, hD428⟩ := Hp.publish (xs := ([y26, y226] : List Int)) (n := 2) (Kd.int .i64) hI425 ⟨[int .i64 y26], _, rfl, rfl, ⟨[int .i64 y226], _, rfl, rfl, rfl⟩⟩ rfl
 exact nl ⟨rfl, (.inr ⟨rfl, g423, _, (gT hG631 hG427), hD428, (Regs.step (Regs.more (new := [(10, 15, slice (some ⟨g423, 0, none⟩) ([y26, y226] : List Int).length 2), (11, 16, int .i64 y434), (12, 4, int .i64 y434)]) hReg633 (List.forall_mem_cons.2 ⟨hDi, (List.forall_mem_cons.2 ⟨hpost 11 rfl, (List.forall_mem_cons.2 ⟨hpost 12 rfl, (fun _ h => nomatch h)⟩)⟩)⟩)) hDi rfl rfl rfl rfl), hI429⟩)⟩
 cases hDi.symm.trans hd1
 rintro D r wd634 (⟨hd2, G630, hG631, hReg633, hI632⟩ | ⟨hd1, g423, G630, hG631, hD428, hReg633, hI632⟩) hDi hpre hpost
 cases (hpre 10 rfl).symm.trans hd2
 obtain ⟨r0, rfl⟩ := Has.ex (cC (hReg633.get 10 rfl (hpre 10 rfl)) cN)
 refine q_cv (vs := [slice (some ⟨g423, 0, none⟩) ([y26, y226] : List Int).length 2]) bo91 rfl rfl (cmp_Or_int_spec (a1 := ([y26, y226] : List Int)) hI632 (show ([y26, y226] : List Int).length ≤ 2 from Nat.le_of_ble_eq_true rfl) hD428 hy619) ?_
 rintro _ wd432 ⟨G430, hG431, hI433, rfl⟩
 refine ⟨_, rfl, ?_⟩
 exact nl ⟨rfl, (.inr ⟨hd1, g423, _, (gT hG631 hG431), (Dat.mono hG431 hD428), (Regs.step hReg633 hDi rfl rfl rfl rfl), hI433⟩)⟩
 rintro D r wd634 (⟨hd2, G630, hG631, hReg633, hI632⟩ | ⟨hd1, g423, G630, hG631, hD428, hReg633, hI632⟩) hDi hpre hpost
 cases (hpre 10 rfl).symm.trans hd2
 obtain ⟨r0, rfl⟩ := Has.ex (cC (hReg633.get 11 rfl (hpre 11 rfl)) cN)
 refine q_as (v := int .i64 y434) rfl ?_
 exact nl ⟨rfl, (.inr ⟨hd1, g423, _, hG631, hD428, (Regs.step hReg633 hDi rfl rfl rfl rfl), hI632⟩)⟩
 intro D r wd634 hall hR
 rcases hR with ⟨hd2, G630, hG631, hReg633, hI632⟩ | ⟨hd1, g423, G630, hG631, hD428, hReg633, hI632⟩
 cases (hall 10 (Nat.le_of_ble_eq_true rfl)).symm.trans hd2
 obtain ⟨r0, rfl⟩ := Has.ex (cC (hReg633.get 12 rfl (hall 12 (Nat.le_of_ble_eq_true rfl))) cN)
 refine hK14 _ _ _ ?_
 refine wpc_ret ?_
 have hI635 := Hp.sub hI632 (sd (sd (sd se)))
 cases H
 exact ⟨.inr rfl, rfl, _, ⟨_, _, rfl, rfl, rfl⟩, _, hG631, hI635, rfl⟩
end Go.Proofs.YtokeiiakkfdmgaaGreatDoor.LG
