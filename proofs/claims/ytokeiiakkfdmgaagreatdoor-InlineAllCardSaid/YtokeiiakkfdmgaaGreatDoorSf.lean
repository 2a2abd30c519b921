/-
  The walks: each function computes its plain function: printed by a program out of the translation.
-/
import Derived.Test.YtokeiiakkfdmgaaGreatDoorSe
set_option linter.unusedVariables false
set_option linter.unusedSimpArgs false
set_option maxRecDepth 100000
namespace Go.Proofs.YtokeiiakkfdmgaaGreatDoor.LG
open Go Go.LG Go.RowKit Go.Value
open Go.Lib Go.Shelf Go.Proofs
set_option maxHeartbeats 1000000 in
theorem formeref08_Valid_spec {a1 : api_Breaks} {A2 : Option Addr} {c3 : Nat} {r1180 : Bool} {G : Gh} {L : List Itm} {w : World} (hI : Hp G (L) w) (hl4 : a1.Keep.length ≤ c3) (hD5 : Dat Kd.str G A2 a1.Keep) (H : formeref08_Valid a1 = some r1180) :
    Calls Tryz.prog 46 [agg [int .i64 a1.Before, int .i64 a1.Behind, slice A2 a1.Keep.length c3].toArray].toArray w fun e w' => ∃ (G' : Gh), G ≤ G' ∧ Hp G' (L) w' ∧ e = .returned (bool r1180) := by
 refine calls_intro (N := 77) Tryz.func46 rfl rfl (Nat.le_of_ble_eq_true rfl) ?_
 unfold formeref08_Valid at H
 refine sr fun K6 hK7 => ?_
 refine q_box hI (v := agg [int .i64 a1.Before, int .i64 a1.Behind, slice A2 a1.Keep.length c3].toArray) (vs := [int .i64 a1.Before, int .i64 a1.Behind, slice A2 a1.Keep.length c3]) rfl rfl (fun g9 wd10 hI11 => ?_)
 refine q_as (v := bool false) rfl ?_
 refine nl ?_
 refine hK7 _ _ _ ?_
 refine sQ fun K12 hK13 => ?_
 refine sr fun K14 hK15 => ?_
 refine q_fa (a' := ⟨g9, 0, none⟩) fl28_0 rfl (add_plain _ _ _) ?_
 refine q_ld hI11 0 (v := int .i64 a1.Before) ag3 rfl rfl rfl ?_
 refine q_lss rfl rfl ?_
 refine q_mv (v := bool (decide (a1.Before < 1))) rfl ?_
 obtain ⟨v16, hC, H⟩ := bS H
 refine wpq_split 4 (K := fun e r ds w => e = .normal ∧ ∃ (G17 : Gh), ds = [] ∧ G ≤ G17 ∧ Has [(1, pointer (some ⟨g9, 0, none⟩)), (13, bool v16)] r ∧ Hp G17 (bx g9 [int .i64 a1.Before, int .i64 a1.Behind, slice A2 a1.Keep.length c3] 28 :: L) w ∧ True) ?_ ?_
 replace H := hC
 by_cases h22 : a1.Before < 1
 replace H := iY h22 H
 refine wN (gN rfl rfl rfl (bool_yes h22) rfl) ?_
 refine wN (gN rfl rfl rfl (bool_yes h22) rfl) ?_
 refine wN (gN rfl rfl rfl (bool_yes h22) rfl) ?_
 refine q_pick true (v := bool true) (bool_yes h22) rfl ?_
 refine nl ?_
 cases H
 exact ⟨rfl, _, rfl, gR, ⟨rfl, rfl, trivial⟩, hI11, trivial⟩
 replace H := iN h22 H
 refine q_fa (a' := ⟨g9, 0, none⟩) fl28_0 rfl (add_plain _ _ _) ?_ (hw := gY rfl rfl rfl (bool_no h22))
 refine q_ld hI11 0 (v := int .i64 a1.Before) ag3 rfl rfl rfl ?_ (hw := gY rfl rfl rfl (bool_no h22))
 refine q_gtr rfl rfl ?_ (hw := gY rfl rfl rfl (bool_no h22))
 refine q_pick false (v := bool (decide (5 < a1.Before))) (bool_no h22) rfl ?_
 refine nl ?_
 cases H
 exact ⟨rfl, _, rfl, gR, ⟨rfl, rfl, trivial⟩, hI11, trivial⟩
 clear hC
 rintro e r ds wd19 ⟨rfl, G17, rfl, hG18, hHas, hI20, _⟩
 rw [hHas.eq]; clear hHas
 refine q_mv (v := bool v16) rfl ?_
 obtain ⟨v23, hC, H⟩ := bS H
 refine wpq_split 4 (K := fun e r ds w => e = .normal ∧ ∃ (G24 : Gh), ds = [] ∧ G17 ≤ G24 ∧ Has [(1, pointer (some ⟨g9, 0, none⟩)), (18, bool v23)] r ∧ Hp G24 (bx g9 [int .i64 a1.Before, int .i64 a1.Behind, slice A2 a1.Keep.length c3] 28 :: L) w ∧ True) ?_ ?_
 replace H := hC
 by_cases h29 : v16 = true
 replace H := iY h29 H
 refine wN (gN rfl rfl rfl (bval_yes h29) rfl) ?_
 refine wN (gN rfl rfl rfl (bval_yes h29) rfl) ?_
 refine wN (gN rfl rfl rfl (bval_yes h29) rfl) ?_
 refine q_pick true (v := bool true) (bval_yes h29) rfl ?_
 refine nl ?_
 cases H
 exact ⟨rfl, _, rfl, gR, ⟨rfl, rfl, trivial⟩, hI20, trivial⟩
 replace H := iN h29 H
 refine q_fa (a' := ⟨g9, 1, none⟩) fl28_1 rfl (add_plain _ _ _) ?_ (hw := gY rfl rfl rfl (bval_no h29))
 refine q_ld hI20 0 (v := int .i64 a1.Behind) ag3 rfl rfl rfl ?_ (hw := gY rfl rfl rfl (bval_no h29))
 refine q_lss rfl rfl ?_ (hw := gY rfl rfl rfl (bval_no h29))
 refine q_pick false (v := bool (decide (a1.Behind < 1))) (bval_no h29) rfl ?_
 refine nl ?_
 cases H
 exact ⟨rfl, _, rfl, gR, ⟨rfl, rfl, trivial⟩, hI20, trivial⟩
 clear hC
 rintro e r ds wd26 ⟨rfl, G24, rfl, hG25, hHas, hI27, _⟩
 rw [hHas.eq]; clear hHas
 refine q_mv (v := bool v23) rfl ?_
 obtain ⟨v30, hC, H⟩ := bS H
 refine wpq_split 4 (K := fun e r ds w => e = .normal ∧ ∃ (G31 : Gh), ds = [] ∧ G24 ≤ G31 ∧ Has [(1, pointer (some ⟨g9, 0, none⟩)), (23, bool v30)] r ∧ Hp G31 (bx g9 [int .i64 a1.Before, int .i64 a1.Behind, slice A2 a1.Keep.length c3] 28 :: L) w ∧ True) ?_ ?_
 replace H := hC
 by_cases h36 : v23 = true
 replace H := iY h36 H
 refine wN (gN rfl rfl rfl (bval_yes h36) rfl) ?_
 refine wN (gN rfl rfl rfl (bval_yes h36) rfl) ?_
 refine wN (gN rfl rfl rfl (bval_yes h36) rfl) ?_
 refine q_pick true (v := bool true) (bval_yes h36) rfl ?_
 refine nl ?_
 cases H
 exact ⟨rfl, _, rfl, gR, ⟨rfl, rfl, trivial⟩, hI27, trivial⟩
 replace H := iN h36 H
 refine q_fa (a' := ⟨g9, 1, none⟩) fl28_1 rfl (add_plain _ _ _) ?_ (hw := gY rfl rfl rfl (bval_no h36))
 refine q_ld hI27 0 (v := int .i64 a1.Behind) ag3 rfl rfl rfl ?_ (hw := gY rfl rfl rfl (bval_no h36))
 refine q_gtr rfl rfl ?_ (hw := gY rfl rfl rfl (bval_no h36))
 refine q_pick false (v := bool (decide (5 < a1.Behind))) (bval_no h36) rfl ?_
 refine nl ?_
 cases H
 exact ⟨rfl, _, rfl, gR, ⟨rfl, rfl, trivial⟩, hI27, trivial⟩
 clear hC
 rintro e r ds wd33 ⟨rfl, G31, rfl, hG32, hHas, hI34, _⟩
 rw [hHas.eq]; clear hHas
 refine q_mv (v := bool v30) rfl ?_
 obtain ⟨v37, hC, H⟩ := bS H
 refine wpq_split 5 (K := fun e r ds w => e = .normal ∧ ∃ (G38 : Gh), ds = [] ∧ G31 ≤ G38 ∧ Has [(1, pointer (some ⟨g9, 0, none⟩)), (29, bool v37)] r ∧ Hp G38 (bx g9 [int .i64 a1.Before, int .i64 a1.Behind, slice A2 a1.Keep.length c3] 28 :: L) w ∧ True) ?_ ?_
 replace H := hC
 by_cases h43 : v30 = true
 replace H := iY h43 H
 refine wN (gN rfl rfl rfl (bval_yes h43) rfl) ?_
 refine wN (gN rfl rfl rfl (bval_yes h43) rfl) ?_
 refine wN (gN rfl rfl rfl (bval_yes h43) rfl) ?_
 refine wN (gN rfl rfl rfl (bval_yes h43) rfl) ?_
 refine q_pick true (v := bool true) (bval_yes h43) rfl ?_
 refine nl ?_
 cases H
 exact ⟨rfl, _, rfl, gR, ⟨rfl, rfl, trivial⟩, hI34, trivial⟩
 replace H := iN h43 H
 refine q_fa (a' := ⟨g9, 2, none⟩) fl28_2 rfl (add_plain _ _ _) ?_ (hw := gY rfl rfl rfl (bval_no h43))
 refine q_ld hI34 0 (v := slice A2 a1.Keep.length c3) ag26 rfl rfl rfl ?_ (hw := gY rfl rfl rfl (bval_no h43))
 refine q_len so26 rfl ?_ (hw := gY rfl rfl rfl (bval_no h43))
 refine q_gtr rfl rfl ?_ (hw := gY rfl rfl rfl (bval_no h43))
 refine q_pick false (v := bool (decide (20 < (a1.Keep.length : Int)))) (bval_no h43) rfl ?_
 refine nl ?_
 cases H
 exact ⟨rfl, _, rfl, gR, ⟨rfl, rfl, trivial⟩, hI34, trivial⟩
 clear hC
 rintro e r ds wd40 ⟨rfl, G38, rfl, hG39, hHas, hI41, _⟩
 rw [hHas.eq]; clear hHas
 refine nl ?_
 refine hK15 _ _ _ ?_
 by_cases h44 : v37 = true
 replace H := iY h44 H
 refine wpc_true (bval_yes h44) ?_
 refine sr fun K45 hK46 => ?_
 refine q_as (v := bool false) rfl ?_
 refine nl ?_
 refine hK46 _ _ _ ?_
 refine wpc_ret ?_
 have hI47 := Hp.sub hI41 (sd se)
 cases H
 exact ⟨.inr rfl, rfl, _, ⟨_, _, rfl, rfl, rfl⟩, _, (gT (gT (gT hG18 hG25) hG32) hG39), hI47, rfl⟩
 replace H := iN h44 H
 refine wpc_false (bval_no h44) ?_
 refine wpc_skip ?_
 refine hK13 _ _ _ ?_
 refine sQ fun K48 hK49 => ?_
 refine sr fun K50 hK51 => ?_
 refine q_as (v := int .i64 0) rfl ?_
 refine nl ?_
 refine hK51 _ _ _ ?_
 refine wpc_block ?_
 obtain ⟨o71, hC, H⟩ := bS H
 refine wpc_mono (Q := fun e r ds w => match (generalizing := false) o71 with | (Sum.inl _) => e = .ret ∧ ∃ (G63 : Gh), ds = [] ∧ G38 ≤ G63 ∧ Has [(2, bool false)] r ∧ Hp G63 (bx g9 [int .i64 a1.Before, int .i64 a1.Behind, slice A2 a1.Keep.length c3] 28 :: L) w ∧ True | (Sum.inr _) => e = .exit 0 ∧ ∃ (G67 : Gh), ds = [] ∧ G38 ≤ G67 ∧ Has [] r ∧ Hp G67 (bx g9 [int .i64 a1.Before, int .i64 a1.Behind, slice A2 a1.Keep.length c3] 28 :: L) w ∧ True) ?_ ?_
 clear H
 refine wpc_loop fun I hLp => ?_
 refine formeref08_Valid_l62.partial_correctness a1 (fun v56 o => ∀ (G72 : Gh) (r : Rg) (w : World), G38 ≤ G72 → Has [(1, pointer (some ⟨g9, 0, none⟩)), (3, int .i64 v56)] r → Hp G72 (bx g9 [int .i64 a1.Before, int .i64 a1.Behind, slice A2 a1.Keep.length c3] 28 :: L) w → o = o71 → I r [] w) ?_ 0 _ hC _ _ _ gR ⟨rfl, rfl, trivial⟩ hI41 rfl
 intro _ ih v56 o H G72 r wd74 hG73 hHas hI75 ho
 rw [ho] at H; clear ho
 rw [hHas.eq]; clear hHas
 refine hLp _ _ _ ?_
 refine sQ fun K76 hK77 => ?_
 refine sr fun K78 hK79 => ?_
 refine q_mv (v := int .i64 v56) rfl ?_
 refine q_fa (a' := ⟨g9, 2, none⟩) fl28_2 rfl (add_plain _ _ _) ?_
 refine q_ld hI75 0 (v := slice A2 a1.Keep.length c3) ag26 rfl rfl rfl ?_
 refine q_len so26 rfl ?_
 refine q_lss rfl rfl ?_
 refine nl ?_
 refine hK79 _ _ _ ?_
 by_cases h80 : v56 < (a1.Keep.length : Int)
 replace H := iY h80 H
 refine wpc_true (bool_yes h80) ?_
 refine wpc_skip ?_
 refine hK77 _ _ _ ?_
 refine sQ fun K81 hK82 => ?_
 refine wpc_block ?_
 refine sr fun K83 hK84 => ?_
 refine q_fa (a' := ⟨g9, 2, none⟩) fl28_2 rfl (add_plain _ _ _) ?_
 refine q_ld hI75 0 (v := slice A2 a1.Keep.length c3) ag26 rfl rfl rfl ?_
 refine q_mv (v := int .i64 v56) rfl ?_
 obtain ⟨⟨h85, h85'⟩, H⟩ := iS H
 obtain ⟨ad86, cs87, hA88, hK89, hn90, hc91⟩ := Dat.get (Dat.mono (gT (gT (gT (gT hG18 hG25) hG32) hG39) hG73) hD5) (⟨#[]⟩ : ByteArray) (v56) h85 h85'
 obtain rfl := hK89
 refine q_ia el26 rfl hA88 rfl h85 h85' ?_
 refine q_lf hI75 (v := string (a1.Keep.getD (Int.toNat v56) (⟨#[]⟩ : ByteArray))) ag9 rfl (gR.cel _ _ (hc91 0 _ rfl)) ?_
 refine q_as (v := string (a1.Keep.getD (Int.toNat v56) (⟨#[]⟩ : ByteArray))) rfl ?_
 refine nl ?_
 refine hK84 _ _ _ ?_
 refine sQ fun K92 hK93 => ?_
 refine sr fun K94 hK95 => ?_
 refine q_mv (v := string (a1.Keep.getD (Int.toNat v56) (⟨#[]⟩ : ByteArray))) rfl ?_
 refine q_lens so9 rfl ?_
 refine q_neq rfl rfl ?_
 refine q_mv (v := bool (decide (¬ ((a1.Keep.getD (Int.toNat v56) (⟨#[]⟩ : ByteArray)).size : Int) = 2))) rfl ?_
 obtain ⟨v96, hC, H⟩ := bS H
 refine wpq_split 4 (K := fun e r ds w => e = .normal ∧ ∃ (G97 : Gh), ds = [] ∧ G72 ≤ G97 ∧ Has [(1, pointer (some ⟨g9, 0, none⟩)), (3, int .i64 v56), (4, string (a1.Keep.getD (Int.toNat v56) (⟨#[]⟩ : ByteArray))), (49, bool v96)] r ∧ Hp G97 (bx g9 [int .i64 a1.Before, int .i64 a1.Behind, slice A2 a1.Keep.length c3] 28 :: L) w ∧ True) ?_ ?_
 replace H := hC
 by_cases h102 : ¬ ((a1.Keep.getD (Int.toNat v56) (⟨#[]⟩ : ByteArray)).size : Int) = 2
 replace H := iY h102 H
 refine wN (gN rfl rfl rfl (bool_yes h102) rfl) ?_
 refine wN (gN rfl rfl rfl (bool_yes h102) rfl) ?_
 refine wN (gN rfl rfl rfl (bool_yes h102) rfl) ?_
 refine q_pick true (v := bool true) (bool_yes h102) rfl ?_
 refine nl ?_
 cases H
 exact ⟨rfl, _, rfl, gR, ⟨rfl, rfl, rfl, rfl, trivial⟩, hI75, trivial⟩
 replace H := iN h102 H
 refine q_mv (v := string (a1.Keep.getD (Int.toNat v56) (⟨#[]⟩ : ByteArray))) rfl ?_ (hw := gY rfl rfl rfl (bool_no h102))
 obtain ⟨⟨h103, h103'⟩, H⟩ := iS H
 refine q_is so9 rfl rfl h103 h103' rfl ?_ (hw := gY rfl rfl rfl (bool_no h102))
 refine q_lss rfl rfl ?_ (hw := gY rfl rfl rfl (bool_no h102))
 refine q_pick false (v := bool (decide ((bt (a1.Keep.getD (Int.toNat v56) (⟨#[]⟩ : ByteArray)) 0) < 97))) (bool_no h102) rfl ?_
 refine nl ?_
 cases H
 exact ⟨rfl, _, rfl, gR, ⟨rfl, rfl, rfl, rfl, trivial⟩, hI75, trivial⟩
 clear hC
 rintro e r ds wd99 ⟨rfl, G97, rfl, hG98, hHas, hI100, _⟩
 rw [hHas.eq]; clear hHas
 refine q_mv (v := bool v96) rfl ?_
 obtain ⟨v104, hC, H⟩ := bS H
 refine wpq_split 4 (K := fun e r ds w => e = .normal ∧ ∃ (G105 : Gh), ds = [] ∧ G97 ≤ G105 ∧ Has [(1, pointer (some ⟨g9, 0, none⟩)), (3, int .i64 v56), (4, string (a1.Keep.getD (Int.toNat v56) (⟨#[]⟩ : ByteArray))), (54, bool v104)] r ∧ Hp G105 (bx g9 [int .i64 a1.Before, int .i64 a1.Behind, slice A2 a1.Keep.length c3] 28 :: L) w ∧ True) ?_ ?_
 replace H := hC
 by_cases h110 : v96 = true
 replace H := iY h110 H
 refine wN (gN rfl rfl rfl (bval_yes h110) rfl) ?_
 refine wN (gN rfl rfl rfl (bval_yes h110) rfl) ?_
 refine wN (gN rfl rfl rfl (bval_yes h110) rfl) ?_
 refine q_pick true (v := bool true) (bval_yes h110) rfl ?_
 refine nl ?_
 cases H
 exact ⟨rfl, _, rfl, gR, ⟨rfl, rfl, rfl, rfl, trivial⟩, hI100, trivial⟩
 replace H := iN h110 H
 refine q_mv (v := string (a1.Keep.getD (Int.toNat v56) (⟨#[]⟩ : ByteArray))) rfl ?_ (hw := gY rfl rfl rfl (bval_no h110))
 obtain ⟨⟨h111, h111'⟩, H⟩ := iS H
 refine q_is so9 rfl rfl h111 h111' rfl ?_ (hw := gY rfl rfl rfl (bval_no h110))
 refine q_gtr rfl rfl ?_ (hw := gY rfl rfl rfl (bval_no h110))
 refine q_pick false (v := bool (decide (122 < (bt (a1.Keep.getD (Int.toNat v56) (⟨#[]⟩ : ByteArray)) 0)))) (bval_no h110) rfl ?_
 refine nl ?_
 cases H
 exact ⟨rfl, _, rfl, gR, ⟨rfl, rfl, rfl, rfl, trivial⟩, hI100, trivial⟩
 clear hC
 rintro e r ds wd107 ⟨rfl, G105, rfl, hG106, hHas, hI108, _⟩
 rw [hHas.eq]; clear hHas
 refine q_mv (v := bool v104) rfl ?_
 obtain ⟨v112, hC, H⟩ := bS H
 refine wpq_split 4 (K := fun e r ds w => e = .normal ∧ ∃ (G113 : Gh), ds = [] ∧ G105 ≤ G113 ∧ Has [(1, pointer (some ⟨g9, 0, none⟩)), (3, int .i64 v56), (4, string (a1.Keep.getD (Int.toNat v56) (⟨#[]⟩ : ByteArray))), (59, bool v112)] r ∧ Hp G113 (bx g9 [int .i64 a1.Before, int .i64 a1.Behind, slice A2 a1.Keep.length c3] 28 :: L) w ∧ True) ?_ ?_
 replace H := hC
 by_cases h118 : v104 = true
 replace H := iY h118 H
 refine wN (gN rfl rfl rfl (bval_yes h118) rfl) ?_
 refine wN (gN rfl rfl rfl (bval_yes h118) rfl) ?_
 refine wN (gN rfl rfl rfl (bval_yes h118) rfl) ?_
 refine q_pick true (v := bool true) (bval_yes h118) rfl ?_
 refine nl ?_
 cases H
 exact ⟨rfl, _, rfl, gR, ⟨rfl, rfl, rfl, rfl, trivial⟩, hI108, trivial⟩
 replace H := iN h118 H
 refine q_mv (v := string (a1.Keep.getD (Int.toNat v56) (⟨#[]⟩ : ByteArray))) rfl ?_ (hw := gY rfl rfl rfl (bval_no h118))
 obtain ⟨⟨h119, h119'⟩, H⟩ := iS H
 refine q_is so9 rfl rfl h119 h119' rfl ?_ (hw := gY rfl rfl rfl (bval_no h118))
 refine q_lss rfl rfl ?_ (hw := gY rfl rfl rfl (bval_no h118))
 refine q_pick false (v := bool (decide ((bt (a1.Keep.getD (Int.toNat v56) (⟨#[]⟩ : ByteArray)) 1) < 97))) (bval_no h118) rfl ?_
 refine nl ?_
 cases H
 exact ⟨rfl, _, rfl, gR, ⟨rfl, rfl, rfl, rfl, trivial⟩, hI108, trivial⟩
 clear hC
 rintro e r ds wd115 ⟨rfl, G113, rfl, hG114, hHas, hI116, _⟩
 rw [hHas.eq]; clear hHas
 refine q_mv (v := bool v112) rfl ?_
 obtain ⟨v120, hC, H⟩ := bS H
 refine wpq_split 4 (K := fun e r ds w => e = .normal ∧ ∃ (G121 : Gh), ds = [] ∧ G113 ≤ G121 ∧ Has [(1, pointer (some ⟨g9, 0, none⟩)), (3, int .i64 v56), (4, string (a1.Keep.getD (Int.toNat v56) (⟨#[]⟩ : ByteArray))), (64, bool v120)] r ∧ Hp G121 (bx g9 [int .i64 a1.Before, int .i64 a1.Behind, slice A2 a1.Keep.length c3] 28 :: L) w ∧ True) ?_ ?_
 replace H := hC
 by_cases h126 : v112 = true
 replace H := iY h126 H
 refine wN (gN rfl rfl rfl (bval_yes h126) rfl) ?_
 refine wN (gN rfl rfl rfl (bval_yes h126) rfl) ?_
 refine wN (gN rfl rfl rfl (bval_yes h126) rfl) ?_
 refine q_pick true (v := bool true) (bval_yes h126) rfl ?_
 refine nl ?_
 cases H
 exact ⟨rfl, _, rfl, gR, ⟨rfl, rfl, rfl, rfl, trivial⟩, hI116, trivial⟩
 replace H := iN h126 H
 refine q_mv (v := string (a1.Keep.getD (Int.toNat v56) (⟨#[]⟩ : ByteArray))) rfl ?_ (hw := gY rfl rfl rfl (bval_no h126))
 obtain ⟨⟨h127, h127'⟩, H⟩ := iS H
 refine q_is so9 rfl rfl h127 h127' rfl ?_ (hw := gY rfl rfl rfl (bval_no h126))
 refine q_gtr rfl rfl ?_ (hw := gY rfl rfl rfl (bval_no h126))
 refine q_pick false (v := bool (decide (122 < (bt (a1.Keep.getD (Int.toNat v56) (⟨#[]⟩ : ByteArray)) 1)))) (bval_no h126) rfl ?_
 refine nl ?_
 cases H
 exact ⟨rfl, _, rfl, gR, ⟨rfl, rfl, rfl, rfl, trivial⟩, hI116, trivial⟩
 clear hC
 rintro e r ds wd123 ⟨rfl, G121, rfl, hG122, hHas, hI124, _⟩
 rw [hHas.eq]; clear hHas
 refine nl ?_
 refine hK95 _ _ _ ?_
 by_cases h128 : v120 = true
 replace H := iY h128 H
 refine wpc_true (bval_yes h128) ?_
 refine sr fun K129 hK130 => ?_
 refine q_as (v := bool false) rfl ?_
 refine nl ?_
 refine hK130 _ _ _ ?_
 refine wpc_ret ?_
 cases H
 exact ⟨rfl, _, rfl, (gT (gT (gT (gT hG73 hG98) hG106) hG114) hG122), ⟨rfl, trivial⟩, hI124, trivial⟩
 replace H := iN h128 H
 refine wpc_false (bval_no h128) ?_
 refine wpc_skip ?_
 refine hK93 _ _ _ ?_
 refine sr fun K131 hK132 => ?_
 refine q_as (v := int .i64 0) rfl ?_
 refine nl ?_
 refine hK132 _ _ _ ?_
 refine wpc_block ?_
 obtain ⟨o152, hC, H⟩ := bS H
 refine wpc_mono (Q := fun e r ds w => match (generalizing := false) o152 with | (Sum.inl _) => e = .ret ∧ ∃ (G144 : Gh), ds = [] ∧ G121 ≤ G144 ∧ Has [(2, bool false)] r ∧ Hp G144 (bx g9 [int .i64 a1.Before, int .i64 a1.Behind, slice A2 a1.Keep.length c3] 28 :: L) w ∧ True | (Sum.inr _) => e = .exit 2 ∧ ∃ (G148 : Gh), ds = [] ∧ G121 ≤ G148 ∧ Has [(1, pointer (some ⟨g9, 0, none⟩)), (3, int .i64 v56)] r ∧ Hp G148 (bx g9 [int .i64 a1.Before, int .i64 a1.Behind, slice A2 a1.Keep.length c3] 28 :: L) w ∧ True) ?_ ?_
 clear H
 refine wpc_loop fun I hLp => ?_
 refine formeref08_Valid_l143.partial_correctness a1 v56 (fun v137 o => ∀ (G153 : Gh) (r : Rg) (w : World), G121 ≤ G153 → Has [(1, pointer (some ⟨g9, 0, none⟩)), (3, int .i64 v56), (4, string (a1.Keep.getD (Int.toNat v56) (⟨#[]⟩ : ByteArray))), (5, int .i64 v137)] r → Hp G153 (bx g9 [int .i64 a1.Before, int .i64 a1.Behind, slice A2 a1.Keep.length c3] 28 :: L) w → o = o152 → I r [] w) ?_ 0 _ hC _ _ _ gR ⟨rfl, rfl, rfl, rfl, trivial⟩ hI124 rfl
 intro _ ih v137 o H G153 r wd155 hG154 hHas hI156 ho
 rw [ho] at H; clear ho
 rw [hHas.eq]; clear hHas
 refine hLp _ _ _ ?_
 refine sQ fun K157 hK158 => ?_
 refine sr fun K159 hK160 => ?_
 refine q_mv (v := int .i64 v137) rfl ?_
 refine q_mv (v := int .i64 v56) rfl ?_
 refine q_lss rfl rfl ?_
 refine nl ?_
 refine hK160 _ _ _ ?_
 by_cases h161 : v137 < v56
 replace H := iY h161 H
 refine wpc_true (bool_yes h161) ?_
 refine wpc_skip ?_
 refine hK158 _ _ _ ?_
 refine sQ fun K162 hK163 => ?_
 refine wpc_block ?_
 refine sr fun K164 hK165 => ?_
 refine q_fa (a' := ⟨g9, 2, none⟩) fl28_2 rfl (add_plain _ _ _) ?_
 refine q_ld hI156 0 (v := slice A2 a1.Keep.length c3) ag26 rfl rfl rfl ?_
 refine q_mv (v := int .i64 v137) rfl ?_
 obtain ⟨⟨h166, h166'⟩, H⟩ := iS H
 obtain ⟨ad167, cs168, hA169, hK170, hn171, hc172⟩ := Dat.get (Dat.mono (gT (gT (gT (gT (gT (gT (gT (gT (gT hG18 hG25) hG32) hG39) hG73) hG98) hG106) hG114) hG122) hG154) hD5) (⟨#[]⟩ : ByteArray) (v137) h166 h166'
 obtain rfl := hK170
 refine q_ia el26 rfl hA169 rfl h166 h166' ?_
 refine q_lf hI156 (v := string (a1.Keep.getD (Int.toNat v137) (⟨#[]⟩ : ByteArray))) ag9 rfl (gR.cel _ _ (hc172 0 _ rfl)) ?_
 refine q_mv (v := string (a1.Keep.getD (Int.toNat v56) (⟨#[]⟩ : ByteArray))) rfl ?_
 refine q_str_eql rfl rfl ?_
 refine nl ?_
 refine hK165 _ _ _ ?_
 by_cases h173 : (a1.Keep.getD (Int.toNat v137) (⟨#[]⟩ : ByteArray)) = (a1.Keep.getD (Int.toNat v56) (⟨#[]⟩ : ByteArray))
 replace H := iY h173 H
 refine wpc_true (bool_yes h173) ?_
 refine sr fun K174 hK175 => ?_
 refine q_as (v := bool false) rfl ?_
 refine nl ?_
 refine hK175 _ _ _ ?_
 refine wpc_ret ?_
 cases H
 exact ⟨rfl, _, rfl, hG154, ⟨rfl, trivial⟩, hI156, trivial⟩
 replace H := iN h173 H
 refine wpc_false (bool_no h173) ?_
 refine wpc_skip ?_
 refine hK163 _ _ _ ?_
 refine wpc_region ?_
 refine q_mv (v := int .i64 v137) rfl ?_
 refine q_add rfl rfl ?_
 refine q_as (v := int .i64 (w64 (v137 + 1))) rfl ?_
 refine nl ?_
 exact ih _ _ H _ _ _ hG154 ⟨rfl, rfl, rfl, rfl, trivial⟩ hI156 rfl
 replace H := iN h161 H
 refine wpc_false (bool_no h161) ?_
 refine wpc_exit ?_
 cases H
 exact ⟨rfl, _, rfl, hG154, ⟨rfl, rfl, trivial⟩, hI156, trivial⟩
 clear hC
 rcases o152 with _ | _
 rintro e r ds wd146 ⟨rfl, G144, rfl, hG145, hHas, hI147, _⟩
 rw [hHas.eq]; clear hHas
 cases H
 exact ⟨rfl, _, rfl, (gT (gT (gT (gT (gT hG73 hG98) hG106) hG114) hG122) hG145), ⟨rfl, trivial⟩, hI147, trivial⟩
 rintro e r ds wd150 ⟨rfl, G148, rfl, hG149, hHas, hI151, _⟩
 rw [hHas.eq]; clear hHas
 refine hK82 _ _ _ ?_
 refine wpc_region ?_
 refine q_mv (v := int .i64 v56) rfl ?_
 refine q_add rfl rfl ?_
 refine q_as (v := int .i64 (w64 (v56 + 1))) rfl ?_
 refine nl ?_
 exact ih _ _ H _ _ _ (gT (gT (gT (gT (gT hG73 hG98) hG106) hG114) hG122) hG149) ⟨rfl, rfl, trivial⟩ hI151 rfl
 replace H := iN h80 H
 refine wpc_false (bool_no h80) ?_
 refine wpc_exit ?_
 cases H
 exact ⟨rfl, _, rfl, hG73, trivial, hI75, trivial⟩
 clear hC
 rcases o71 with _ | _
 rintro e r ds wd65 ⟨rfl, G63, rfl, hG64, hHas, hI66, _⟩
 rw [hHas.eq]; clear hHas
 have hI176 := Hp.sub hI66 (sd se)
 cases H
 exact ⟨.inr rfl, rfl, _, ⟨_, _, rfl, rfl, rfl⟩, _, (gT (gT (gT (gT hG18 hG25) hG32) hG39) hG64), hI176, rfl⟩
 rintro e r ds wd69 ⟨rfl, G67, rfl, hG68, hHas, hI70, _⟩
 rw [hHas.eq]; clear hHas
 refine hK49 _ _ _ ?_
 refine sr fun K177 hK178 => ?_
 refine q_as (v := bool true) rfl ?_
 refine nl ?_
 refine hK178 _ _ _ ?_
 refine wpc_ret ?_
 have hI179 := Hp.sub hI70 (sd se)
 cases H
 exact ⟨.inr rfl, rfl, _, ⟨_, _, rfl, rfl, rfl⟩, _, (gT (gT (gT (gT hG18 hG25) hG32) hG39) hG68), hI179, rfl⟩
set_option maxHeartbeats 1000000 in
theorem formelaw17_usable_spec {a1 : api_Font} {a10 : api_Breaks} {a15 : ByteArray} {a16 : Int} {A2 : Option Addr} {c3 : Nat} {A6 : Option Addr} {c7 : Nat} {A11 : Option Addr} {c12 : Nat} {r1096 : Bool} {G : Gh} {L : List Itm} {w : World} (hI : Hp G (L) w) (hl4 : a1.Glyphs.length ≤ c3) (hD5 : Dat k_api_Glyph G A2 a1.Glyphs) (hl8 : a1.Kerns.length ≤ c7) (hD9 : Dat k_api_Kern G A6 a1.Kerns) (hl13 : a10.Keep.length ≤ c12) (hD14 : Dat Kd.str G A11 a10.Keep) (H : formelaw17_usable a1 a10 a15 a16 = some r1096) :
    Calls Tryz.prog 18 [agg [slice A2 a1.Glyphs.length c3, slice A6 a1.Kerns.length c7].toArray, agg [int .i64 a10.Before, int .i64 a10.Behind, slice A11 a10.Keep.length c12].toArray, string a15, int .i64 a16].toArray w fun e w' => ∃ (G' : Gh), G ≤ G' ∧ Hp G' (L) w' ∧ e = .returned (bool r1096) := by
 refine calls_intro (N := 38) Tryz.func18 rfl rfl (Nat.le_of_ble_eq_true rfl) ?_
 unfold formelaw17_usable at H
 refine sr fun K17 hK18 => ?_
 refine q_box hI (v := agg [slice A2 a1.Glyphs.length c3, slice A6 a1.Kerns.length c7].toArray) (vs := [slice A2 a1.Glyphs.length c3, slice A6 a1.Kerns.length c7]) rfl rfl (fun g20 wd21 hI22 => ?_)
 refine q_box hI22 (v := agg [int .i64 a10.Before, int .i64 a10.Behind, slice A11 a10.Keep.length c12].toArray) (vs := [int .i64 a10.Before, int .i64 a10.Behind, slice A11 a10.Keep.length c12]) rfl rfl (fun g24 wd25 hI26 => ?_)
 refine q_as (v := bool false) rfl ?_
 refine nl ?_
 refine hK18 _ _ _ ?_
 refine sr fun K27 hK28 => ?_
 refine q_ldA hI26 1 (cs := [slice A2 a1.Glyphs.length c3, slice A6 a1.Kerns.length c7]) ag25 rfl rfl rfl rfl ?_
 refine q_ldA hI26 0 (cs := [int .i64 a10.Before, int .i64 a10.Behind, slice A11 a10.Keep.length c12]) ag28 rfl rfl rfl rfl ?_
 refine q_mv (v := string a15) rfl ?_
 obtain ⟨y34, hy29, H⟩ := bS H
 refine q_cv (vs := [agg [slice A2 a1.Glyphs.length c3, slice A6 a1.Kerns.length c7].toArray, agg [int .i64 a10.Before, int .i64 a10.Behind, slice A11 a10.Keep.length c12].toArray, string a15]) bo10 rfl rfl (formelaw17_few_spec (a1 := a1) (a10 := a10) (a15 := a15) hI26 hl4 hD5 hl8 hD9 hl13 hD14 hy29) ?_
 rintro _ wd32 ⟨G30, hG31, hI33, rfl⟩
 refine ⟨_, rfl, ?_⟩
 refine q_mv (v := bool y34) rfl ?_
 obtain ⟨v35, hC, H⟩ := bS H
 refine wpq_split 4 (K := fun e r ds w => e = .normal ∧ ∃ (G36 : Gh), ds = [] ∧ G30 ≤ G36 ∧ Has [(2, string a15), (3, int .i64 a16), (4, pointer (some ⟨g20, 0, none⟩)), (5, pointer (some ⟨g24, 0, none⟩)), (17, bool v35)] r ∧ Hp G36 (bx g24 [int .i64 a10.Before, int .i64 a10.Behind, slice A11 a10.Keep.length c12] 28 :: bx g20 [slice A2 a1.Glyphs.length c3, slice A6 a1.Kerns.length c7] 25 :: L) w ∧ True) ?_ ?_
 replace H := hC
 by_cases h41 : y34 = true
 replace H := iY h41 H
 refine q_mv (v := string a15) rfl ?_ (hw := gY rfl rfl rfl (bval_yes h41))
 refine q_lens so9 rfl ?_ (hw := gY rfl rfl rfl (bval_yes h41))
 refine q_leq rfl rfl ?_ (hw := gY rfl rfl rfl (bval_yes h41))
 refine q_pick true (v := bool (decide ((a15.size : Int) ≤ 60))) (bval_yes h41) rfl ?_
 refine nl ?_
 cases H
 exact ⟨rfl, _, rfl, gR, ⟨rfl, rfl, rfl, rfl, rfl, trivial⟩, hI33, trivial⟩
 replace H := iN h41 H
 refine wN (gN rfl rfl rfl (bval_no h41) rfl) ?_
 refine wN (gN rfl rfl rfl (bval_no h41) rfl) ?_
 refine wN (gN rfl rfl rfl (bval_no h41) rfl) ?_
 refine q_pick false (v := bool false) (bval_no h41) rfl ?_
 refine nl ?_
 cases H
 exact ⟨rfl, _, rfl, gR, ⟨rfl, rfl, rfl, rfl, rfl, trivial⟩, hI33, trivial⟩
 clear hC
 rintro e r ds wd38 ⟨rfl, G36, rfl, hG37, hHas, hI39, _⟩
 rw [hHas.eq]; clear hHas
 refine q_mv (v := bool v35) rfl ?_
 obtain ⟨v42, hC, H⟩ := bS H
 refine wpq_split 3 (K := fun e r ds w => e = .normal ∧ ∃ (G43 : Gh), ds = [] ∧ G36 ≤ G43 ∧ Has [(2, string a15), (3, int .i64 a16), (5, pointer (some ⟨g24, 0, none⟩)), (21, bool v42)] r ∧ Hp G43 (bx g24 [int .i64 a10.Before, int .i64 a10.Behind, slice A11 a10.Keep.length c12] 28 :: bx g20 [slice A2 a1.Glyphs.length c3, slice A6 a1.Kerns.length c7] 25 :: L) w ∧ True) ?_ ?_
 replace H := hC
 by_cases h48 : v35 = true
 replace H := iY h48 H
 refine q_ldA hI39 1 (cs := [slice A2 a1.Glyphs.length c3, slice A6 a1.Kerns.length c7]) ag25 rfl rfl rfl rfl ?_ (hw := gY rfl rfl rfl (bval_yes h48))
 obtain ⟨y54, hy49, H⟩ := bS H
 refine q_cv (vs := [agg [slice A2 a1.Glyphs.length c3, slice A6 a1.Kerns.length c7].toArray]) bo40 rfl rfl (formeref07_Valid_spec (a1 := a1) hI39 hl4 (Dat.mono (gT hG31 hG37) hD5) hl8 (Dat.mono (gT hG31 hG37) hD9) hy49) ?_ (hw := gY rfl rfl rfl (bval_yes h48))
 rintro _ wd52 ⟨G50, hG51, hI53, rfl⟩
 refine ⟨_, rfl, ?_⟩
 refine q_pick true (v := bool y54) (bval_yes h48) rfl ?_
 refine nl ?_
 cases H
 exact ⟨rfl, _, rfl, hG51, ⟨rfl, rfl, rfl, rfl, trivial⟩, hI53, trivial⟩
 replace H := iN h48 H
 refine wN (gN rfl rfl rfl (bval_no h48) rfl) ?_
 refine wN (gN rfl rfl rfl (bval_no h48) rfl) ?_
 refine q_pick false (v := bool false) (bval_no h48) rfl ?_
 refine nl ?_
 cases H
 exact ⟨rfl, _, rfl, gR, ⟨rfl, rfl, rfl, rfl, trivial⟩, hI39, trivial⟩
 clear hC
 rintro e r ds wd45 ⟨rfl, G43, rfl, hG44, hHas, hI46, _⟩
 rw [hHas.eq]; clear hHas
 refine q_mv (v := bool v42) rfl ?_
 obtain ⟨v55, hC, H⟩ := bS H
 refine wpq_split 3 (K := fun e r ds w => e = .normal ∧ ∃ (G56 : Gh), ds = [] ∧ G43 ≤ G56 ∧ Has [(2, string a15), (3, int .i64 a16), (25, bool v55)] r ∧ Hp G56 (bx g24 [int .i64 a10.Before, int .i64 a10.Behind, slice A11 a10.Keep.length c12] 28 :: bx g20 [slice A2 a1.Glyphs.length c3, slice A6 a1.Kerns.length c7] 25 :: L) w ∧ True) ?_ ?_
 replace H := hC
 by_cases h61 : v42 = true
 replace H := iY h61 H
 refine q_ldA hI46 0 (cs := [int .i64 a10.Before, int .i64 a10.Behind, slice A11 a10.Keep.length c12]) ag28 rfl rfl rfl rfl ?_ (hw := gY rfl rfl rfl (bval_yes h61))
 obtain ⟨y67, hy62, H⟩ := bS H
 refine q_cv (vs := [agg [int .i64 a10.Before, int .i64 a10.Behind, slice A11 a10.Keep.length c12].toArray]) bo46 rfl rfl (formeref08_Valid_spec (a1 := a10) hI46 hl13 (Dat.mono (gT (gT hG31 hG37) hG44) hD14) hy62) ?_ (hw := gY rfl rfl rfl (bval_yes h61))
 rintro _ wd65 ⟨G63, hG64, hI66, rfl⟩
 refine ⟨_, rfl, ?_⟩
 refine q_pick true (v := bool y67) (bval_yes h61) rfl ?_
 refine nl ?_
 cases H
 exact ⟨rfl, _, rfl, hG64, ⟨rfl, rfl, rfl, trivial⟩, hI66, trivial⟩
 replace H := iN h61 H
 refine wN (gN rfl rfl rfl (bval_no h61) rfl) ?_
 refine wN (gN rfl rfl rfl (bval_no h61) rfl) ?_
 refine q_pick false (v := bool false) (bval_no h61) rfl ?_
 refine nl ?_
 cases H
 exact ⟨rfl, _, rfl, gR, ⟨rfl, rfl, rfl, trivial⟩, hI46, trivial⟩
 clear hC
 rintro e r ds wd58 ⟨rfl, G56, rfl, hG57, hHas, hI59, _⟩
 rw [hHas.eq]; clear hHas
 refine q_mv (v := bool v55) rfl ?_
 obtain ⟨v68, hC, H⟩ := bS H
 refine wpq_split 3 (K := fun e r ds w => e = .normal ∧ ∃ (G69 : Gh), ds = [] ∧ G56 ≤ G69 ∧ Has [(3, int .i64 a16), (29, bool v68)] r ∧ Hp G69 (bx g24 [int .i64 a10.Before, int .i64 a10.Behind, slice A11 a10.Keep.length c12] 28 :: bx g20 [slice A2 a1.Glyphs.length c3, slice A6 a1.Kerns.length c7] 25 :: L) w ∧ True) ?_ ?_
 replace H := hC
 by_cases h74 : v55 = true
 replace H := iY h74 H
 refine q_mv (v := string a15) rfl ?_ (hw := gY rfl rfl rfl (bval_yes h74))
 obtain ⟨y80, hy75, H⟩ := bS H
 refine q_cv (vs := [string a15]) bo41 rfl rfl (formeref06_Valid_spec (a1 := a15) hI59 hy75) ?_ (hw := gY rfl rfl rfl (bval_yes h74))
 rintro _ wd78 ⟨G76, hG77, hI79, rfl⟩
 refine ⟨_, rfl, ?_⟩
 refine q_pick true (v := bool y80) (bval_yes h74) rfl ?_
 refine nl ?_
 cases H
 exact ⟨rfl, _, rfl, hG77, ⟨rfl, rfl, trivial⟩, hI79, trivial⟩
 replace H := iN h74 H
 refine wN (gN rfl rfl rfl (bval_no h74) rfl) ?_
 refine wN (gN rfl rfl rfl (bval_no h74) rfl) ?_
 refine q_pick false (v := bool false) (bval_no h74) rfl ?_
 refine nl ?_
 cases H
 exact ⟨rfl, _, rfl, gR, ⟨rfl, rfl, trivial⟩, hI59, trivial⟩
 clear hC
 rintro e r ds wd71 ⟨rfl, G69, rfl, hG70, hHas, hI72, _⟩
 rw [hHas.eq]; clear hHas
 refine q_mv (v := bool v68) rfl ?_
 obtain ⟨v81, hC, H⟩ := bS H
 refine wpq_split 3 (K := fun e r ds w => e = .normal ∧ ∃ (G82 : Gh), ds = [] ∧ G69 ≤ G82 ∧ Has [(3, int .i64 a16), (33, bool v81)] r ∧ Hp G82 (bx g24 [int .i64 a10.Before, int .i64 a10.Behind, slice A11 a10.Keep.length c12] 28 :: bx g20 [slice A2 a1.Glyphs.length c3, slice A6 a1.Kerns.length c7] 25 :: L) w ∧ True) ?_ ?_
 replace H := hC
 by_cases h87 : v68 = true
 replace H := iY h87 H
 refine q_mv (v := int .i64 a16) rfl ?_ (hw := gY rfl rfl rfl (bval_yes h87))
 refine q_geq rfl rfl ?_ (hw := gY rfl rfl rfl (bval_yes h87))
 refine q_pick true (v := bool (decide (50 ≤ a16))) (bval_yes h87) rfl ?_
 refine nl ?_
 cases H
 exact ⟨rfl, _, rfl, gR, ⟨rfl, rfl, trivial⟩, hI72, trivial⟩
 replace H := iN h87 H
 refine wN (gN rfl rfl rfl (bval_no h87) rfl) ?_
 refine wN (gN rfl rfl rfl (bval_no h87) rfl) ?_
 refine q_pick false (v := bool false) (bval_no h87) rfl ?_
 refine nl ?_
 cases H
 exact ⟨rfl, _, rfl, gR, ⟨rfl, rfl, trivial⟩, hI72, trivial⟩
 clear hC
 rintro e r ds wd84 ⟨rfl, G82, rfl, hG83, hHas, hI85, _⟩
 rw [hHas.eq]; clear hHas
 refine q_mv (v := bool v81) rfl ?_
 obtain ⟨v88, hC, H⟩ := bS H
 refine wpq_split 3 (K := fun e r ds w => e = .normal ∧ ∃ (G89 : Gh), ds = [] ∧ G82 ≤ G89 ∧ Has [(37, bool v88)] r ∧ Hp G89 (bx g24 [int .i64 a10.Before, int .i64 a10.Behind, slice A11 a10.Keep.length c12] 28 :: bx g20 [slice A2 a1.Glyphs.length c3, slice A6 a1.Kerns.length c7] 25 :: L) w ∧ True) ?_ ?_
 replace H := hC
 by_cases h94 : v81 = true
 replace H := iY h94 H
 refine q_mv (v := int .i64 a16) rfl ?_ (hw := gY rfl rfl rfl (bval_yes h94))
 refine q_leq rfl rfl ?_ (hw := gY rfl rfl rfl (bval_yes h94))
 refine q_pick true (v := bool (decide (a16 ≤ 300))) (bval_yes h94) rfl ?_
 refine nl ?_
 cases H
 exact ⟨rfl, _, rfl, gR, ⟨rfl, trivial⟩, hI85, trivial⟩
 replace H := iN h94 H
 refine wN (gN rfl rfl rfl (bval_no h94) rfl) ?_
 refine wN (gN rfl rfl rfl (bval_no h94) rfl) ?_
 refine q_pick false (v := bool false) (bval_no h94) rfl ?_
 refine nl ?_
 cases H
 exact ⟨rfl, _, rfl, gR, ⟨rfl, trivial⟩, hI85, trivial⟩
 clear hC
 rintro e r ds wd91 ⟨rfl, G89, rfl, hG90, hHas, hI92, _⟩
 rw [hHas.eq]; clear hHas
 refine q_as (v := bool v88) rfl ?_
 refine nl ?_
 refine hK28 _ _ _ ?_
 refine wpc_ret ?_
 have hI95 := Hp.sub hI92 (sd (sd se))
 cases H
 exact ⟨.inr rfl, rfl, _, ⟨_, _, rfl, rfl, rfl⟩, _, (gT (gT (gT (gT (gT (gT hG31 hG37) hG44) hG57) hG70) hG83) hG90), hI95, rfl⟩
end Go.Proofs.YtokeiiakkfdmgaaGreatDoor.LG
