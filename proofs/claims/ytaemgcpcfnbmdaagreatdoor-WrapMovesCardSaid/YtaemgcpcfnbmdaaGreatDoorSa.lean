/-
  The walks: each function computes its plain function: printed by a program out of the translation.
-/
import Derived.Test.YtaemgcpcfnbmdaaGreatDoorTy
import Derived.Test.YtaemgcpcfnbmdaaGreatDoorLa
set_option linter.unusedVariables false
set_option linter.unusedSimpArgs false
set_option maxRecDepth 100000
namespace Go.Proofs.YtaemgcpcfnbmdaaGreatDoor.LG
open Go Go.LG Go.RowKit Go.Value
set_option maxHeartbeats 1000000
open Go.Lib Go.Shelf Go.Proofs
theorem formeref21_Same_spec {a1 a6 A2 c3 A7 c8 r1011 G L w} (H : formeref21_Same a1 a6 = some r1011) (hI : Hp G L w) (hl4 : a1.length ≤ c3) (hD5 : Dat k_api_Seen G A2 a1) (hl9 : a6.length ≤ c8) (hD10 : Dat k_api_Seen G A7 a6) :
    Calls Tryz.prog 14 [slice A2 a1.length c3, slice A7 a6.length c8].toArray w fun e w' => Hp G L w' ∧ e = .returned (bool r1011) := by
 refine calls_intro (N := 26) Tryz.func14 z z (Nat.le_of_ble_eq_true z)<|?_
 unfold formeref21_Same at H
 refine sr fun K11 hK12=>asn z<|nl<|hK12 _ _ _<|sQ fun K13 hK14=>sr fun K15 hK16=>mv z<|q_len so34 z<|mv z<|q_len so34 z<|q_neq z z<|nl<|hK16 _ _ _<|dC (¬ (a1.length : Int) = (a6.length : Int)) (fun h17=>?_) fun h17=>?_
 refine yK h17 H fun H=>wt (bY h17)<|sr fun K18 hK19=>asn z<|nl<|hK19 _ _ _<|wr<|?_
 cases H
 exact rt ⟨_, _, z, z, z⟩ hI
 refine nK h17 H fun H=>wf (bN h17)<|ws<|hK14 _ _ _<|sQ fun K20 hK21=>sr fun K22 hK23=>asn z<|nl<|hK23 _ _ _<|wb<|bK H fun o43 hC H=>wpc_mono (Q := fun e r ds w => match (generalizing := false) o43 with | (Sum.inl _) => e = .ret ∧ ds = [] ∧ Has [(4, bool false)] r ∧ Hp G (L) w ∧ True | (Sum.inr _) => e = .exit 0 ∧ ds = [] ∧ Has [] r ∧ Hp G (L) w ∧ True) ?_ ?_
 refine wpc_loop fun I hLp=>?_
 refine formeref21_Same_l34.partial_correctness a1 a6 (fun v28 o => ∀ (r : Rg) (w : World), Has [(0, slice A2 a1.length c3), (1, slice A7 a6.length c8), (5, int .i64 v28)] r → Hp G (L) w → o = o43 → I r [] w) ?_ 0 _ hC _ _ ⟨rfl, rfl, rfl, tv⟩ hI rfl
 intro _ ih v28 o H r wd46 hHas hI47 ho
 rw [ho] at H; clear ho
 rw [hHas.eq]; clear hHas
 refine hLp _ _ _<|sQ fun K48 hK49=>sr fun K50 hK51=>mv z<|mv z<|q_len so34 z<|q_lss z z<|nl<|hK51 _ _ _<|dC (v28 < (a1.length : Int)) (fun h52=>?_) fun h52=>?_
 refine yK h52 H fun H=>wt (bY h52)<|ws<|hK49 _ _ _<|sQ fun K53 hK54=>wb<|sQ fun K55 hK56=>?_
 refine wpc_quiet mixo (by kernel_rfl) ?_
 refine have hI57:=hI47.drew;wq (mv z wqd) z<|wq (mv z wqd) z<|iK H fun⟨h58, h58'⟩H=>?_
 obtain ⟨ad59, cs60, hA61, hK62, hn63, hc64⟩ := Dat.get hD5 z_api_Seen (v28) h58 h58'
 obtain ⟨rfl⟩ := open_api_Seen hK62
 refine wq (q_ia el34 z hA61 z h58 h58' wqd) z<|wq (q_lfA hI57 ag50 z (cs := [string ((a1.getD (Int.toNat v28) z_api_Seen).Text), int .i64 ((a1.getD (Int.toNat v28) z_api_Seen).X), int .i64 ((a1.getD (Int.toNat v28) z_api_Seen).Y), int .i64 ((a1.getD (Int.toNat v28) z_api_Seen).W), int .i64 ((a1.getD (Int.toNat v28) z_api_Seen).H)]) z (fun j v hv => gR.cel _ _ (hc64 j v hv)) wqd) z<|wq (mv z wqd) z<|wq (mv z wqd) z<|iK H fun⟨h65, h65'⟩H=>?_
 obtain ⟨ad66, cs67, hA68, hK69, hn70, hc71⟩ := Dat.get hD10 z_api_Seen (v28) h65 h65'
 obtain ⟨rfl⟩ := open_api_Seen hK69
 refine wq (q_ia el34 z hA68 z h65 h65' wqd) z<|wq (q_lfA hI57 ag50 z (cs := [string ((a6.getD (Int.toNat v28) z_api_Seen).Text), int .i64 ((a6.getD (Int.toNat v28) z_api_Seen).X), int .i64 ((a6.getD (Int.toNat v28) z_api_Seen).Y), int .i64 ((a6.getD (Int.toNat v28) z_api_Seen).W), int .i64 ((a6.getD (Int.toNat v28) z_api_Seen).H)]) z (fun j v hv => gR.cel _ _ (hc71 j v hv)) wqd) z<|wq (q_st_neq (q := (a1.getD (Int.toNat v28) z_api_Seen) = (a6.getD (Int.toNat v28) z_api_Seen)) z z eqg_api_Seen (eqs_api_Seen (a1.getD (Int.toNat v28) z_api_Seen) (a6.getD (Int.toNat v28) z_api_Seen)) (eqd_api_Seen _ _) wqd) z<|wqq_nil<|hK56 _ _ _<|dC (¬ (a1.getD (Int.toNat v28) z_api_Seen) = (a6.getD (Int.toNat v28) z_api_Seen)) (fun h72=>?_) fun h72=>?_
 refine yK h72 H fun H=>wt (bY h72)<|sr fun K73 hK74=>asn z<|nl<|hK74 _ _ _<|wr<|?_
 cases H
 exact ⟨z, z, ⟨z, tv⟩, hI57, tv⟩
 exact nK h72 H fun H=>wf (bN h72)<|ws<|hK54 _ _ _<|wpc_region<|mv z<|q_add z z<|asn z<|nl<|ih _ _ H _ _ ⟨z, z, z, tv⟩ hI57 z
 refine nK h52 H fun H=>wf (bN h52)<|wx<|?_
 cases H
 exact ⟨z, z, trivial, hI47, tv⟩
 rcases o43 with _ | _
 rintro e r ds wd37 ⟨rfl, rfl, hHas, hI38, _⟩
 rw [hHas.eq]; clear hHas
 cases H
 exact rt ⟨_, _, z, z, z⟩ hI38
 rintro e r ds wd41 ⟨rfl, rfl, hHas, hI42, _⟩
 rw [hHas.eq]; clear hHas
 refine hK21 _ _ _<|sr fun K75 hK76=>asn z<|nl<|hK76 _ _ _<|wr<|?_
 cases H
 exact rt ⟨_, _, z, z, z⟩ hI42
theorem cmp_isNaN_int_spec {a1 r1002 G L w} (H : cmp_isNaN_int a1 = some r1002) (hI : Hp G L w) :
    Calls Tryz.prog 95 [int .i64 a1].toArray w fun e w' => Hp G L w' ∧ e = .returned (bool r1002) := by
 refine calls_intro (N := 6) Tryz.func95 z z (Nat.le_of_ble_eq_true z)<|?_
 unfold cmp_isNaN_int at H
 refine sr fun K2 hK3=>asn z<|nl<|hK3 _ _ _<|sr fun K4 hK5=>mv z<|mv z<|q_neq z z<|asn z<|nl<|hK5 _ _ _<|wr<|?_
 cases H
 exact rt ⟨_, _, z, z, z⟩ hI
theorem cmp_Compare_int_spec {a1 a2 r1003 G L w} (H : cmp_Compare_int a1 a2 = some r1003) (hI : Hp G L w) :
    Calls Tryz.prog 64 [int .i64 a1, int .i64 a2].toArray w fun e w' => Hp G L w' ∧ e = .returned (int .i64 r1003) := by
 refine calls_intro (N := 20) Tryz.func64 z z (Nat.le_of_ble_eq_true z)<|?_
 unfold cmp_Compare_int at H
 refine sr fun K3 hK4=>asn z<|nl<|hK4 _ _ _<|sr fun K5 hK6=>mv z<|bK H fun y12 hy7 H=>cv bo95 (cmp_isNaN_int_spec hy7 hI) z z fun wd10 hI11=>asn z<|nl<|hK6 _ _ _<|sr fun K13 hK14=>mv z<|bK H fun y20 hy15 H=>?_
 refine cv bo95 (cmp_isNaN_int_spec hy15 hI11) z z fun wd18 hI19=>asn z<|nl<|hK14 _ _ _<|sQ fun K21 hK22=>sr fun K23 hK24=>mv z<|nl<|hK24 _ _ _<|dC (y12 = true) (fun h25=>?_) fun h25=>?_
 refine yK h25 H fun H=>wt (vY h25)<|sQ fun K26 hK27=>sr fun K28 hK29=>mv z<|nl<|hK29 _ _ _<|dC (y20 = true) (fun h30=>?_) fun h30=>?_
 refine yK h30 H fun H=>wt (vY h30)<|sr fun K31 hK32=>asn z<|nl<|hK32 _ _ _<|wr<|?_
 cases H
 exact rt ⟨_, _, z, z, z⟩ hI19
 refine nK h30 H fun H=>wf (vN h30)<|ws<|hK27 _ _ _<|sr fun K33 hK34=>asn z<|nl<|hK34 _ _ _<|wr<|?_
 cases H
 exact rt ⟨_, _, z, z, z⟩ hI19
 refine nK h25 H fun H=>wf (vN h25)<|ws<|hK22 _ _ _<|sQ fun K35 hK36=>sr fun K37 hK38=>mv z<|nl<|hK38 _ _ _<|dC (y20 = true) (fun h39=>?_) fun h39=>?_
 refine yK h39 H fun H=>wt (vY h39)<|sr fun K40 hK41=>asn z<|nl<|hK41 _ _ _<|wr<|?_
 cases H
 exact rt ⟨_, _, z, z, z⟩ hI19
 refine nK h39 H fun H=>wf (vN h39)<|ws<|hK36 _ _ _<|sQ fun K42 hK43=>sr fun K44 hK45=>mv z<|mv z<|q_lss z z<|nl<|hK45 _ _ _<|dC (a1 < a2) (fun h46=>?_) fun h46=>?_
 refine yK h46 H fun H=>wt (bY h46)<|sr fun K47 hK48=>asn z<|nl<|hK48 _ _ _<|wr<|?_
 cases H
 exact rt ⟨_, _, z, z, z⟩ hI19
 refine nK h46 H fun H=>wf (bN h46)<|ws<|hK43 _ _ _<|sQ fun K49 hK50=>sr fun K51 hK52=>mv z<|mv z<|q_gtr z z<|nl<|hK52 _ _ _<|dC (a2 < a1) (fun h53=>?_) fun h53=>?_
 refine yK h53 H fun H=>wt (bY h53)<|sr fun K54 hK55=>asn z<|nl<|hK55 _ _ _<|wr<|?_
 cases H
 exact rt ⟨_, _, z, z, z⟩ hI19
 refine nK h53 H fun H=>wf (bN h53)<|ws<|hK50 _ _ _<|sr fun K56 hK57=>asn z<|nl<|hK57 _ _ _<|wr<|?_
 cases H
 exact rt ⟨_, _, z, z, z⟩ hI19
theorem inline_within_int_spec {a1 a2 a3 r1004 G L w} (H : inline_within_int a1 a2 a3 = some r1004) (hI : Hp G L w) :
    Calls Tryz.prog 33 [int .i64 a1, int .i64 a2, int .i64 a3].toArray w fun e w' => Hp G L w' ∧ e = .returned (bool r1004) := by
 refine calls_intro (N := 17) Tryz.func33 z z (Nat.le_of_ble_eq_true z)<|?_
 unfold inline_within_int at H
 refine sr fun K4 hK5=>asn z<|nl<|hK5 _ _ _<|sr fun K6 hK7=>mv z<|mv z<|bK H fun y13 hy8 H=>cv bo64 (cmp_Compare_int_spec hy8 hI) z z fun wd11 hI12=>q_geq z z<|mv z<|bK H fun v14 hC H=>js 5 hI12 [(16, bool v14)] ?_ fun _ wd17 hI18=>?_
 refine have H:=hC;dC (0 ≤ y13) (fun h20=>?_) fun h20=>?_
 refine yK h20 H fun H=>mv (hw:=gY z z z (bY h20)) z<|mv (hw:=gY z z z (bY h20)) z<|bK H fun y26 hy21 H=>cv (hw:=gY z z z (bY h20)) bo64 (cmp_Compare_int_spec hy21 hI12) z z fun wd24 hI25=>q_leq (hw:=gY z z z (bY h20)) z z<|pkt (bY h20) z<|nl<|?_
 cases H
 exact je ⟨z, tv⟩ hI25
 refine nK h20 H fun H=>Sk 4 z z (bN h20) z<|pkf (bN h20) z<|nl<|?_
 cases H
 exact je ⟨z, tv⟩ hI12
 refine asn z<|nl<|hK7 _ _ _<|wr<|?_
 cases H
 exact rt ⟨_, _, z, z, z⟩ hI18
theorem inline_Lines_1_spec {a1 r1002 G L w} (H : inline_Lines_1 a1 = some r1002) (hI : Hp G L w) :
    Calls Tryz.prog 32 [int .i64 a1].toArray w fun e w' => Hp G L w' ∧ e = .returned (bool r1002) := by
 refine calls_intro (N := 6) Tryz.func32 z z (Nat.le_of_ble_eq_true z)<|?_
 unfold inline_Lines_1 at H
 refine sr fun K2 hK3=>asn z<|nl<|hK3 _ _ _<|sr fun K4 hK5=>mv z<|bK H fun y11 hy6 H=>cv bo33 (inline_within_int_spec hy6 hI) z z fun wd9 hI10=>q_not z<|asn z<|nl<|hK5 _ _ _<|wr<|?_
 cases H
 exact rt ⟨_, _, z, z, z⟩ hI10
theorem cmp_isNaN_byte_spec {a1 r1002 G L w} (H : cmp_isNaN_byte a1 = some r1002) (hI : Hp G L w) :
    Calls Tryz.prog 134 [int .u8 a1].toArray w fun e w' => Hp G L w' ∧ e = .returned (bool r1002) := by
 refine calls_intro (N := 6) Tryz.func134 z z (Nat.le_of_ble_eq_true z)<|?_
 unfold cmp_isNaN_byte at H
 refine sr fun K2 hK3=>asn z<|nl<|hK3 _ _ _<|sr fun K4 hK5=>mv z<|mv z<|q_neq z z<|asn z<|nl<|hK5 _ _ _<|wr<|?_
 cases H
 exact rt ⟨_, _, z, z, z⟩ hI
theorem cmp_Compare_byte_spec {a1 a2 r1003 G L w} (H : cmp_Compare_byte a1 a2 = some r1003) (hI : Hp G L w) :
    Calls Tryz.prog 104 [int .u8 a1, int .u8 a2].toArray w fun e w' => Hp G L w' ∧ e = .returned (int .i64 r1003) := by
 refine calls_intro (N := 20) Tryz.func104 z z (Nat.le_of_ble_eq_true z)<|?_
 unfold cmp_Compare_byte at H
 refine sr fun K3 hK4=>asn z<|nl<|hK4 _ _ _<|sr fun K5 hK6=>mv z<|bK H fun y12 hy7 H=>cv bo134 (cmp_isNaN_byte_spec hy7 hI) z z fun wd10 hI11=>asn z<|nl<|hK6 _ _ _<|sr fun K13 hK14=>mv z<|bK H fun y20 hy15 H=>?_
 refine cv bo134 (cmp_isNaN_byte_spec hy15 hI11) z z fun wd18 hI19=>asn z<|nl<|hK14 _ _ _<|sQ fun K21 hK22=>sr fun K23 hK24=>mv z<|nl<|hK24 _ _ _<|dC (y12 = true) (fun h25=>?_) fun h25=>?_
 refine yK h25 H fun H=>wt (vY h25)<|sQ fun K26 hK27=>sr fun K28 hK29=>mv z<|nl<|hK29 _ _ _<|dC (y20 = true) (fun h30=>?_) fun h30=>?_
 refine yK h30 H fun H=>wt (vY h30)<|sr fun K31 hK32=>asn z<|nl<|hK32 _ _ _<|wr<|?_
 cases H
 exact rt ⟨_, _, z, z, z⟩ hI19
 refine nK h30 H fun H=>wf (vN h30)<|ws<|hK27 _ _ _<|sr fun K33 hK34=>asn z<|nl<|hK34 _ _ _<|wr<|?_
 cases H
 exact rt ⟨_, _, z, z, z⟩ hI19
 refine nK h25 H fun H=>wf (vN h25)<|ws<|hK22 _ _ _<|sQ fun K35 hK36=>sr fun K37 hK38=>mv z<|nl<|hK38 _ _ _<|dC (y20 = true) (fun h39=>?_) fun h39=>?_
 refine yK h39 H fun H=>wt (vY h39)<|sr fun K40 hK41=>asn z<|nl<|hK41 _ _ _<|wr<|?_
 cases H
 exact rt ⟨_, _, z, z, z⟩ hI19
 refine nK h39 H fun H=>wf (vN h39)<|ws<|hK36 _ _ _<|sQ fun K42 hK43=>sr fun K44 hK45=>mv z<|mv z<|q_lss z z<|nl<|hK45 _ _ _<|dC (a1 < a2) (fun h46=>?_) fun h46=>?_
 refine yK h46 H fun H=>wt (bY h46)<|sr fun K47 hK48=>asn z<|nl<|hK48 _ _ _<|wr<|?_
 cases H
 exact rt ⟨_, _, z, z, z⟩ hI19
 refine nK h46 H fun H=>wf (bN h46)<|ws<|hK43 _ _ _<|sQ fun K49 hK50=>sr fun K51 hK52=>mv z<|mv z<|q_gtr z z<|nl<|hK52 _ _ _<|dC (a2 < a1) (fun h53=>?_) fun h53=>?_
 refine yK h53 H fun H=>wt (bY h53)<|sr fun K54 hK55=>asn z<|nl<|hK55 _ _ _<|wr<|?_
 cases H
 exact rt ⟨_, _, z, z, z⟩ hI19
 refine nK h53 H fun H=>wf (bN h53)<|ws<|hK50 _ _ _<|sr fun K56 hK57=>asn z<|nl<|hK57 _ _ _<|wr<|?_
 cases H
 exact rt ⟨_, _, z, z, z⟩ hI19
theorem font_glyph_1_spec {a1 a2 r1003 G L w} (H : font_glyph_1 a1 a2 = some r1003) (hI : Hp G L w) :
    Calls Tryz.prog 103 [agg [int .u8 a1.Byte, int .i64 a1.Advance].toArray, int .u8 a2].toArray w fun e w' => Hp G L w' ∧ e = .returned (int .i64 r1003) := by
 refine calls_intro (N := 9) Tryz.func103 z z (Nat.le_of_ble_eq_true z)<|?_
 unfold font_glyph_1 at H
 refine sr fun K3 hK4=>bxk hI z z fun g6 wd7 hI8=>asn z<|nl<|hK4 _ _ _<|sr fun K9 hK10=>fa fl103_0 z<|ld hI8 0 ag5 z z z<|mv z<|bK H fun y16 hy11 H=>cv bo104 (cmp_Compare_byte_spec hy11 hI8) z z fun wd14 hI15=>asn z<|nl<|hK10 _ _ _<|?_
 refine wr<|have hI17:=Hp.pick 1 [] hI15 z;?_
 cases H
 exact rt ⟨_, _, z, z, z⟩ hI17
theorem slices_BinarySearchFunc_byte_k1_spec {a1 a6 A2 c3 r1007 r1008 G L w} (H : slices_BinarySearchFunc_byte_k1 a1 a6 = some (r1007, r1008)) (hI : Hp G L w) (hl4 : a1.length ≤ c3) (hD5 : Dat k_api_Glyph G A2 a1) :
    Calls Tryz.prog 133 [slice A2 a1.length c3, int .u8 a6, func (.func 103) [].toArray [].toArray].toArray w fun e w' => Hp G L w' ∧ e = .returned (tuple [int .i64 r1007, bool r1008].toArray) := by
 refine calls_intro (N := 49) Tryz.func133 z z (Nat.le_of_ble_eq_true z)<|?_
 unfold slices_BinarySearchFunc_byte_k1 at H
 refine sr fun K7 hK8=>asn z<|asn z<|nl<|hK8 _ _ _<|sr fun K9 hK10=>mv z<|q_len so22 z<|asn z<|nl<|hK10 _ _ _<|sr fun K11 hK12=>mv z<|asn z<|?_
 refine asn z<|nl<|hK12 _ _ _<|sQ fun K13 hK14=>wb<|bK H fun v28 hC H=>wpc_mono (Q := fun e r ds w => e = .exit 0 ∧ ds = [] ∧ Has [(0, slice A2 a1.length c3), (1, int .u8 a6), (2, func (.func 103) [].toArray [].toArray), (8, int .i64 (a1.length : Int)), (9, int .i64 v28)] r ∧ Hp G (L) w ∧ True) ?_ ?_
 refine wpc_loop fun I hLp=>?_
 refine slices_BinarySearchFunc_byte_k1_l27.partial_correctness a1 a6 (fun v19 v20 o => ∀ (r : Rg) (w : World), Has [(0, slice A2 a1.length c3), (1, int .u8 a6), (2, func (.func 103) [].toArray [].toArray), (8, int .i64 (a1.length : Int)), (9, int .i64 v19), (10, int .i64 v20)] r → Hp G (L) w → o = v28 → I r [] w) ?_ 0 (a1.length : Int) _ hC _ _ ⟨rfl, rfl, rfl, rfl, rfl, rfl, tv⟩ hI rfl
 intro _ ih v19 v20 o H r wd36 hHas hI37 ho
 rw [ho] at H; clear ho
 rw [hHas.eq]; clear hHas
 refine hLp _ _ _<|sQ fun K38 hK39=>sr fun K40 hK41=>mv z<|mv z<|q_lss z z<|nl<|hK41 _ _ _<|dC (v19 < v20) (fun h42=>?_) fun h42=>?_
 refine yK h42 H fun H=>wt (bY h42)<|ws<|hK39 _ _ _<|wb<|sr fun K43 hK44=>mv z<|mv z<|q_add z z<|q_cvi ik3 ik91 z<|q_shr (m := 1) z z z<|q_cvi ik91 ik3 z<|asn z<|nl<|?_
 refine hK44 _ _ _<|sr fun K45 hK46=>mv z<|mv z<|mv z<|iK H fun⟨h47, h47'⟩H=>?_
 obtain ⟨ad48, cs49, hA50, hK51, hn52, hc53⟩ := Dat.get hD5 z_api_Glyph (w64 (Int.fdiv (IntKind.wrap .u64 (w64 (v19 + v20))) (2 ^ 1))) h47 h47'
 obtain ⟨rfl⟩ := open_api_Glyph hK51
 refine q_ia el22 z hA50 z h47 h47'<|q_lfA hI37 ag103 z (cs := [int .u8 ((a1.getD (Int.toNat (w64 (Int.fdiv (IntKind.wrap .u64 (w64 (v19 + v20))) (2 ^ 1)))) z_api_Glyph).Byte), int .i64 ((a1.getD (Int.toNat (w64 (Int.fdiv (IntKind.wrap .u64 (w64 (v19 + v20))) (2 ^ 1)))) z_api_Glyph).Advance)]) z (fun j v hv => gR.cel _ _ (hc53 j v hv))<|mv z<|bK H fun y59 hy54 H=>cv bo103 (font_glyph_1_spec (a1 := (a1.getD (Int.toNat (w64 (Int.fdiv (IntKind.wrap .u64 (w64 (v19 + v20))) (2 ^ 1)))) z_api_Glyph)) hy54 hI37) z z fun wd57 hI58=>q_lss z z<|nl<|hK46 _ _ _<|dC (y59 < 0) (fun h60=>?_) fun h60=>?_
 exact yK h60 H fun H=>wt (bY h60)<|wpc_region<|mv z<|q_add z z<|asn z<|nl<|ih _ _ _ H _ _ ⟨z, z, z, z, z, z, tv⟩ hI58 z
 exact nK h60 H fun H=>wf (bN h60)<|wpc_region<|mv z<|asn z<|nl<|ih _ _ _ H _ _ ⟨z, z, z, z, z, z, tv⟩ hI58 z
 refine nK h42 H fun H=>wf (bN h42)<|wx<|?_
 cases H
 exact ⟨z, z, ⟨z, z, z, z, z, tv⟩, hI37, tv⟩
 rintro e r ds wd31 ⟨rfl, rfl, hHas, hI32, _⟩
 rw [hHas.eq]; clear hHas
 refine hK14 _ _ _<|sr fun K61 hK62=>mv z<|mv z<|mv z<|q_lss z z<|mv z<|bK H fun v63 hC H=>js 9 hI32 [(35, int .i64 v28), (48, bool v63)] ?_ fun _ wd66 hI67=>?_
 refine have H:=hC;dC (v28 < (a1.length : Int)) (fun h69=>?_) fun h69=>?_
 refine yK h69 H fun H=>mv (hw:=gY z z z (bY h69)) z<|mv (hw:=gY z z z (bY h69)) z<|mv (hw:=gY z z z (bY h69)) z<|iK H fun⟨h70, h70'⟩H=>?_
 obtain ⟨ad71, cs72, hA73, hK74, hn75, hc76⟩ := Dat.get hD5 z_api_Glyph (v28) h70 h70'
 obtain ⟨rfl⟩ := open_api_Glyph hK74
 refine q_ia (hw:=gY z z z (bY h69)) el22 z hA73 z h70 h70'<|q_lfA (hw:=gY z z z (bY h69)) hI32 ag103 z (cs := [int .u8 ((a1.getD (Int.toNat v28) z_api_Glyph).Byte), int .i64 ((a1.getD (Int.toNat v28) z_api_Glyph).Advance)]) z (fun j v hv => gR.cel _ _ (hc76 j v hv))<|mv (hw:=gY z z z (bY h69)) z<|bK H fun y82 hy77 H=>cv (hw:=gY z z z (bY h69)) bo103 (font_glyph_1_spec (a1 := (a1.getD (Int.toNat v28) z_api_Glyph)) hy77 hI32) z z fun wd80 hI81=>q_eql (hw:=gY z z z (bY h69)) z z<|pkt (bY h69) z<|nl<|?_
 cases H
 exact je ⟨z, z, tv⟩ hI81
 refine nK h69 H fun H=>Sk 8 z z (bN h69) z<|pkf (bN h69) z<|nl<|?_
 cases H
 exact je ⟨z, z, tv⟩ hI32
 refine asn z<|asn z<|nl<|hK62 _ _ _<|wr<|?_
 cases H
 exact rt ⟨_, _, z, z, ⟨_, _, z, z, z⟩⟩ hI67
theorem font_find_byte_k1_spec {a1 a6 A2 c3 r1007 r1008 G L w} (H : font_find_byte_k1 a1 a6 = some (r1007, r1008)) (hI : Hp G L w) (hl4 : a1.length ≤ c3) (hD5 : Dat k_api_Glyph G A2 a1) :
    Calls Tryz.prog 102 [slice A2 a1.length c3, int .u8 a6, func (.func 103) [].toArray [].toArray].toArray w fun e w' => Hp G L w' ∧ e = .returned (tuple [agg [int .u8 r1007.Byte, int .i64 r1007.Advance].toArray, bool r1008].toArray) := by
 refine calls_intro (N := 25) Tryz.func102 z z (Nat.le_of_ble_eq_true z)<|?_
 unfold font_find_byte_k1 at H
 refine sr fun K7 hK8=>q_alloc hI ze103 fun g10 wd11 hI12=>asn z<|nl<|hK8 _ _ _<|sr fun K13 hK14=>mv z<|mv z<|mv z<|bK2 H fun y20 y21 hy15 H=>cv bo133 (slices_BinarySearchFunc_byte_k1_spec hy15 hI12 hl4 hD5) z z fun wd18 hI19=>mv z<|exk z z<|exk z z<|?_
 refine asn z<|asn z<|nl<|hK14 _ _ _<|sQ fun K22 hK23=>sr fun K24 hK25=>mv z<|q_not z<|nl<|hK25 _ _ _<|dC ((!y21) = true) (fun h26=>?_) fun h26=>?_
 refine yK h26 H fun H=>wt (vY h26)<|sr fun K27 hK28=>q_alloc hI19 ze103 fun g30 wd31 hI32=>nl<|hK28 _ _ _<|sr fun K33 hK34=>lda hI32 0 ag103 z z z z<|stk hI32 1 ag103 z z z z z z z fun wd35 hI36=>asn z<|nl<|hK34 _ _ _<|wr<|have hr37:=res_cell (P := Tryz.prog) hI36 1 (cs := [int .u8 0, int .i64 0]) (g := g10) (o := 0) ag103 z z z;?_
 refine have hI38:=Hp.pick 2 [] hI36 z;?_
 cases H
 exact rt ⟨_, _, _, z, z, hr37, ⟨_, _, z, z, z⟩⟩ hI38
 refine nK h26 H fun H=>wf (vN h26)<|ws<|hK23 _ _ _<|sr fun K39 hK40=>mv z<|mv z<|iK H fun⟨h41, h41'⟩H=>?_
 obtain ⟨ad42, cs43, hA44, hK45, hn46, hc47⟩ := Dat.get hD5 z_api_Glyph (y20) h41 h41'
 obtain ⟨rfl⟩ := open_api_Glyph hK45
 refine q_ia el22 z hA44 z h41 h41'<|q_lfA hI19 ag103 z (cs := [int .u8 ((a1.getD (Int.toNat y20) z_api_Glyph).Byte), int .i64 ((a1.getD (Int.toNat y20) z_api_Glyph).Advance)]) z (fun j v hv => gR.cel _ _ (hc47 j v hv))<|stk hI19 0 ag103 z z z z z z z fun wd48 hI49=>asn z<|nl<|hK40 _ _ _<|wr<|have hr50:=res_cell (P := Tryz.prog) hI49 0 (cs := [int .u8 ((a1.getD (Int.toNat y20) z_api_Glyph).Byte), int .i64 ((a1.getD (Int.toNat y20) z_api_Glyph).Advance)]) (g := g10) (o := 0) ag103 z z z;have hI51:=Hp.pick 1 [] hI49 z;?_
 cases H
 exact rt ⟨_, _, _, z, z, hr50, ⟨_, _, z, z, z⟩⟩ hI51
theorem font_glyph_spec {a1 a10 A2 c3 A6 c7 r1011 r1012 G L w} (H : font_glyph a1 a10 = some (r1011, r1012)) (hI : Hp G L w) (hl4 : a1.Glyphs.length ≤ c3) (hD5 : Dat k_api_Glyph G A2 a1.Glyphs) (hl8 : a1.Kerns.length ≤ c7) (hD9 : Dat k_api_Kern G A6 a1.Kerns) :
    Calls Tryz.prog 75 [agg [slice A2 a1.Glyphs.length c3, slice A6 a1.Kerns.length c7].toArray, int .u8 a10].toArray w fun e w' => Hp G L w' ∧ e = .returned (tuple [agg [int .u8 r1011.Byte, int .i64 r1011.Advance].toArray, bool r1012].toArray) := by
 refine calls_intro (N := 12) Tryz.func75 z z (Nat.le_of_ble_eq_true z)<|?_
 unfold font_glyph at H
 refine sr fun K11 hK12=>bxk hI z z fun g14 wd15 hI16=>q_alloc hI16 ze103 fun g18 wd19 hI20=>asn z<|nl<|hK12 _ _ _<|sr fun K21 hK22=>fa fl25_0 z<|ld hI20 1 ag22 z z z<|mv z<|bK2 H fun y28 y29 hy23 H=>cv bo102 (font_find_byte_k1_spec hy23 hI20 hl4 hD5) z z fun wd26 hI27=>exk z z<|exk z z<|?_
 refine stk hI27 0 ag103 z z z z z z z fun wd30 hI31=>asn z<|nl<|hK22 _ _ _<|wr<|have hr32:=res_cell (P := Tryz.prog) hI31 0 (cs := [int .u8 y28.Byte, int .i64 y28.Advance]) (g := g18) (o := 0) ag103 z z z;have hI33:=Hp.pick 2 [] hI31 z;?_
 cases H
 exact rt ⟨_, _, _, z, z, hr32, ⟨_, _, z, z, z⟩⟩ hI33
theorem cmp_Or_int_spec {a1 A2 c3 r1006 G L w} (H : cmp_Or_int a1 = some r1006) (hI : Hp G L w) (hl4 : a1.length ≤ c3) (hD5 : Dat (Kd.int .i64) G A2 a1) :
    Calls Tryz.prog 105 [slice A2 a1.length c3].toArray w fun e w' => Hp G L w' ∧ e = .returned (int .i64 r1006) := by
 refine calls_intro (N := 18) Tryz.func105 z z (Nat.le_of_ble_eq_true z)<|?_
 unfold cmp_Or_int at H
 refine sr fun K6 hK7=>asn z<|nl<|hK7 _ _ _<|sr fun K8 hK9=>asn z<|nl<|hK9 _ _ _<|sQ fun K10 hK11=>sr fun K12 hK13=>mv z<|q_len so44 z<|mv z<|nl<|?_
 refine hK13 _ _ _<|wb<|bK H fun o34 hC H=>wpc_mono (Q := fun e r ds w => match (generalizing := false) o34 with | (Sum.inl v25) => e = .ret ∧ ds = [] ∧ Has [(2, int .i64 v25)] r ∧ Hp G (L) w ∧ True | (Sum.inr _) => e = .exit 0 ∧ ds = [] ∧ Has [(3, int .i64 0)] r ∧ Hp G (L) w ∧ True) ?_ ?_
 refine wpc_loop fun I hLp=>?_
 refine cmp_Or_int_l24.partial_correctness a1 (fun v18 o => ∀ (r : Rg) (w : World), Has [(3, int .i64 0), (6, slice A2 a1.length c3), (7, int .i64 (a1.length : Int)), (8, int .i64 v18)] r → Hp G (L) w → o = o34 → I r [] w) ?_ 0 _ hC _ _ ⟨rfl, rfl, rfl, rfl, tv⟩ hI rfl
 intro _ ih v18 o H r wd37 hHas hI38 ho
 rw [ho] at H; clear ho
 rw [hHas.eq]; clear hHas
 refine hLp _ _ _<|sr fun K39 hK40=>q_lss z z<|nl<|hK40 _ _ _<|sQ fun K41 hK42=>dC (v18 < (a1.length : Int)) (fun h43=>?_) fun h43=>?_
 refine yK h43 H fun H=>wt (bY h43)<|ws<|hK42 _ _ _<|sQ fun K44 hK45=>wb<|sr fun K46 hK47=>iK H fun⟨h48, h48'⟩H=>?_
 obtain ⟨ad49, cs50, hA51, hK52, hn53, hc54⟩ := Dat.get hD5 (0 : Int) (v18) h48 h48'
 obtain rfl := hK52
 refine q_ia el44 z hA51 z h48 h48'<|q_lf hI38 ag3 z (gR.cel _ _ (hc54 0 _ z))<|asn z<|nl<|hK47 _ _ _<|sr fun K55 hK56=>mv z<|mv z<|q_neq z z<|nl<|hK56 _ _ _<|dC (¬ (a1.getD (Int.toNat v18) (0 : Int)) = 0) (fun h57=>?_) fun h57=>?_
 refine yK h57 H fun H=>wt (bY h57)<|sr fun K58 hK59=>mv z<|asn z<|nl<|hK59 _ _ _<|wr<|?_
 cases H
 exact ⟨z, z, ⟨z, tv⟩, hI38, tv⟩
 exact nK h57 H fun H=>wf (bN h57)<|ws<|hK45 _ _ _<|wpc_region<|q_add z z<|mv z<|nl<|ih _ _ H _ _ ⟨z, z, z, z, tv⟩ hI38 z
 refine nK h43 H fun H=>wf (bN h43)<|wx<|?_
 cases H
 exact ⟨z, z, ⟨z, tv⟩, hI38, tv⟩
 rcases o34 with v25 | _
 rintro e r ds wd28 ⟨rfl, rfl, hHas, hI29, _⟩
 rw [hHas.eq]; clear hHas
 cases H
 exact rt ⟨_, _, z, z, z⟩ hI29
 rintro e r ds wd32 ⟨rfl, rfl, hHas, hI33, _⟩
 rw [hHas.eq]; clear hHas
 refine hK11 _ _ _<|sr fun K60 hK61=>mv z<|asn z<|nl<|hK61 _ _ _<|wr<|?_
 cases H
 exact rt ⟨_, _, z, z, z⟩ hI33
theorem font_order_spec {a1 a2 r1003 G L w} (H : font_order a1 a2 = some r1003) (hI : Hp G L w) :
    Calls Tryz.prog 76 [agg [int .u8 a1.Left, int .u8 a1.Right, int .i64 a1.By].toArray, agg [int .u8 a2.left, int .u8 a2.right].toArray].toArray w fun e w' => Hp G L w' ∧ e = .returned (int .i64 r1003) := by
 refine calls_intro (N := 17) Tryz.func76 z z (Nat.le_of_ble_eq_true z)<|?_
 unfold font_order at H
 refine sr fun K3 hK4=>bxk hI z z fun g6 wd7 hI8=>bxk hI8 z z fun g10 wd11 hI12=>asn z<|nl<|hK4 _ _ _<|sQ fun K13 hK14=>bK H fun y36 hy221 H=>bK H fun y236 hy421 H=>bK H fun y444 hy629 H=>?_
 refine wpc_drawL [0, 1, 0, 4, 15, 0, 32, 0, 128, 511, 1023, 2047, 4095] (fun D r w => (D 10 = false ∧ ∃ (G' : Gh), G ≤ G' ∧ Regs [(2, pointer (some ⟨g6, 0, none⟩)), (3, pointer (some ⟨g10, 0, none⟩))] [] [(0, 5, pointer (some ⟨g6, 0, none⟩)), (1, 6, int .u8 a1.Left), (2, 7, pointer (some ⟨g10, 0, none⟩)), (3, 8, int .u8 a2.left), (4, 9, int .i64 y36), (5, 10, pointer (some ⟨g6, 1, none⟩)), (6, 11, int .u8 a1.Right), (7, 12, pointer (some ⟨g10, 1, none⟩)), (8, 13, int .u8 a2.right), (9, 14, int .i64 y236)] D r ∧ Hp G' (bx g10 [int .u8 a2.left, int .u8 a2.right] 127 :: bx g6 [int .u8 a1.Left, int .u8 a1.Right, int .i64 a1.By] 122 :: L) w) ∨ (D 10 = true ∧ ∃ (g433 : Nat) (G' : Gh), G ≤ G' ∧ Dat (Kd.int .i64) G' (some ⟨g433, 0, none⟩) ([y36, y236] : List Int) ∧ Regs [(2, pointer (some ⟨g6, 0, none⟩)), (3, pointer (some ⟨g10, 0, none⟩))] [] [(0, 5, pointer (some ⟨g6, 0, none⟩)), (1, 6, int .u8 a1.Left), (2, 7, pointer (some ⟨g10, 0, none⟩)), (3, 8, int .u8 a2.left), (4, 9, int .i64 y36), (5, 10, pointer (some ⟨g6, 1, none⟩)), (6, 11, int .u8 a1.Right), (7, 12, pointer (some ⟨g10, 1, none⟩)), (8, 13, int .u8 a2.right), (9, 14, int .i64 y236), (10, 15, slice (some ⟨g433, 0, none⟩) ([y36, y236] : List Int).length 2), (11, 16, int .i64 y444), (12, 4, int .i64 y444)] D r ∧ Hp G' (tk (slice (some ⟨g433, 0, none⟩) ([y36, y236] : List Int).length 2) 1 3 :: bx g10 [int .u8 a2.left, int .u8 a2.right] 127 :: bx g6 [int .u8 a1.Left, int .u8 a1.Right, int .i64 a1.By] 122 :: L) w)) mixo z z ?_ ?_ ?_
 exact (.inl ⟨z, _, Gh.le_refl _, Regs.start ⟨z, z, tv⟩ trivial, hI12.drew⟩)
 refine ⟨?_, ?_, ?_, ?_, ?_, ?_, ?_, ?_, ?_, ?_, ?_, ?_, ?_, tv⟩
 rintro D r wd644 (⟨hd2, G640, hG641, hReg643, hI642⟩ | ⟨hd1, g433, G640, hG641, hD438, hReg643, hI642⟩) hDi hpre hpost
 obtain ⟨r0, rfl⟩ := Has.ex (cC (hReg643.ins.get 0 rfl) cN)
 exact fa fl122_0 z<|nl ⟨z, (.inl ⟨hd2, _, hG641, (Regs.step hReg643 hDi z z z z), hI642⟩)⟩
 cases (hpost 10 rfl).symm.trans hd1
 rintro D r wd644 (⟨hd2, G640, hG641, hReg643, hI642⟩ | ⟨hd1, g433, G640, hG641, hD438, hReg643, hI642⟩) hDi hpre hpost
 obtain ⟨r0, rfl⟩ := Has.ex (cC (hReg643.get 0 rfl (hpre 0 rfl)) cN)
 exact ld hI642 1 ag5 z z z<|nl ⟨z, (.inl ⟨hd2, _, hG641, (Regs.step hReg643 hDi z z z z), hI642⟩)⟩
 cases (hpost 10 rfl).symm.trans hd1
 rintro D r wd644 (⟨hd2, G640, hG641, hReg643, hI642⟩ | ⟨hd1, g433, G640, hG641, hD438, hReg643, hI642⟩) hDi hpre hpost
 obtain ⟨r0, rfl⟩ := Has.ex (cC (hReg643.ins.get 1 rfl) cN)
 exact fa fl127_0 z<|nl ⟨z, (.inl ⟨hd2, _, hG641, (Regs.step hReg643 hDi z z z z), hI642⟩)⟩
 cases (hpost 10 rfl).symm.trans hd1
 rintro D r wd644 (⟨hd2, G640, hG641, hReg643, hI642⟩ | ⟨hd1, g433, G640, hG641, hD438, hReg643, hI642⟩) hDi hpre hpost
 obtain ⟨r0, rfl⟩ := Has.ex (cC (hReg643.get 2 rfl (hpre 2 rfl)) cN)
 exact ld hI642 0 ag5 z z z<|nl ⟨z, (.inl ⟨hd2, _, hG641, (Regs.step hReg643 hDi z z z z), hI642⟩)⟩
 cases (hpost 10 rfl).symm.trans hd1
 rintro D r wd644 (⟨hd2, G640, hG641, hReg643, hI642⟩ | ⟨hd1, g433, G640, hG641, hD438, hReg643, hI642⟩) hDi hpre hpost
 obtain ⟨r0, rfl⟩ := Has.ex (cC (hReg643.get 1 rfl (hpre 1 rfl)) (cC (hReg643.get 3 rfl (hpre 3 rfl)) cN))
 exact cv bo104 (cmp_Compare_byte_spec hy221 hI642) z z fun wd34 hI35=>nl ⟨z, (.inl ⟨hd2, _, hG641, (Regs.step hReg643 hDi z z z z), hI35⟩)⟩
 cases (hpost 10 rfl).symm.trans hd1
 rintro D r wd644 (⟨hd2, G640, hG641, hReg643, hI642⟩ | ⟨hd1, g433, G640, hG641, hD438, hReg643, hI642⟩) hDi hpre hpost
 obtain ⟨r0, rfl⟩ := Has.ex (cC (hReg643.ins.get 0 rfl) cN)
 exact fa fl122_1 z<|nl ⟨z, (.inl ⟨hd2, _, hG641, (Regs.step hReg643 hDi z z z z), hI642⟩)⟩
 cases (hpost 10 rfl).symm.trans hd1
 rintro D r wd644 (⟨hd2, G640, hG641, hReg643, hI642⟩ | ⟨hd1, g433, G640, hG641, hD438, hReg643, hI642⟩) hDi hpre hpost
 obtain ⟨r0, rfl⟩ := Has.ex (cC (hReg643.get 5 rfl (hpre 5 rfl)) cN)
 exact ld hI642 1 ag5 z z z<|nl ⟨z, (.inl ⟨hd2, _, hG641, (Regs.step hReg643 hDi z z z z), hI642⟩)⟩
 cases (hpost 10 rfl).symm.trans hd1
 rintro D r wd644 (⟨hd2, G640, hG641, hReg643, hI642⟩ | ⟨hd1, g433, G640, hG641, hD438, hReg643, hI642⟩) hDi hpre hpost
 obtain ⟨r0, rfl⟩ := Has.ex (cC (hReg643.ins.get 1 rfl) cN)
 exact fa fl127_1 z<|nl ⟨z, (.inl ⟨hd2, _, hG641, (Regs.step hReg643 hDi z z z z), hI642⟩)⟩
 cases (hpost 10 rfl).symm.trans hd1
 rintro D r wd644 (⟨hd2, G640, hG641, hReg643, hI642⟩ | ⟨hd1, g433, G640, hG641, hD438, hReg643, hI642⟩) hDi hpre hpost
 obtain ⟨r0, rfl⟩ := Has.ex (cC (hReg643.get 7 rfl (hpre 7 rfl)) cN)
 exact ld hI642 0 ag5 z z z<|nl ⟨z, (.inl ⟨hd2, _, hG641, (Regs.step hReg643 hDi z z z z), hI642⟩)⟩
 cases (hpost 10 rfl).symm.trans hd1
 rintro D r wd644 (⟨hd2, G640, hG641, hReg643, hI642⟩ | ⟨hd1, g433, G640, hG641, hD438, hReg643, hI642⟩) hDi hpre hpost
 obtain ⟨r0, rfl⟩ := Has.ex (cC (hReg643.get 6 rfl (hpre 6 rfl)) (cC (hReg643.get 8 rfl (hpre 8 rfl)) cN))
 exact cv bo104 (cmp_Compare_byte_spec hy421 hI642) z z fun wd234 hI235=>nl ⟨z, (.inl ⟨hd2, _, hG641, (Regs.step hReg643 hDi z z z z), hI235⟩)⟩
 cases (hpost 10 rfl).symm.trans hd1
 rintro D r wd644 (⟨hd2, G640, hG641, hReg643, hI642⟩ | ⟨hd1, g433, G640, hG641, hD438, hReg643, hI642⟩) hDi hpre hpost
 obtain ⟨r0, rfl⟩ := Has.ex (cC (hReg643.get 4 rfl (hpre 4 rfl)) (cC (hReg643.get 9 rfl (hpre 9 rfl)) cN))
 refine q_bs hI642 (vs := [(0, int .i64 y36), (1, int .i64 y236)]) (cs := [int .i64 y36, int .i64 y236]) el44 ze3 rfl (by decide) rfl rfl (fun g433 wd434 hI435 => ?_)
 obtain ⟨G436, hG437, hI439, hD438⟩ := Hp.publish (xs := ([y36, y236] : List Int)) (n := 2) (Kd.int .i64) hI435 ⟨[int .i64 y36], _, rfl, rfl, ⟨[int .i64 y236], _, rfl, rfl, rfl⟩⟩ rfl
 exact nl ⟨z, (.inr ⟨z, g433, _, (gT hG641 hG437), hD438, (Regs.step (Regs.more (new := [(10, 15, slice (some ⟨g433, 0, none⟩) ([y36, y236] : List Int).length 2), (11, 16, int .i64 y444), (12, 4, int .i64 y444)]) hReg643 (List.forall_mem_cons.2 ⟨hDi, (List.forall_mem_cons.2 ⟨hpost 11 z, (List.forall_mem_cons.2 ⟨hpost 12 z, (fun _ h => nomatch h)⟩)⟩)⟩)) hDi z z z z), hI439⟩)⟩
 cases hDi.symm.trans hd1
 rintro D r wd644 (⟨hd2, G640, hG641, hReg643, hI642⟩ | ⟨hd1, g433, G640, hG641, hD438, hReg643, hI642⟩) hDi hpre hpost
 cases (hpre 10 rfl).symm.trans hd2
 obtain ⟨r0, rfl⟩ := Has.ex (cC (hReg643.get 10 rfl (hpre 10 rfl)) cN)
 exact cv bo105 (cmp_Or_int_spec (a1 := ([y36, y236] : List Int)) hy629 hI642 (show ([y36, y236] : List Int).length ≤ 2 from Nat.le_of_ble_eq_true z) hD438) z z fun wd442 hI443=>nl ⟨z, (.inr ⟨hd1, g433, _, hG641, hD438, (Regs.step hReg643 hDi z z z z), hI443⟩)⟩
 rintro D r wd644 (⟨hd2, G640, hG641, hReg643, hI642⟩ | ⟨hd1, g433, G640, hG641, hD438, hReg643, hI642⟩) hDi hpre hpost
 cases (hpre 10 rfl).symm.trans hd2
 obtain ⟨r0, rfl⟩ := Has.ex (cC (hReg643.get 11 rfl (hpre 11 rfl)) cN)
 exact asn z<|nl ⟨z, (.inr ⟨hd1, g433, _, hG641, hD438, (Regs.step hReg643 hDi z z z z), hI642⟩)⟩
 intro D r wd644 hall hR
 rcases hR with ⟨hd2, G640, hG641, hReg643, hI642⟩ | ⟨hd1, g433, G640, hG641, hD438, hReg643, hI642⟩
 cases (hall 10 (Nat.le_of_ble_eq_true rfl)).symm.trans hd2
 obtain ⟨r0, rfl⟩ := Has.ex (cC (hReg643.get 12 rfl (hall 12 (Nat.le_of_ble_eq_true rfl))) cN)
 refine hK14 _ _ _<|wr<|have hI645:=Hp.pick 3 [] hI642 z;?_
 cases H
 exact rt ⟨_, _, z, z, z⟩ (Hp.low hG641 hI645)
theorem font_Valid_spec {a1 A2 c3 A6 c7 r1010 G L w} (H : font_Valid a1 = some r1010) (hI : Hp G L w) (hl4 : a1.Glyphs.length ≤ c3) (hD5 : Dat k_api_Glyph G A2 a1.Glyphs) (hl8 : a1.Kerns.length ≤ c7) (hD9 : Dat k_api_Kern G A6 a1.Kerns) :
    Calls Tryz.prog 38 [agg [slice A2 a1.Glyphs.length c3, slice A6 a1.Kerns.length c7].toArray].toArray w fun e w' => Hp G L w' ∧ e = .returned (bool r1010) := by
 refine calls_intro (N := 123) Tryz.func38 z z (Nat.le_of_ble_eq_true z)<|?_
 unfold font_Valid at H
 refine sr fun K10 hK11=>bxk hI z z fun g13 wd14 hI15=>asn z<|nl<|hK11 _ _ _<|sQ fun K16 hK17=>sr fun K18 hK19=>fa fl25_0 z<|ld hI15 0 ag22 z z z<|q_len so22 z<|q_gtr z z<|mv z<|bK H fun v20 hC H=>js 5 hI15 [(1, pointer (some ⟨g13, 0, none⟩)), (20, bool v20)] ?_ fun _ wd23 hI24=>?_
 refine have H:=hC;dC (94 < (a1.Glyphs.length : Int)) (fun h26=>?_) fun h26=>?_
 refine yK h26 H fun H=>Sk 4 z z (bY h26) z<|pkt (bY h26) z<|nl<|?_
 cases H
 exact je ⟨z, z, tv⟩ hI15
 refine nK h26 H fun H=>fa (hw:=gY z z z (bN h26)) fl25_1 z<|ld (hw:=gY z z z (bN h26)) hI15 0 ag23 z z z<|q_len (hw:=gY z z z (bN h26)) so23 z<|q_gtr (hw:=gY z z z (bN h26)) z z<|pkf (bN h26) z<|nl<|?_
 cases H
 exact je ⟨z, z, tv⟩ hI15
 refine nl<|hK19 _ _ _<|dC (v20 = true) (fun h27=>?_) fun h27=>?_
 refine yK h27 H fun H=>wt (vY h27)<|sr fun K28 hK29=>asn z<|nl<|hK29 _ _ _<|wr<|have hI30:=Hp.pick 1 [] hI24 z;?_
 cases H
 exact rt ⟨_, _, z, z, z⟩ hI30
 refine nK h27 H fun H=>wf (vN h27)<|ws<|hK17 _ _ _<|sQ fun K31 hK32=>sr fun K33 hK34=>fa fl25_0 z<|ld hI24 0 ag22 z z z<|q_len so22 z<|mv z<|nl<|hK34 _ _ _<|wb<|bK H fun o54 hC H=>?_
 refine wpc_mono (Q := fun e r ds w => match (generalizing := false) o54 with | (Sum.inl _) => e = .ret ∧ ds = [] ∧ Has [(2, bool false)] r ∧ Hp G (bx g13 [slice A2 a1.Glyphs.length c3, slice A6 a1.Kerns.length c7] 25 :: L) w ∧ True | (Sum.inr _) => e = .exit 0 ∧ ds = [] ∧ Has [(1, pointer (some ⟨g13, 0, none⟩))] r ∧ Hp G (bx g13 [slice A2 a1.Glyphs.length c3, slice A6 a1.Kerns.length c7] 25 :: L) w ∧ True) ?_ ?_
 refine wpc_loop fun I hLp=>?_
 refine font_Valid_l45.partial_correctness a1 (fun v39 o => ∀ (r : Rg) (w : World), Has [(1, pointer (some ⟨g13, 0, none⟩)), (22, slice A2 a1.Glyphs.length c3), (23, int .i64 (a1.Glyphs.length : Int)), (24, int .i64 v39)] r → Hp G (bx g13 [slice A2 a1.Glyphs.length c3, slice A6 a1.Kerns.length c7] 25 :: L) w → o = o54 → I r [] w) ?_ 0 _ hC _ _ ⟨rfl, rfl, rfl, rfl, tv⟩ hI24 rfl
 intro _ ih v39 o H r wd57 hHas hI58 ho
 rw [ho] at H; clear ho
 rw [hHas.eq]; clear hHas
 refine hLp _ _ _<|sr fun K59 hK60=>q_lss z z<|nl<|hK60 _ _ _<|sQ fun K61 hK62=>dC (v39 < (a1.Glyphs.length : Int)) (fun h63=>?_) fun h63=>?_
 refine yK h63 H fun H=>wt (bY h63)<|ws<|hK62 _ _ _<|sQ fun K64 hK65=>wb<|sr fun K66 hK67=>mv z<|iK H fun⟨h68, h68'⟩H=>?_
 obtain ⟨ad69, cs70, hA71, hK72, hn73, hc74⟩ := Dat.get hD5 z_api_Glyph (v39) h68 h68'
 obtain ⟨rfl⟩ := open_api_Glyph hK72
 refine q_ia el22 z hA71 z h68 h68'<|q_lfA hI58 ag103 z (cs := [int .u8 ((a1.Glyphs.getD (Int.toNat v39) z_api_Glyph).Byte), int .i64 ((a1.Glyphs.getD (Int.toNat v39) z_api_Glyph).Advance)]) z (fun j v hv => gR.cel _ _ (hc74 j v hv))<|q_alloc hI58 ze103 fun g76 wd77 hI78=>asn z<|stk hI78 0 ag103 z z z z z z z fun wd79 hI80=>nl<|hK67 _ _ _<|sQ fun K81 hK82=>bK H fun v83 hC H=>jc .normal hI80 [(1, pointer (some ⟨g13, 0, none⟩)), (22, slice A2 a1.Glyphs.length c3), (23, int .i64 (a1.Glyphs.length : Int)), (24, int .i64 v39), (62, bool v83)] ?_ fun _ wd86 hI87=>?_
 refine have H:=hC;?_
 refine wpc_quiet mixo (by kernel_rfl) ?_
 refine have hI89:=hI80.drew;wq (fa fl103_0 z wqd) z<|wq (ld hI89 0 ag5 z z z wqd) z<|wq (q_lss z z wqd) z<|wq (mv z wqd) z<|dC (((a1.Glyphs.getD (Int.toNat v39) z_api_Glyph).Byte) < 32) (fun h90=>?_) fun h90=>?_
 refine yK h90 H fun H=>wq (wN (gN z z z (bY h90) z) wqd) z<|wq (wN (gN z z z (bY h90) z) wqd) z<|wq (wN (gN z z z (bY h90) z) wqd) z<|wq (pkt (bY h90) z wqd) z<|wq (mv z wqd) z<|wq (wN (gN z z z z z) wqd) z<|wq (wN (gN z z z z z) wqd) z<|wq (wN (gN z z z z z) wqd) z<|wq (pkt z z wqd) z<|wq (mv z wqd) z<|wq (wN (gN z z z z z) wqd) z<|wq (wN (gN z z z z z) wqd) z<|wq (wN (gN z z z z z) wqd) z<|?_
 refine wq (pkt z z wqd) z<|wq (mv z wqd) z<|wq (wN (gN z z z z z) wqd) z<|wq (wN (gN z z z z z) wqd) z<|wq (wN (gN z z z z z) wqd) z<|wq (wN (gN z z z z z) wqd) z<|wq (wN (gN z z z z z) wqd) z<|wq (wN (gN z z z z z) wqd) z<|wq (wN (gN z z z z z) wqd) z<|wq (wN (gN z z z z z) wqd) z<|wq (wN (gN z z z z z) wqd) z<|wq (wN (gN z z z z z) wqd) z<|wq (wN (gN z z z z z) wqd) z<|wq (wN (gN z z z z z) wqd) z<|?_
 refine wq (wN (gN z z z z z) wqd) z<|wq (wN (gN z z z z z) wqd) z<|wq (pkt z z wqd) z<|wqq_nil<|?_
 cases H
 exact je ⟨z, z, z, z, z, tv⟩ hI89
 refine nK h90 H fun H=>wq (fa (hw:=gY z z z (bN h90)) fl103_0 z wqd) z<|wq (ld (hw:=gY z z z (bN h90)) hI89 0 ag5 z z z wqd) z<|wq (q_geq (hw:=gY z z z (bN h90)) z z wqd) z<|wq (pkf (bN h90) z wqd) z<|wq (mv z wqd) z<|dC (126 ≤ ((a1.Glyphs.getD (Int.toNat v39) z_api_Glyph).Byte)) (fun h91=>?_) fun h91=>?_
 refine yK h91 H fun H=>wq (wN (gN z z z (bY h91) z) wqd) z<|wq (wN (gN z z z (bY h91) z) wqd) z<|wq (wN (gN z z z (bY h91) z) wqd) z<|wq (pkt (bY h91) z wqd) z<|wq (mv z wqd) z<|wq (wN (gN z z z z z) wqd) z<|wq (wN (gN z z z z z) wqd) z<|wq (wN (gN z z z z z) wqd) z<|wq (pkt z z wqd) z<|wq (mv z wqd) z<|wq (wN (gN z z z z z) wqd) z<|wq (wN (gN z z z z z) wqd) z<|wq (wN (gN z z z z z) wqd) z<|?_
 refine wq (wN (gN z z z z z) wqd) z<|wq (wN (gN z z z z z) wqd) z<|wq (wN (gN z z z z z) wqd) z<|wq (wN (gN z z z z z) wqd) z<|wq (wN (gN z z z z z) wqd) z<|wq (wN (gN z z z z z) wqd) z<|wq (wN (gN z z z z z) wqd) z<|wq (wN (gN z z z z z) wqd) z<|wq (wN (gN z z z z z) wqd) z<|wq (wN (gN z z z z z) wqd) z<|wq (wN (gN z z z z z) wqd) z<|wq (pkt z z wqd) z<|wqq_nil<|?_
 cases H
 exact je ⟨z, z, z, z, z, tv⟩ hI89
 refine nK h91 H fun H=>wq (fa (hw:=gY z z z (bN h91)) fl103_1 z wqd) z<|wq (ld (hw:=gY z z z (bN h91)) hI89 0 ag3 z z z wqd) z<|wq (q_lss (hw:=gY z z z (bN h91)) z z wqd) z<|wq (pkf (bN h91) z wqd) z<|wq (mv z wqd) z<|dC (((a1.Glyphs.getD (Int.toNat v39) z_api_Glyph).Advance) < 0) (fun h92=>?_) fun h92=>?_
 refine yK h92 H fun H=>wq (wN (gN z z z (bY h92) z) wqd) z<|wq (wN (gN z z z (bY h92) z) wqd) z<|wq (wN (gN z z z (bY h92) z) wqd) z<|wq (pkt (bY h92) z wqd) z<|wq (mv z wqd) z<|wq (wN (gN z z z z z) wqd) z<|wq (wN (gN z z z z z) wqd) z<|wq (wN (gN z z z z z) wqd) z<|wq (wN (gN z z z z z) wqd) z<|wq (wN (gN z z z z z) wqd) z<|wq (wN (gN z z z z z) wqd) z<|wq (wN (gN z z z z z) wqd) z<|wq (wN (gN z z z z z) wqd) z<|?_
 refine wq (wN (gN z z z z z) wqd) z<|wq (wN (gN z z z z z) wqd) z<|wq (wN (gN z z z z z) wqd) z<|wq (wN (gN z z z z z) wqd) z<|wq (wN (gN z z z z z) wqd) z<|wq (wN (gN z z z z z) wqd) z<|wq (pkt z z wqd) z<|wqq_nil<|?_
 cases H
 exact je ⟨z, z, z, z, z, tv⟩ hI89
 refine nK h92 H fun H=>wq (fa (hw:=gY z z z (bN h92)) fl103_1 z wqd) z<|wq (ld (hw:=gY z z z (bN h92)) hI89 0 ag3 z z z wqd) z<|wq (q_gtr (hw:=gY z z z (bN h92)) z z wqd) z<|wq (pkf (bN h92) z wqd) z<|wq (mv z wqd) z<|dC (1000 < ((a1.Glyphs.getD (Int.toNat v39) z_api_Glyph).Advance)) (fun h93=>?_) fun h93=>?_
 refine yK h93 H fun H=>wq (wN (gN z z z (bY h93) z) wqd) z<|wq (wN (gN z z z (bY h93) z) wqd) z<|wq (wN (gN z z z (bY h93) z) wqd) z<|wq (wN (gN z z z z z) wqd) z<|wq (wN (gN z z z z z) wqd) z<|wq (wN (gN z z z z z) wqd) z<|wq (wN (gN z z z z z) wqd) z<|wq (wN (gN z z z z z) wqd) z<|wq (wN (gN z z z z z) wqd) z<|wq (wN (gN z z z z z) wqd) z<|wq (wN (gN z z z z z) wqd) z<|wq (wN (gN z z z z z) wqd) z<|wq (wN (gN z z z z z) wqd) z<|?_
 refine wq (wN (gN z z z (bY h93) z) wqd) z<|wq (pkt (bY h93) z wqd) z<|wqq_nil<|?_
 cases H
 exact je ⟨z, z, z, z, z, tv⟩ hI89
 refine nK h93 H fun H=>wq (mv (hw:=gY z z z (bN h93)) z wqd) z<|wq (q_gtr (hw:=gY z z z (bN h93)) z z wqd) z<|wq (mv (hw:=gY z z z (bN h93)) z wqd) z<|dC (0 < v39) (fun h94=>?_) fun h94=>?_
 refine yK h94 H fun H=>wq (fa (hw:=gY z z z (bY h94)) fl103_0 z wqd) z<|wq (ld (hw:=gY z z z (bY h94)) hI89 0 ag5 z z z wqd) z<|wq (fa (hw:=gY z z z (bY h94)) fl25_0 z wqd) z<|wq (ld (hw:=gY z z z (bY h94)) hI89 1 ag22 z z z wqd) z<|wq (mv (hw:=gY z z z (bY h94)) z wqd) z<|wq (q_sub (hw:=gY z z z (bY h94)) z z wqd) z<|iK H fun⟨h95, h95'⟩H=>?_
 obtain ⟨ad96, cs97, hA98, hK99, hn100, hc101⟩ := Dat.get hD5 z_api_Glyph (w64 (v39 - 1)) h95 h95'
 obtain ⟨rfl⟩ := open_api_Glyph hK99
 refine wq (q_ia (hw:=gY z z z (bY h94)) el22 z hA98 z h95 h95' wqd) z<|wq (q_fa (hw:=gY z z z (bY h94)) fl103_0 z z wqd) z<|wq (q_lf (hw:=gY z z z (bY h94)) hI89 ag5 z (gR.cel _ _ (hc101 0 _ z)) wqd) z<|wq (q_leq (hw:=gY z z z (bY h94)) z z wqd) z<|wq (pkt (hw:=gY z z z (bN h93)) (bY h94) z wqd) z<|wq (pkf (bN h93) z wqd) z<|wqq_nil<|?_
 cases H
 exact je ⟨z, z, z, z, z, tv⟩ hI89
 refine nK h94 H fun H=>wq (wN (gN z z z (bN h94) z) wqd) z<|wq (wN (gN z z z (bN h94) z) wqd) z<|wq (wN (gN z z z (bN h94) z) wqd) z<|wq (wN (gN z z z (bN h94) z) wqd) z<|wq (wN (gN z z z (bN h94) z) wqd) z<|wq (wN (gN z z z (bN h94) z) wqd) z<|wq (wN (gN z z z (bN h94) z) wqd) z<|wq (wN (gN z z z (bN h94) z) wqd) z<|wq (wN (gN z z z (bN h94) z) wqd) z<|wq (wN (gN z z z (bN h94) z) wqd) z<|wq (pkf (hw:=gY z z z (bN h93)) (bN h94) z wqd) z<|wq (pkf (bN h93) z wqd) z<|wqq_nil<|?_
 cases H
 exact je ⟨z, z, z, z, z, tv⟩ hI89
 refine hK82 _ _ _<|dC (v83 = true) (fun h102=>?_) fun h102=>?_
 refine yK h102 H fun H=>wt (vY h102)<|sr fun K103 hK104=>asn z<|nl<|hK104 _ _ _<|wr<|have hI106:=Hp.pick 2 [1] hI87 z;?_
 cases H
 exact ⟨z, z, ⟨z, tv⟩, hI106, tv⟩
 exact nK h102 H fun H=>wf (vN h102)<|ws<|hK65 _ _ _<|wpc_region<|q_add z z<|mv z<|nl<|have hI108:=Hp.pick 2 [1] hI87 z;ih _ _ H _ _ ⟨z, z, z, z, tv⟩ hI108 z
 refine nK h63 H fun H=>wf (bN h63)<|wx<|?_
 cases H
 exact ⟨z, z, ⟨z, tv⟩, hI58, tv⟩
 rcases o54 with _ | _
 rintro e r ds wd48 ⟨rfl, rfl, hHas, hI49, _⟩
 rw [hHas.eq]; clear hHas
 refine have hI109:=Hp.pick 1 [] hI49 z;?_
 cases H
 exact rt ⟨_, _, z, z, z⟩ hI109
 rintro e r ds wd52 ⟨rfl, rfl, hHas, hI53, _⟩
 rw [hHas.eq]; clear hHas
 refine hK32 _ _ _<|sQ fun K110 hK111=>sr fun K112 hK113=>fa fl25_1 z<|ld hI53 0 ag23 z z z<|q_len so23 z<|mv z<|nl<|hK113 _ _ _<|wb<|bK H fun o133 hC H=>?_
 refine wpc_mono (Q := fun e r ds w => match (generalizing := false) o133 with | (Sum.inl _) => e = .ret ∧ ds = [] ∧ Has [(2, bool false)] r ∧ Hp G (bx g13 [slice A2 a1.Glyphs.length c3, slice A6 a1.Kerns.length c7] 25 :: L) w ∧ True | (Sum.inr _) => e = .exit 2 ∧ ds = [] ∧ Has [] r ∧ Hp G (bx g13 [slice A2 a1.Glyphs.length c3, slice A6 a1.Kerns.length c7] 25 :: L) w ∧ True) ?_ ?_
 refine wpc_loop fun I hLp=>?_
 refine font_Valid_l124.partial_correctness a1 (fun v118 o => ∀ (r : Rg) (w : World), Has [(1, pointer (some ⟨g13, 0, none⟩)), (65, slice A6 a1.Kerns.length c7), (66, int .i64 (a1.Kerns.length : Int)), (67, int .i64 v118)] r → Hp G (bx g13 [slice A2 a1.Glyphs.length c3, slice A6 a1.Kerns.length c7] 25 :: L) w → o = o133 → I r [] w) ?_ 0 _ hC _ _ ⟨rfl, rfl, rfl, rfl, tv⟩ hI53 rfl
 intro _ ih v118 o H r wd136 hHas hI137 ho
 rw [ho] at H; clear ho
 rw [hHas.eq]; clear hHas
 refine hLp _ _ _<|sr fun K138 hK139=>q_lss z z<|nl<|hK139 _ _ _<|sQ fun K140 hK141=>dC (v118 < (a1.Kerns.length : Int)) (fun h142=>?_) fun h142=>?_
 refine yK h142 H fun H=>wt (bY h142)<|ws<|hK141 _ _ _<|sQ fun K143 hK144=>wb<|sr fun K145 hK146=>mv z<|iK H fun⟨h147, h147'⟩H=>?_
 obtain ⟨ad148, cs149, hA150, hK151, hn152, hc153⟩ := Dat.get hD9 z_api_Kern (v118) h147 h147'
 obtain ⟨rfl⟩ := open_api_Kern hK151
 refine q_ia el23 z hA150 z h147 h147'<|q_lfA hI137 ag122 z (cs := [int .u8 ((a1.Kerns.getD (Int.toNat v118) z_api_Kern).Left), int .u8 ((a1.Kerns.getD (Int.toNat v118) z_api_Kern).Right), int .i64 ((a1.Kerns.getD (Int.toNat v118) z_api_Kern).By)]) z (fun j v hv => gR.cel _ _ (hc153 j v hv))<|q_alloc hI137 ze122 fun g155 wd156 hI157=>asn z<|stk hI157 0 ag122 z z z z z z z fun wd158 hI159=>nl<|hK146 _ _ _<|sr fun K160 hK161=>lda hI159 1 ag25 z z z z<|fa fl122_0 z<|ld hI159 0 ag5 z z z<|bK2 H fun y167 y168 hy162 H=>cv bo75 (font_glyph_spec hy162 hI159 hl4 hD5 hl8 hD9) z z fun wd165 hI166=>mv z<|?_
 refine exk z z<|exk z z<|q_alloc hI166 ze103 fun g170 wd171 hI172=>stk hI172 0 ag103 z z z z z z z fun wd173 hI174=>asn z<|nl<|hK161 _ _ _<|sr fun K175 hK176=>lda hI174 2 ag25 z z z z<|fa fl122_1 z<|ld hI174 1 ag5 z z z<|bK2 H fun y182 y183 hy177 H=>cv bo75 (font_glyph_spec hy177 hI174 hl4 hD5 hl8 hD9) z z fun wd180 hI181=>mv z<|?_
 refine exk z z<|exk z z<|q_alloc hI181 ze103 fun g185 wd186 hI187=>stk hI187 0 ag103 z z z z z z z fun wd188 hI189=>asn z<|nl<|hK176 _ _ _<|sQ fun K190 hK191=>sr fun K192 hK193=>mv z<|q_not z<|mv z<|bK H fun v194 hC H=>js 3 hI189 [(1, pointer (some ⟨g13, 0, none⟩)), (5, int .i64 v118), (6, pointer (some ⟨g155, 0, none⟩)), (7, pointer (some ⟨g170, 0, none⟩)), (65, slice A6 a1.Kerns.length c7), (66, int .i64 (a1.Kerns.length : Int)), (67, int .i64 v118), (91, bool v194)] ?_ fun _ wd197 hI198=>?_
 refine have H:=hC;dC ((!y168) = true) (fun h200=>?_) fun h200=>?_
 refine yK h200 H fun H=>Sk 2 z z (vY h200) z<|pkt (vY h200) z<|nl<|?_
 cases H
 exact je ⟨z, z, z, z, z, z, z, z, tv⟩ hI189
 refine nK h200 H fun H=>mv (hw:=gY z z z (vN h200)) z<|q_not (hw:=gY z z z (vN h200)) z<|pkf (vN h200) z<|nl<|?_
 cases H
 exact je ⟨z, z, z, z, z, z, z, z, tv⟩ hI189
 refine mv z<|bK H fun v201 hC H=>js 4 hI198 [(1, pointer (some ⟨g13, 0, none⟩)), (5, int .i64 v118), (6, pointer (some ⟨g155, 0, none⟩)), (7, pointer (some ⟨g170, 0, none⟩)), (65, slice A6 a1.Kerns.length c7), (66, int .i64 (a1.Kerns.length : Int)), (67, int .i64 v118), (96, bool v201)] ?_ fun _ wd204 hI205=>?_
 refine have H:=hC;dC (v194 = true) (fun h207=>?_) fun h207=>?_
 refine yK h207 H fun H=>Sk 3 z z (vY h207) z<|pkt (vY h207) z<|nl<|?_
 cases H
 exact je ⟨z, z, z, z, z, z, z, z, tv⟩ hI198
 refine nK h207 H fun H=>fa (hw:=gY z z z (vN h207)) fl122_2 z<|ld (hw:=gY z z z (vN h207)) hI198 2 ag3 z z z<|q_gtr (hw:=gY z z z (vN h207)) z z<|pkf (vN h207) z<|nl<|?_
 cases H
 exact je ⟨z, z, z, z, z, z, z, z, tv⟩ hI198
 refine mv z<|bK H fun v208 hC H=>js 7 hI205 [(1, pointer (some ⟨g13, 0, none⟩)), (5, int .i64 v118), (6, pointer (some ⟨g155, 0, none⟩)), (65, slice A6 a1.Kerns.length c7), (66, int .i64 (a1.Kerns.length : Int)), (67, int .i64 v118), (104, bool v208)] ?_ fun _ wd211 hI212=>?_
 refine have H:=hC;dC (v201 = true) (fun h214=>?_) fun h214=>?_
 refine yK h214 H fun H=>Sk 6 z z (vY h214) z<|pkt (vY h214) z<|nl<|?_
 cases H
 exact je ⟨z, z, z, z, z, z, z, tv⟩ hI205
 refine nK h214 H fun H=>fa (hw:=gY z z z (vN h214)) fl122_2 z<|ld (hw:=gY z z z (vN h214)) hI205 2 ag3 z z z<|fa (hw:=gY z z z (vN h214)) fl103_1 z<|ld (hw:=gY z z z (vN h214)) hI205 1 ag3 z z z<|q_neg (hw:=gY z z z (vN h214)) z<|q_lss (hw:=gY z z z (vN h214)) z z<|pkf (vN h214) z<|nl<|?_
 cases H
 exact je ⟨z, z, z, z, z, z, z, tv⟩ hI205
 refine nl<|hK193 _ _ _<|dC (v208 = true) (fun h215=>?_) fun h215=>?_
 refine yK h215 H fun H=>wt (vY h215)<|sr fun K216 hK217=>asn z<|nl<|hK217 _ _ _<|wr<|have hI219:=Hp.pick 4 [3] hI212 z;?_
 cases H
 exact ⟨z, z, ⟨z, tv⟩, hI219, tv⟩
 refine nK h215 H fun H=>wf (vN h215)<|ws<|hK191 _ _ _<|sQ fun K220 hK221=>bK H fun v231 hC H=>jc .normal hI212 [(1, pointer (some ⟨g13, 0, none⟩)), (65, slice A6 a1.Kerns.length c7), (66, int .i64 (a1.Kerns.length : Int)), (67, int .i64 v118), (121, bool v231)] ?_ fun _ wd234 hI235=>?_
 refine have H:=hC;?_
 refine wpc_class hI212 mixo (by kernel_rfl) ?_
 refine wq' (fun Gq w hGq Iq=>mv z wqd) z z<|wq' (fun Gq w hGq Iq=>q_gtr z z wqd) z z<|wq' (fun Gq w hGq Iq=>mv z wqd) z z<|dC (0 < v118) (fun h241=>?_) fun h241=>?_
 refine yK h241 H fun H=>wq' (fun Gq w hGq Iq=>fa (hw:=gY z z z (bY h241)) fl25_1 z wqd) z z<|wq' (fun Gq w hGq Iq=>ld (hw:=gY z z z (bY h241)) Iq 3 ag23 z z z wqd) z z<|wq' (fun Gq w hGq Iq=>mv (hw:=gY z z z (bY h241)) z wqd) z z<|wq' (fun Gq w hGq Iq=>q_sub (hw:=gY z z z (bY h241)) z z wqd) z z<|iK H fun⟨h242, h242'⟩H=>?_
 obtain ⟨ad243, cs244, hA245, hK246, hn247, hc248⟩ := Dat.get hD9 z_api_Kern (w64 (v118 - 1)) h242 h242'
 obtain ⟨rfl⟩ := open_api_Kern hK246
 refine wq' (fun Gq w hGq Iq=>q_ia (hw:=gY z z z (bY h241)) el23 z hA245 z h242 h242' wqd) z z<|wq' (fun Gq w hGq Iq=>q_lfA (hw:=gY z z z (bY h241)) Iq ag122 z (cs := [int .u8 ((a1.Kerns.getD (Int.toNat (w64 (v118 - 1))) z_api_Kern).Left), int .u8 ((a1.Kerns.getD (Int.toNat (w64 (v118 - 1))) z_api_Kern).Right), int .i64 ((a1.Kerns.getD (Int.toNat (w64 (v118 - 1))) z_api_Kern).By)]) z (fun j v hv => hGq.cel _ _ (hc248 j v hv)) wqd) z z<|wq' (fun Gq w hGq Iq=>fa (hw:=gY z z z (bY h241)) fl122_0 z wqd) z z<|wq' (fun Gq w hGq Iq=>ld (hw:=gY z z z (bY h241)) Iq 2 ag5 z z z wqd) z z<|wq' (fun Gq w hGq Iq=>fa (hw:=gY z z z (bY h241)) fl122_1 z wqd) z z<|wq' (fun Gq w hGq Iq=>ld (hw:=gY z z z (bY h241)) Iq 2 ag5 z z z wqd) z z<|wq' (fun Gq w hGq Iq=>q_build (hw:=gY z z z (bY h241)) (vs := [(0, int .u8 ((a1.Kerns.getD (Int.toNat v118) z_api_Kern).Left)), (1, int .u8 ((a1.Kerns.getD (Int.toNat v118) z_api_Kern).Right))]) (cs := [int .u8 ((a1.Kerns.getD (Int.toNat v118) z_api_Kern).Left), int .u8 ((a1.Kerns.getD (Int.toNat v118) z_api_Kern).Right)]) ze127 pl127 z z wqd) z z<|bK H fun y250 hy249 H=>?_
 refine wk (vs := [agg [int .u8 ((a1.Kerns.getD (Int.toNat (w64 (v118 - 1))) z_api_Kern).Left), int .u8 ((a1.Kerns.getD (Int.toNat (w64 (v118 - 1))) z_api_Kern).Right), int .i64 ((a1.Kerns.getD (Int.toNat (w64 (v118 - 1))) z_api_Kern).By)].toArray, agg [int .u8 ((a1.Kerns.getD (Int.toNat v118) z_api_Kern).Left), int .u8 ((a1.Kerns.getD (Int.toNat v118) z_api_Kern).Right)].toArray]) (v := int .i64 y250) bo76 z z (fun Gq w hGq Iq => ?_) ?_ (hw := gY z z z (bool_yes h241))
 refine Calls.mono (font_order_spec (a1 := (a1.Kerns.getD (Int.toNat (w64 (v118 - 1))) z_api_Kern)) (a2 := (⟨(a1.Kerns.getD (Int.toNat v118) z_api_Kern).Left, (a1.Kerns.getD (Int.toNat v118) z_api_Kern).Right⟩ : font_pair)) hy249 Iq)<|?_
 rintro _ w2 ⟨I2, rfl⟩
 exact ⟨z, _, hGq, I2⟩
 refine wq' (fun Gq w hGq Iq=>q_geq (hw:=gY z z z (bY h241)) z z wqd) z z<|wq' (fun Gq w hGq Iq=>pkt (bY h241) z wqd) z z<|wz fun wd239 G237 hG238 hI240=>?_
 cases H
 exact je ⟨z, z, z, z, z, tv⟩ (Hp.low hG238 hI240)
 refine nK h241 H fun H=>wp (guard_no z z z (bN h241) z)<|wp (guard_no z z z (bN h241) z)<|wp (guard_no z z z (bN h241) z)<|wp (guard_no z z z (bN h241) z)<|wp (guard_no z z z (bN h241) z)<|wp (guard_no z z z (bN h241) z)<|wp (guard_no z z z (bN h241) z)<|wp (guard_no z z z (bN h241) z)<|wp (guard_no z z z (bN h241) z)<|wp (guard_no z z z (bN h241) z)<|wp (guard_no z z z (bN h241) z)<|wp (guard_no z z z (bN h241) z)<|wp (guard_no z z z (bN h241) z)<|?_
 refine wq' (fun Gq w hGq Iq=>pkf (bN h241) z wqd) z z<|wz fun wd239 G237 hG238 hI240=>?_
 cases H
 exact je ⟨z, z, z, z, z, tv⟩ (Hp.low hG238 hI240)
 refine hK221 _ _ _<|dC (v231 = true) (fun h251=>?_) fun h251=>?_
 refine yK h251 H fun H=>wt (vY h251)<|sr fun K252 hK253=>asn z<|nl<|hK253 _ _ _<|wr<|have hI255:=Hp.pick 4 [3] hI235 z;?_
 cases H
 exact ⟨z, z, ⟨z, tv⟩, hI255, tv⟩
 exact nK h251 H fun H=>wf (vN h251)<|ws<|hK144 _ _ _<|wpc_region<|q_add z z<|mv z<|nl<|have hI257:=Hp.pick 4 [3] hI235 z;ih _ _ H _ _ ⟨z, z, z, z, tv⟩ hI257 z
 refine nK h142 H fun H=>wf (bN h142)<|wx<|?_
 cases H
 exact ⟨z, z, trivial, hI137, tv⟩
 rcases o133 with _ | _
 rintro e r ds wd127 ⟨rfl, rfl, hHas, hI128, _⟩
 rw [hHas.eq]; clear hHas
 refine have hI258:=Hp.pick 1 [] hI128 z;?_
 cases H
 exact rt ⟨_, _, z, z, z⟩ hI258
 rintro e r ds wd131 ⟨rfl, rfl, hHas, hI132, _⟩
 rw [hHas.eq]; clear hHas
 refine hK111 _ _ _<|sr fun K259 hK260=>asn z<|nl<|hK260 _ _ _<|wr<|have hI261:=Hp.pick 1 [] hI132 z;?_
 cases H
 exact rt ⟨_, _, z, z, z⟩ hI261
theorem text_Class_spec {a1 r1002 G L w} (H : text_Class a1 = some r1002) (hI : Hp G L w) :
    Calls Tryz.prog 77 [int .u8 a1].toArray w fun e w' => Hp G L w' ∧ e = .returned (int .i64 r1002) := by
 refine calls_intro (N := 37) Tryz.func77 z z (Nat.le_of_ble_eq_true z)<|?_
 unfold text_Class at H
 refine sr fun K2 hK3=>asn z<|nl<|hK3 _ _ _<|sQ fun K4 hK5=>wb<|sr fun K6 hK7=>mv z<|q_eql z z<|asn z<|nl<|hK7 _ _ _<|dC (a1 = 32) (fun h8=>?_) fun h8=>?_
 refine yK h8 H fun H=>wt (bY h8)<|sr fun K9 hK10=>asn z<|nl<|hK10 _ _ _<|wr<|?_
 cases H
 exact rt ⟨_, _, z, z, z⟩ hI
 refine nK h8 H fun H=>wf (bN h8)<|sr fun K11 hK12=>mv z<|q_eql z z<|asn z<|nl<|hK12 _ _ _<|dC (a1 = 126) (fun h13=>?_) fun h13=>?_
 refine yK h13 H fun H=>wt (bY h13)<|sr fun K14 hK15=>asn z<|nl<|hK15 _ _ _<|wr<|?_
 cases H
 exact rt ⟨_, _, z, z, z⟩ hI
 refine nK h13 H fun H=>wf (bN h13)<|sr fun K16 hK17=>mv z<|q_lss z z<|mv z<|bK H fun v18 hC H=>js 3 hI [(0, int .u8 a1), (15, bool v18)] ?_ fun _ wd21 hI22=>?_
 refine have H:=hC;dC (a1 < 32) (fun h24=>?_) fun h24=>?_
 refine yK h24 H fun H=>Sk 2 z z (bY h24) z<|pkt (bY h24) z<|nl<|?_
 cases H
 exact je ⟨z, z, tv⟩ hI
 refine nK h24 H fun H=>mv (hw:=gY z z z (bN h24)) z<|q_gtr (hw:=gY z z z (bN h24)) z z<|pkf (bN h24) z<|nl<|?_
 cases H
 exact je ⟨z, z, tv⟩ hI
 refine asn z<|nl<|hK17 _ _ _<|dC (v18 = true) (fun h25=>?_) fun h25=>?_
 refine yK h25 H fun H=>wt (vY h25)<|sr fun K26 hK27=>asn z<|nl<|hK27 _ _ _<|wr<|?_
 cases H
 exact rt ⟨_, _, z, z, z⟩ hI22
 refine nK h25 H fun H=>wf (vN h25)<|sr fun K28 hK29=>mv z<|q_leq z z<|mv z<|bK H fun v30 hC H=>js 3 hI22 [(0, int .u8 a1), (22, bool v30)] ?_ fun _ wd33 hI34=>?_
 refine have H:=hC;dC (97 ≤ a1) (fun h36=>?_) fun h36=>?_
 refine yK h36 H fun H=>mv (hw:=gY z z z (bY h36)) z<|q_leq (hw:=gY z z z (bY h36)) z z<|pkt (bY h36) z<|nl<|?_
 cases H
 exact je ⟨z, z, tv⟩ hI22
 refine nK h36 H fun H=>Sk 2 z z (bN h36) z<|pkf (bN h36) z<|nl<|?_
 cases H
 exact je ⟨z, z, tv⟩ hI22
 refine asn z<|nl<|hK29 _ _ _<|dC (v30 = true) (fun h37=>?_) fun h37=>?_
 refine yK h37 H fun H=>wt (vY h37)<|sr fun K38 hK39=>asn z<|nl<|hK39 _ _ _<|wr<|?_
 cases H
 exact rt ⟨_, _, z, z, z⟩ hI34
 refine nK h37 H fun H=>wf (vN h37)<|sr fun K40 hK41=>mv z<|q_leq z z<|mv z<|bK H fun v42 hC H=>js 3 hI34 [(0, int .u8 a1), (29, bool v42)] ?_ fun _ wd45 hI46=>?_
 refine have H:=hC;dC (65 ≤ a1) (fun h48=>?_) fun h48=>?_
 refine yK h48 H fun H=>mv (hw:=gY z z z (bY h48)) z<|q_leq (hw:=gY z z z (bY h48)) z z<|pkt (bY h48) z<|nl<|?_
 cases H
 exact je ⟨z, z, tv⟩ hI34
 refine nK h48 H fun H=>Sk 2 z z (bN h48) z<|pkf (bN h48) z<|nl<|?_
 cases H
 exact je ⟨z, z, tv⟩ hI34
 refine asn z<|nl<|hK41 _ _ _<|dC (v42 = true) (fun h49=>?_) fun h49=>?_
 refine yK h49 H fun H=>wt (vY h49)<|sr fun K50 hK51=>asn z<|nl<|hK51 _ _ _<|wr<|?_
 cases H
 exact rt ⟨_, _, z, z, z⟩ hI46
 refine nK h49 H fun H=>wf (vN h49)<|sr fun K52 hK53=>mv z<|q_leq z z<|mv z<|bK H fun v54 hC H=>js 3 hI46 [(36, bool v54)] ?_ fun _ wd57 hI58=>?_
 refine have H:=hC;dC (48 ≤ a1) (fun h60=>?_) fun h60=>?_
 refine yK h60 H fun H=>mv (hw:=gY z z z (bY h60)) z<|q_leq (hw:=gY z z z (bY h60)) z z<|pkt (bY h60) z<|nl<|?_
 cases H
 exact je ⟨z, tv⟩ hI46
 refine nK h60 H fun H=>Sk 2 z z (bN h60) z<|pkf (bN h60) z<|nl<|?_
 cases H
 exact je ⟨z, tv⟩ hI46
 refine asn z<|nl<|hK53 _ _ _<|dC (v54 = true) (fun h61=>?_) fun h61=>?_
 refine yK h61 H fun H=>wt (vY h61)<|sr fun K62 hK63=>asn z<|nl<|hK63 _ _ _<|wr<|?_
 cases H
 exact rt ⟨_, _, z, z, z⟩ hI58
 refine nK h61 H fun H=>wf (vN h61)<|ws<|hK5 _ _ _<|sr fun K64 hK65=>asn z<|nl<|hK65 _ _ _<|wr<|?_
 cases H
 exact rt ⟨_, _, z, z, z⟩ hI58
theorem text_Valid_spec {a1 r1002 G L w} (H : text_Valid a1 = some r1002) (hI : Hp G L w) :
    Calls Tryz.prog 39 [string a1].toArray w fun e w' => Hp G L w' ∧ e = .returned (bool r1002) := by
 refine calls_intro (N := 21) Tryz.func39 z z (Nat.le_of_ble_eq_true z)<|?_
 unfold text_Valid at H
 refine sr fun K2 hK3=>asn z<|nl<|hK3 _ _ _<|sQ fun K4 hK5=>sr fun K6 hK7=>mv z<|q_rgs hI so9 z fun g9 wd10 hI11=>nl<|hK7 _ _ _<|wb<|bK H fun o33 hC H=>?_
 refine wpc_mono (Q := fun e r ds w => match (generalizing := false) o33 with | (Sum.inl v23) => e = .ret ∧ ds = [] ∧ Has [(2, bool false)] r ∧ Hp G (ob g9 (Obj.stringIter a1 v23) :: L) w ∧ True | (Sum.inr v24) => e = .exit 0 ∧ ds = [] ∧ Has [(0, string a1)] r ∧ Hp G (ob g9 (Obj.stringIter a1 v24) :: L) w ∧ True) ?_ ?_
 refine wpc_loop fun I hLp=>?_
 refine text_Valid_l22.partial_correctness a1 (fun v16 o => ∀ (r : Rg) (w : World), Has [(0, string a1), (6, pointer (some ⟨g9, 0, none⟩))] r → Hp G (ob g9 (Obj.stringIter a1 v16) :: L) w → o = o33 → I r [] w) ?_ 0 _ hC _ _ ⟨rfl, rfl, tv⟩ hI11 rfl
 intro _ ih v16 o H r wd36 hHas hI37 ho
 rw [ho] at H; clear ho
 rw [hHas.eq]; clear hHas
 refine hLp _ _ _<|sr fun K38 hK39=>dC (v16 < a1.size) (fun h40=>?_) fun h40=>?_
 refine yK h40 H fun H=>q_nxy hI37 0 z z h40 fun wd41 hI42=>exk z z<|nl<|hK39 _ _ _<|sQ fun K43 hK44=>wt z<|ws<|hK44 _ _ _<|wb<|sr fun K45 hK46=>exk z z<|asn z<|nl<|?_
 refine hK46 _ _ _<|sr fun K47 hK48=>mv z<|q_gtr z z<|mv z<|bK H fun v49 hC H=>js 5 hI42 [(0, string a1), (6, pointer (some ⟨g9, 0, none⟩)), (17, bool v49)] ?_ fun _ wd52 hI53=>?_
 refine have H:=hC;dC (126 < ((Utf8.decode a1 v16).1 : Int)) (fun h55=>?_) fun h55=>?_
 refine yK h55 H fun H=>Sk 4 z z (bY h55) z<|pkt (bY h55) z<|nl<|?_
 cases H
 exact je ⟨z, z, z, tv⟩ hI42
 refine nK h55 H fun H=>mv (hw:=gY z z z (bN h55)) z<|q_cvi (hw:=gY z z z (bN h55)) ik21 ik5 z<|bK H fun y61 hy56 H=>cv (hw:=gY z z z (bN h55)) bo77 (text_Class_spec hy56 hI42) z z fun wd59 hI60=>q_eql (hw:=gY z z z (bN h55)) z z<|pkf (bN h55) z<|nl<|?_
 cases H
 exact je ⟨z, z, z, tv⟩ hI60
 refine nl<|hK48 _ _ _<|dC (v49 = true) (fun h62=>?_) fun h62=>?_
 refine yK h62 H fun H=>wt (vY h62)<|sr fun K63 hK64=>asn z<|nl<|hK64 _ _ _<|wr<|?_
 cases H
 exact ⟨z, z, ⟨z, tv⟩, hI53, tv⟩
 exact nK h62 H fun H=>wf (vN h62)<|ws<|ih _ _ H _ _ ⟨z, z, tv⟩ hI53 z
 refine nK h40 H fun H=>q_nxn hI37 0 z z h40<|exk z z<|nl<|hK39 _ _ _<|sQ fun K65 hK66=>wf z<|wx<|?_
 cases H
 exact ⟨z, z, ⟨z, tv⟩, hI37, tv⟩
 rcases o33 with v23 | v24
 rintro e r ds wd27 ⟨rfl, rfl, hHas, hI28, _⟩
 rw [hHas.eq]; clear hHas
 refine have hI67:=Hp.pick 1 [] hI28 z;?_
 cases H
 exact rt ⟨_, _, z, z, z⟩ hI67
 rintro e r ds wd31 ⟨rfl, rfl, hHas, hI32, _⟩
 rw [hHas.eq]; clear hHas
 refine hK5 _ _ _<|sr fun K68 hK69=>mv z<|q_lens so9 z<|q_leq z z<|asn z<|nl<|hK69 _ _ _<|wr<|have hI70:=Hp.pick 1 [] hI32 z;?_
 cases H
 exact rt ⟨_, _, z, z, z⟩ hI70
theorem breaks_within_spec {a1 r1002 G L w} (H : breaks_within a1 = some r1002) (hI : Hp G L w) :
    Calls Tryz.prog 160 [int .i64 a1].toArray w fun e w' => Hp G L w' ∧ e = .returned (bool r1002) := by
 refine calls_intro (N := 9) Tryz.func160 z z (Nat.le_of_ble_eq_true z)<|?_
 unfold breaks_within at H
 refine sr fun K2 hK3=>asn z<|nl<|hK3 _ _ _<|sr fun K4 hK5=>mv z<|q_leq z z<|mv z<|bK H fun v6 hC H=>js 3 hI [(8, bool v6)] ?_ fun _ wd9 hI10=>?_
 refine have H:=hC;dC (1 ≤ a1) (fun h12=>?_) fun h12=>?_
 refine yK h12 H fun H=>mv (hw:=gY z z z (bY h12)) z<|q_leq (hw:=gY z z z (bY h12)) z z<|pkt (bY h12) z<|nl<|?_
 cases H
 exact je ⟨z, tv⟩ hI
 refine nK h12 H fun H=>Sk 2 z z (bN h12) z<|pkf (bN h12) z<|nl<|?_
 cases H
 exact je ⟨z, tv⟩ hI
 refine asn z<|nl<|hK5 _ _ _<|wr<|?_
 cases H
 exact rt ⟨_, _, z, z, z⟩ hI10
theorem breaks_small_spec {a1 r1002 G L w} (H : breaks_small a1 = some r1002) (hI : Hp G L w) :
    Calls Tryz.prog 161 [int .u8 a1].toArray w fun e w' => Hp G L w' ∧ e = .returned (bool r1002) := by
 refine calls_intro (N := 9) Tryz.func161 z z (Nat.le_of_ble_eq_true z)<|?_
 unfold breaks_small at H
 refine sr fun K2 hK3=>asn z<|nl<|hK3 _ _ _<|sr fun K4 hK5=>mv z<|q_leq z z<|mv z<|bK H fun v6 hC H=>js 3 hI [(8, bool v6)] ?_ fun _ wd9 hI10=>?_
 refine have H:=hC;dC (97 ≤ a1) (fun h12=>?_) fun h12=>?_
 refine yK h12 H fun H=>mv (hw:=gY z z z (bY h12)) z<|q_leq (hw:=gY z z z (bY h12)) z z<|pkt (bY h12) z<|nl<|?_
 cases H
 exact je ⟨z, tv⟩ hI
 refine nK h12 H fun H=>Sk 2 z z (bN h12) z<|pkf (bN h12) z<|nl<|?_
 cases H
 exact je ⟨z, tv⟩ hI
 refine asn z<|nl<|hK5 _ _ _<|wr<|?_
 cases H
 exact rt ⟨_, _, z, z, z⟩ hI10
theorem breaks_Valid_spec {a1 A2 c3 r1006 G L w} (H : breaks_Valid a1 = some r1006) (hI : Hp G L w) (hl4 : a1.Keep.length ≤ c3) (hD5 : Dat Kd.str G A2 a1.Keep) :
    Calls Tryz.prog 128 [agg [int .i64 a1.Before, int .i64 a1.Behind, slice A2 a1.Keep.length c3].toArray].toArray w fun e w' => Hp G L w' ∧ e = .returned (bool r1006) := by
 refine calls_intro (N := 53) Tryz.func128 z z (Nat.le_of_ble_eq_true z)<|?_
 unfold breaks_Valid at H
 refine sr fun K6 hK7=>bxk hI z z fun g9 wd10 hI11=>asn z<|nl<|hK7 _ _ _<|sQ fun K12 hK13=>sr fun K14 hK15=>fa fl28_0 z<|ld hI11 0 ag3 z z z<|bK H fun y21 hy16 H=>cv bo160 (breaks_within_spec hy16 hI11) z z fun wd19 hI20=>q_not z<|mv z<|bK H fun v22 hC H=>?_
 refine js 5 hI20 [(1, pointer (some ⟨g9, 0, none⟩)), (15, bool v22)] ?_ fun _ wd25 hI26=>?_
 refine have H:=hC;dC ((!y21) = true) (fun h28=>?_) fun h28=>?_
 refine yK h28 H fun H=>Sk 4 z z (vY h28) z<|pkt (vY h28) z<|nl<|?_
 cases H
 exact je ⟨z, z, tv⟩ hI20
 refine nK h28 H fun H=>fa (hw:=gY z z z (vN h28)) fl28_1 z<|ld (hw:=gY z z z (vN h28)) hI20 0 ag3 z z z<|bK H fun y34 hy29 H=>cv (hw:=gY z z z (vN h28)) bo160 (breaks_within_spec hy29 hI20) z z fun wd32 hI33=>q_not (hw:=gY z z z (vN h28)) z<|pkf (vN h28) z<|nl<|?_
 cases H
 exact je ⟨z, z, tv⟩ hI33
 refine mv z<|bK H fun v35 hC H=>js 5 hI26 [(1, pointer (some ⟨g9, 0, none⟩)), (21, bool v35)] ?_ fun _ wd38 hI39=>?_
 refine have H:=hC;dC (v22 = true) (fun h41=>?_) fun h41=>?_
 refine yK h41 H fun H=>Sk 4 z z (vY h41) z<|pkt (vY h41) z<|nl<|?_
 cases H
 exact je ⟨z, z, tv⟩ hI26
 refine nK h41 H fun H=>fa (hw:=gY z z z (vN h41)) fl28_2 z<|ld (hw:=gY z z z (vN h41)) hI26 0 ag26 z z z<|q_len (hw:=gY z z z (vN h41)) so26 z<|q_gtr (hw:=gY z z z (vN h41)) z z<|pkf (vN h41) z<|nl<|?_
 cases H
 exact je ⟨z, z, tv⟩ hI26
 refine nl<|hK15 _ _ _<|dC (v35 = true) (fun h42=>?_) fun h42=>?_
 refine yK h42 H fun H=>wt (vY h42)<|sr fun K43 hK44=>asn z<|nl<|hK44 _ _ _<|wr<|have hI45:=Hp.pick 1 [] hI39 z;?_
 cases H
 exact rt ⟨_, _, z, z, z⟩ hI45
 refine nK h42 H fun H=>wf (vN h42)<|ws<|hK13 _ _ _<|sr fun K46 hK47=>q_mmk (α := ByteArray) (β := Bool) string bool hI39 fun g49 wd50 hI51=>asn z<|nl<|hK47 _ _ _<|sQ fun K52 hK53=>sr fun K54 hK55=>fa fl28_2 z<|ld hI51 1 ag26 z z z<|q_len so26 z<|?_
 refine mv z<|nl<|hK55 _ _ _<|wb<|bK H fun o79 hC H=>?_
 refine wpc_mono (Q := fun e r ds w => match (generalizing := false) o79 with | (Sum.inl v69) => e = .ret ∧ ds = [] ∧ Has [(2, bool false)] r ∧ Hp G (mpI g49 string bool v69 :: bx g9 [int .i64 a1.Before, int .i64 a1.Behind, slice A2 a1.Keep.length c3] 28 :: L) w ∧ True | (Sum.inr v70) => e = .exit 0 ∧ ds = [] ∧ Has [] r ∧ Hp G (mpI g49 string bool v70 :: bx g9 [int .i64 a1.Before, int .i64 a1.Behind, slice A2 a1.Keep.length c3] 28 :: L) w ∧ True) ?_ ?_
 refine wpc_loop fun I hLp=>?_
 refine breaks_Valid_l68.partial_correctness a1 (fun v60 v61 o => ∀ (r : Rg) (w : World), Has [(3, Value.map (some g49)), (24, slice A2 a1.Keep.length c3), (25, int .i64 (a1.Keep.length : Int)), (26, int .i64 v60)] r → Hp G (mpI g49 string bool v61 :: bx g9 [int .i64 a1.Before, int .i64 a1.Behind, slice A2 a1.Keep.length c3] 28 :: L) w → o = o79 → I r [] w) ?_ 0 ([] : List (ByteArray × Bool)) _ hC _ _ ⟨rfl, rfl, rfl, rfl, tv⟩ hI51 rfl
 intro _ ih v60 v61 o H r wd82 hHas hI83 ho
 rw [ho] at H; clear ho
 rw [hHas.eq]; clear hHas
 refine hLp _ _ _<|sr fun K84 hK85=>q_lss z z<|nl<|hK85 _ _ _<|sQ fun K86 hK87=>dC (v60 < (a1.Keep.length : Int)) (fun h88=>?_) fun h88=>?_
 refine yK h88 H fun H=>wt (bY h88)<|ws<|hK87 _ _ _<|sQ fun K89 hK90=>wb<|sr fun K91 hK92=>iK H fun⟨h93, h93'⟩H=>?_
 obtain ⟨ad94, cs95, hA96, hK97, hn98, hc99⟩ := Dat.get hD5 (⟨#[]⟩ : ByteArray) (v60) h93 h93'
 obtain rfl := hK97
 refine q_ia el26 z hA96 z h93 h93'<|q_lf hI83 ag9 z (gR.cel _ _ (hc99 0 _ z))<|asn z<|nl<|hK92 _ _ _<|sQ fun K100 hK101=>sr fun K102 hK103=>mv z<|q_lens so9 z<|q_neq z z<|mv z<|bK H fun v104 hC H=>js 5 hI83 [(3, Value.map (some g49)), (5, string (a1.Keep.getD (Int.toNat v60) (⟨#[]⟩ : ByteArray))), (24, slice A2 a1.Keep.length c3), (25, int .i64 (a1.Keep.length : Int)), (26, int .i64 v60), (38, bool v104)] ?_ fun _ wd107 hI108=>?_
 refine have H:=hC;dC (¬ ((a1.Keep.getD (Int.toNat v60) (⟨#[]⟩ : ByteArray)).size : Int) = 2) (fun h110=>?_) fun h110=>?_
 refine yK h110 H fun H=>Sk 4 z z (bY h110) z<|pkt (bY h110) z<|nl<|?_
 cases H
 exact je ⟨z, z, z, z, z, z, tv⟩ hI83
 refine nK h110 H fun H=>mv (hw:=gY z z z (bN h110)) z<|iK H fun⟨h111, h111'⟩H=>q_is (hw:=gY z z z (bN h110)) so9 z z h111 h111' z<|bK H fun y117 hy112 H=>cv (hw:=gY z z z (bN h110)) bo161 (breaks_small_spec hy112 hI83) z z fun wd115 hI116=>q_not (hw:=gY z z z (bN h110)) z<|pkf (bN h110) z<|nl<|?_
 cases H
 exact je ⟨z, z, z, z, z, z, tv⟩ hI116
 refine mv z<|bK H fun v118 hC H=>js 5 hI108 [(3, Value.map (some g49)), (5, string (a1.Keep.getD (Int.toNat v60) (⟨#[]⟩ : ByteArray))), (24, slice A2 a1.Keep.length c3), (25, int .i64 (a1.Keep.length : Int)), (26, int .i64 v60), (44, bool v118)] ?_ fun _ wd121 hI122=>?_
 refine have H:=hC;dC (v104 = true) (fun h124=>?_) fun h124=>?_
 refine yK h124 H fun H=>Sk 4 z z (vY h124) z<|pkt (vY h124) z<|nl<|?_
 cases H
 exact je ⟨z, z, z, z, z, z, tv⟩ hI108
 refine nK h124 H fun H=>mv (hw:=gY z z z (vN h124)) z<|iK H fun⟨h125, h125'⟩H=>q_is (hw:=gY z z z (vN h124)) so9 z z h125 h125' z<|bK H fun y131 hy126 H=>cv (hw:=gY z z z (vN h124)) bo161 (breaks_small_spec hy126 hI108) z z fun wd129 hI130=>q_not (hw:=gY z z z (vN h124)) z<|pkf (vN h124) z<|nl<|?_
 cases H
 exact je ⟨z, z, z, z, z, z, tv⟩ hI130
 refine mv z<|bK H fun v132 hC H=>js 4 hI122 [(3, Value.map (some g49)), (5, string (a1.Keep.getD (Int.toNat v60) (⟨#[]⟩ : ByteArray))), (24, slice A2 a1.Keep.length c3), (25, int .i64 (a1.Keep.length : Int)), (26, int .i64 v60), (49, bool v132)] ?_ fun _ wd135 hI136=>?_
 refine have H:=hC;dC (v118 = true) (fun h138=>?_) fun h138=>?_
 refine yK h138 H fun H=>Sk 3 z z (vY h138) z<|pkt (vY h138) z<|nl<|?_
 cases H
 exact je ⟨z, z, z, z, z, z, tv⟩ hI122
 refine nK h138 H fun H=>mv (hw:=gY z z z (vN h138)) z<|mv (hw:=gY z z z (vN h138)) z<|q_mlk (hw:=gY z z z (vN h138)) (zv := false) hI122 0 mt145 (ky_str so9) zv4 z z z<|pkf (vN h138) z<|nl<|?_
 cases H
 exact je ⟨z, z, z, z, z, z, tv⟩ hI122
 refine nl<|hK103 _ _ _<|dC (v132 = true) (fun h139=>?_) fun h139=>?_
 refine yK h139 H fun H=>wt (vY h139)<|sr fun K140 hK141=>asn z<|nl<|hK141 _ _ _<|wr<|?_
 cases H
 exact ⟨z, z, ⟨z, tv⟩, hI136, tv⟩
 refine nK h139 H fun H=>wf (vN h139)<|ws<|hK101 _ _ _<|wpc_region<|mv z<|mv z<|q_mup (b := true) hI136 0 mt145 (ky_str so9) z z z z fun wd142 hI143=>nl<|hK90 _ _ _<|wpc_region<|q_add z z<|mv z<|nl<|?_
 exact ih _ _ _ H _ _ ⟨z, z, z, z, tv⟩ hI143 z
 refine nK h88 H fun H=>wf (bN h88)<|wx<|?_
 cases H
 exact ⟨z, z, trivial, hI83, tv⟩
 rcases o79 with v69 | v70
 rintro e r ds wd73 ⟨rfl, rfl, hHas, hI74, _⟩
 rw [hHas.eq]; clear hHas
 refine have hI144:=Hp.pick 2 [] hI74 z;?_
 cases H
 exact rt ⟨_, _, z, z, z⟩ hI144
 rintro e r ds wd77 ⟨rfl, rfl, hHas, hI78, _⟩
 rw [hHas.eq]; clear hHas
 refine hK53 _ _ _<|sr fun K145 hK146=>asn z<|nl<|hK146 _ _ _<|wr<|have hI147:=Hp.pick 2 [] hI78 z;?_
 cases H
 exact rt ⟨_, _, z, z, z⟩ hI147
theorem breaks_prepare_spec {a1 a6 A2 c3 r1007 r1008 r1009 r1014} {r1017 : List (ByteArray × Bool)} {r1018 G L w} (H : breaks_prepare a1 a6 = some (r1007, r1008, r1009, r1014, r1017, r1018)) (hI : Hp G L w) (hl4 : a1.Keep.length ≤ c3) (hD5 : Dat Kd.str G A2 a1.Keep) :
    Calls Tryz.prog 96 [agg [int .i64 a1.Before, int .i64 a1.Behind, slice A2 a1.Keep.length c3].toArray, string a6].toArray w fun e w' => ∃ (A1010 : Option Addr) (c1011 : Nat) (g1016 : Nat) (G' : Gh), G ≤ G' ∧ Hp G' (mpI g1016 string bool r1017 :: L) w' ∧ r1009.length ≤ c1011 ∧ Dat Kd.str G' A1010 r1009 ∧ e = .returned (tuple [agg [int .i64 r1007, int .i64 r1008, slice A1010 r1009.length c1011, string r1014, Value.map (some g1016)].toArray, bool r1018].toArray) := by
 refine calls_intro (N := 31) Tryz.func96 z z (Nat.le_of_ble_eq_true z)<|?_
 unfold breaks_prepare at H
 refine sr fun K7 hK8=>bxk hI z z fun g10 wd11 hI12=>q_alloc hI12 ze147 fun g14 wd15 hI16=>asn z<|nl<|hK8 _ _ _<|sr fun K17 hK18=>lda hI16 1 ag28 z z z z<|mv z<|q_mmk (α := ByteArray) (β := Bool) string bool hI16 fun g20 wd21 hI22=>q_build (vs := [(0, agg [int .i64 a1.Before, int .i64 a1.Behind, slice A2 a1.Keep.length c3].toArray), (1, string a6), (2, Value.map (some g20))]) (cs := [int .i64 a1.Before, int .i64 a1.Behind, slice A2 a1.Keep.length c3, string a6, Value.map (some g20)]) ze147 pl147 z z<|q_alloc hI22 ze147 fun g24 wd25 hI26=>stk hI26 0 ag147 z z z z z z z fun wd27 hI28=>nl<|?_
 refine hK18 _ _ _<|sQ fun K29 hK30=>sr fun K31 hK32=>fa fl28_2 z<|ld hI28 3 ag26 z z z<|q_len so26 z<|mv z<|nl<|hK32 _ _ _<|wb<|bK H fun v46 hC H=>?_
 refine wpc_mono (Q := fun e r ds w => e = .exit 0 ∧ ds = [] ∧ Has [(1, string a6), (2, pointer (some ⟨g10, 0, none⟩)), (4, pointer (some ⟨g14, 0, none⟩)), (6, pointer (some ⟨g24, 0, none⟩))] r ∧ Hp G (bx g24 [int .i64 a1.Before, int .i64 a1.Behind, slice A2 a1.Keep.length c3, string a6, Value.map (some g20)] 147 :: mpI g20 string bool v46 :: bx g14 [int .i64 0, int .i64 0, slice none 0 0, string (⟨#[]⟩ : ByteArray), Value.map none] 147 :: bx g10 [int .i64 a1.Before, int .i64 a1.Behind, slice A2 a1.Keep.length c3] 28 :: L) w ∧ True) ?_ ?_
 refine wpc_loop fun I hLp=>?_
 refine breaks_prepare_l45.partial_correctness a1 (fun v37 v38 o => ∀ (r : Rg) (w : World), Has [(1, string a6), (2, pointer (some ⟨g10, 0, none⟩)), (4, pointer (some ⟨g14, 0, none⟩)), (6, pointer (some ⟨g24, 0, none⟩)), (14, slice A2 a1.Keep.length c3), (15, int .i64 (a1.Keep.length : Int)), (16, int .i64 v37)] r → Hp G (bx g24 [int .i64 a1.Before, int .i64 a1.Behind, slice A2 a1.Keep.length c3, string a6, Value.map (some g20)] 147 :: mpI g20 string bool v38 :: bx g14 [int .i64 0, int .i64 0, slice none 0 0, string (⟨#[]⟩ : ByteArray), Value.map none] 147 :: bx g10 [int .i64 a1.Before, int .i64 a1.Behind, slice A2 a1.Keep.length c3] 28 :: L) w → o = v46 → I r [] w) ?_ 0 ([] : List (ByteArray × Bool)) _ hC _ _ ⟨rfl, rfl, rfl, rfl, rfl, rfl, rfl, tv⟩ hI28 rfl
 intro _ ih v37 v38 o H r wd54 hHas hI55 ho
 rw [ho] at H; clear ho
 rw [hHas.eq]; clear hHas
 refine hLp _ _ _<|sr fun K56 hK57=>q_lss z z<|nl<|hK57 _ _ _<|sQ fun K58 hK59=>dC (v37 < (a1.Keep.length : Int)) (fun h60=>?_) fun h60=>?_
 refine yK h60 H fun H=>wt (bY h60)<|ws<|hK59 _ _ _<|sQ fun K61 hK62=>wb<|sr fun K63 hK64=>iK H fun⟨h65, h65'⟩H=>?_
 obtain ⟨ad66, cs67, hA68, hK69, hn70, hc71⟩ := Dat.get hD5 (⟨#[]⟩ : ByteArray) (v37) h65 h65'
 obtain rfl := hK69
 refine q_ia el26 z hA68 z h65 h65'<|q_lf hI55 ag9 z (gR.cel _ _ (hc71 0 _ z))<|asn z<|nl<|hK64 _ _ _<|wpc_region<|fa fl147_2 z<|ld hI55 0 ag145 z z z<|mv z<|q_mup (b := true) hI55 1 mt145 (ky_str so9) z z z z fun wd72 hI73=>nl<|hK62 _ _ _<|wpc_region<|q_add z z<|?_
 exact mv z<|nl<|ih _ _ _ H _ _ ⟨z, z, z, z, z, z, z, tv⟩ hI73 z
 refine nK h60 H fun H=>wf (bN h60)<|wx<|?_
 cases H
 exact ⟨z, z, ⟨z, z, z, z, tv⟩, hI55, tv⟩
 rintro e r ds wd49 ⟨rfl, rfl, hHas, hI50, _⟩
 rw [hHas.eq]; clear hHas
 refine hK30 _ _ _<|sQ fun K74 hK75=>bK H fun v88 hC H=>?_
 refine jC .normal G [(4, pointer (some ⟨g14, 0, none⟩)), (5, bool v88)] (bx g24 [int .i64 a1.Before, int .i64 a1.Behind, slice A2 a1.Keep.length c3, string a6, Value.map (some g20)] 147 :: mpI g20 string bool v46 :: bx g14 [int .i64 a1.Before, int .i64 a1.Behind, slice A2 a1.Keep.length c3, string a6, Value.map (some g20)] 147 :: bx g10 [int .i64 a1.Before, int .i64 a1.Behind, slice A2 a1.Keep.length c3] 28 :: L) ?_ fun _ wd91 hI92=>?_
 refine have H:=hC;bK H fun y98 hy283 H=>dC (y98 = true) (fun h294=>?_) fun h294=>?_
 refine yK h294 H fun H=>bK H fun y299 hy484 H=>?_
 refine wpc_drawL [0, 0, 2, 6, 14, 30, 62, 63, 255] (fun D r w => (D 7 = false ∧ ∃ (G' : Gh), G ≤ G' ∧ Regs [(1, string a6), (2, pointer (some ⟨g10, 0, none⟩)), (4, pointer (some ⟨g14, 0, none⟩)), (6, pointer (some ⟨g24, 0, none⟩))] [] [(0, 24, agg [int .i64 a1.Before, int .i64 a1.Behind, slice A2 a1.Keep.length c3, string a6, Value.map (some g20)].toArray), (1, 25, agg [int .i64 a1.Before, int .i64 a1.Behind, slice A2 a1.Keep.length c3].toArray), (2, 26, bool y98), (3, 27, bool y98), (4, 28, string a6), (5, 29, bool y299), (6, 30, bool y299)] D r ∧ Hp G' (bx g24 [int .i64 a1.Before, int .i64 a1.Behind, slice A2 a1.Keep.length c3, string a6, Value.map (some g20)] 147 :: mpI g20 string bool v46 :: bx g14 [int .i64 0, int .i64 0, slice none 0 0, string (⟨#[]⟩ : ByteArray), Value.map none] 147 :: bx g10 [int .i64 a1.Before, int .i64 a1.Behind, slice A2 a1.Keep.length c3] 28 :: L) w) ∨ (D 7 = true ∧ ∃ (G' : Gh), G ≤ G' ∧ Regs [(1, string a6), (2, pointer (some ⟨g10, 0, none⟩)), (4, pointer (some ⟨g14, 0, none⟩)), (6, pointer (some ⟨g24, 0, none⟩))] [] [(0, 24, agg [int .i64 a1.Before, int .i64 a1.Behind, slice A2 a1.Keep.length c3, string a6, Value.map (some g20)].toArray), (1, 25, agg [int .i64 a1.Before, int .i64 a1.Behind, slice A2 a1.Keep.length c3].toArray), (2, 26, bool y98), (3, 27, bool y98), (4, 28, string a6), (5, 29, bool y299), (6, 30, bool y299), (8, 5, bool y299)] D r ∧ Hp G' (bx g24 [int .i64 a1.Before, int .i64 a1.Behind, slice A2 a1.Keep.length c3, string a6, Value.map (some g20)] 147 :: mpI g20 string bool v46 :: bx g14 [int .i64 a1.Before, int .i64 a1.Behind, slice A2 a1.Keep.length c3, string a6, Value.map (some g20)] 147 :: bx g10 [int .i64 a1.Before, int .i64 a1.Behind, slice A2 a1.Keep.length c3] 28 :: L) w)) mixo z z ?_ ?_ ?_
 exact (.inl ⟨z, _, Gh.le_refl _, Regs.start ⟨z, z, z, z, tv⟩ trivial, hI50.drew⟩)
 refine ⟨?_, ?_, ?_, ?_, ?_, ?_, ?_, ?_, ?_, tv⟩
 rintro D r wd501 (⟨hd2, G497, hG498, hReg500, hI499⟩ | ⟨hd1, G497, hG498, hReg500, hI499⟩) hDi hpre hpost
 obtain ⟨r0, rfl⟩ := Has.ex (cC (hReg500.ins.get 3 rfl) cN)
 exact lda hI499 0 ag147 z z z z<|nl ⟨z, (.inl ⟨hd2, _, hG498, (Regs.step hReg500 hDi z z z z), hI499⟩)⟩
 cases (hpost 7 rfl).symm.trans hd1
 rintro D r wd501 (⟨hd2, G497, hG498, hReg500, hI499⟩ | ⟨hd1, G497, hG498, hReg500, hI499⟩) hDi hpre hpost
 obtain ⟨r0, rfl⟩ := Has.ex (cC (hReg500.ins.get 1 rfl) cN)
 exact lda hI499 3 ag28 z z z z<|nl ⟨z, (.inl ⟨hd2, _, hG498, (Regs.step hReg500 hDi z z z z), hI499⟩)⟩
 cases (hpost 7 rfl).symm.trans hd1
 rintro D r wd501 (⟨hd2, G497, hG498, hReg500, hI499⟩ | ⟨hd1, G497, hG498, hReg500, hI499⟩) hDi hpre hpost
 obtain ⟨r0, rfl⟩ := Has.ex (cC (hReg500.get 1 rfl (hpre 1 rfl)) cN)
 exact cv bo128 (breaks_Valid_spec hy283 hI499 hl4 (Dat.mono hG498 hD5)) z z fun wd96 hI97=>nl ⟨z, (.inl ⟨hd2, _, hG498, (Regs.step hReg500 hDi z z z z), hI97⟩)⟩
 cases (hpost 7 rfl).symm.trans hd1
 rintro D r wd501 (⟨hd2, G497, hG498, hReg500, hI499⟩ | ⟨hd1, G497, hG498, hReg500, hI499⟩) hDi hpre hpost
 obtain ⟨r0, rfl⟩ := Has.ex (cC (hReg500.get 2 rfl (hpre 2 rfl)) cN)
 exact mv z<|nl ⟨z, (.inl ⟨hd2, _, hG498, (Regs.step hReg500 hDi z z z z), hI499⟩)⟩
 cases (hpost 7 rfl).symm.trans hd1
 rintro D r wd501 (⟨hd2, G497, hG498, hReg500, hI499⟩ | ⟨hd1, G497, hG498, hReg500, hI499⟩) hDi hpre hpost
 obtain ⟨r0, rfl⟩ := Has.ex (cC (hReg500.ins.get 0 rfl) (cC (hReg500.get 3 rfl (hpre 3 rfl)) cN))
 exact mv (hw:=gY z z z (vY h294)) z<|nl ⟨z, (.inl ⟨hd2, _, hG498, (Regs.step hReg500 hDi z z z z), hI499⟩)⟩
 cases (hpost 7 rfl).symm.trans hd1
 rintro D r wd501 (⟨hd2, G497, hG498, hReg500, hI499⟩ | ⟨hd1, G497, hG498, hReg500, hI499⟩) hDi hpre hpost
 obtain ⟨r0, rfl⟩ := Has.ex (cC (hReg500.get 3 rfl (hpre 3 rfl)) (cC (hReg500.get 4 rfl (hpre 4 rfl)) cN))
 exact cv (hw:=gY z z z (vY h294)) bo39 (text_Valid_spec hy484 hI499) z z fun wd297 hI298=>nl ⟨z, (.inl ⟨hd2, _, hG498, (Regs.step hReg500 hDi z z z z), hI298⟩)⟩
 cases (hpost 7 rfl).symm.trans hd1
 rintro D r wd501 (⟨hd2, G497, hG498, hReg500, hI499⟩ | ⟨hd1, G497, hG498, hReg500, hI499⟩) hDi hpre hpost
 obtain ⟨r0, rfl⟩ := Has.ex (cC (hReg500.get 3 rfl (hpre 3 rfl)) (cC (hReg500.get 5 rfl (hpre 5 rfl)) cN))
 exact pkt (vY h294) z<|nl ⟨z, (.inl ⟨hd2, _, hG498, (Regs.step hReg500 hDi z z z z), hI499⟩)⟩
 obtain ⟨r0, rfl⟩ := Has.ex (cC (hReg500.get 3 rfl (hpre 3 rfl)) (cC (hReg500.get 5 rfl (hpre 5 rfl)) cN))
 exact pkt (vY h294) z<|nl ⟨z, (.inr ⟨hd1, _, hG498, (Regs.step hReg500 hDi z z z z), hI499⟩)⟩
 rintro D r wd501 (⟨hd2, G497, hG498, hReg500, hI499⟩ | ⟨hd1, G497, hG498, hReg500, hI499⟩) hDi hpre hpost
 obtain ⟨r0, rfl⟩ := Has.ex (cC (hReg500.ins.get 2 rfl) (cC (hReg500.get 0 rfl (hpre 0 rfl)) cN))
 exact stk hI499 2 ag147 z z z z z z z fun wd495 hI496=>nl ⟨z, (.inr ⟨z, _, hG498, (Regs.stepN (Regs.more (new := [(8, 5, bool y299)]) hReg500 (List.forall_mem_cons.2 ⟨hpost 8 z, (fun _ h => nomatch h)⟩)) z z), hI496⟩)⟩
 cases hDi.symm.trans hd1
 rintro D r wd501 (⟨hd2, G497, hG498, hReg500, hI499⟩ | ⟨hd1, G497, hG498, hReg500, hI499⟩) hDi hpre hpost
 cases (hpre 7 rfl).symm.trans hd2
 obtain ⟨r0, rfl⟩ := Has.ex (cC (hReg500.get 6 rfl (hpre 6 rfl)) cN)
 exact asn z<|nl ⟨z, (.inr ⟨hd1, _, hG498, (Regs.step hReg500 hDi z z z z), hI499⟩)⟩
 intro D r wd501 hall hR
 rcases hR with ⟨hd2, G497, hG498, hReg500, hI499⟩ | ⟨hd1, G497, hG498, hReg500, hI499⟩
 cases (hall 7 (Nat.le_of_ble_eq_true rfl)).symm.trans hd2
 obtain ⟨r0, rfl⟩ := Has.ex (cC (hReg500.ins.get 2 rfl) (cC (hReg500.get 7 rfl (hall 8 (Nat.le_of_ble_eq_true rfl))) cN))
 cases H
 exact je ⟨z, z, tv⟩ (Hp.low hG498 hI499)
 refine nK h294 H fun H=>?_
 refine wpc_drawL [0, 0, 2, 6, 14, 30, 62, 63, 255] (fun D r w => (D 7 = false ∧ ∃ (G' : Gh), G ≤ G' ∧ Regs [(2, pointer (some ⟨g10, 0, none⟩)), (4, pointer (some ⟨g14, 0, none⟩)), (6, pointer (some ⟨g24, 0, none⟩))] [] [(0, 24, agg [int .i64 a1.Before, int .i64 a1.Behind, slice A2 a1.Keep.length c3, string a6, Value.map (some g20)].toArray), (1, 25, agg [int .i64 a1.Before, int .i64 a1.Behind, slice A2 a1.Keep.length c3].toArray), (2, 26, bool y98), (3, 27, bool y98), (4, 28, undef), (5, 29, undef), (6, 30, bool false)] D r ∧ Hp G' (bx g24 [int .i64 a1.Before, int .i64 a1.Behind, slice A2 a1.Keep.length c3, string a6, Value.map (some g20)] 147 :: mpI g20 string bool v46 :: bx g14 [int .i64 0, int .i64 0, slice none 0 0, string (⟨#[]⟩ : ByteArray), Value.map none] 147 :: bx g10 [int .i64 a1.Before, int .i64 a1.Behind, slice A2 a1.Keep.length c3] 28 :: L) w) ∨ (D 7 = true ∧ ∃ (G' : Gh), G ≤ G' ∧ Regs [(2, pointer (some ⟨g10, 0, none⟩)), (4, pointer (some ⟨g14, 0, none⟩)), (6, pointer (some ⟨g24, 0, none⟩))] [] [(0, 24, agg [int .i64 a1.Before, int .i64 a1.Behind, slice A2 a1.Keep.length c3, string a6, Value.map (some g20)].toArray), (1, 25, agg [int .i64 a1.Before, int .i64 a1.Behind, slice A2 a1.Keep.length c3].toArray), (2, 26, bool y98), (3, 27, bool y98), (4, 28, undef), (5, 29, undef), (6, 30, bool false), (8, 5, bool false)] D r ∧ Hp G' (bx g24 [int .i64 a1.Before, int .i64 a1.Behind, slice A2 a1.Keep.length c3, string a6, Value.map (some g20)] 147 :: mpI g20 string bool v46 :: bx g14 [int .i64 a1.Before, int .i64 a1.Behind, slice A2 a1.Keep.length c3, string a6, Value.map (some g20)] 147 :: bx g10 [int .i64 a1.Before, int .i64 a1.Behind, slice A2 a1.Keep.length c3] 28 :: L) w)) mixo z z ?_ ?_ ?_
 exact (.inl ⟨z, _, Gh.le_refl _, Regs.start ⟨z, z, z, tv⟩ trivial, hI50.drew⟩)
 refine ⟨?_, ?_, ?_, ?_, ?_, ?_, ?_, ?_, ?_, tv⟩
 rintro D r wd508 (⟨hd2, G504, hG505, hReg507, hI506⟩ | ⟨hd1, G504, hG505, hReg507, hI506⟩) hDi hpre hpost
 obtain ⟨r0, rfl⟩ := Has.ex (cC (hReg507.ins.get 2 rfl) cN)
 exact lda hI506 0 ag147 z z z z<|nl ⟨z, (.inl ⟨hd2, _, hG505, (Regs.step hReg507 hDi z z z z), hI506⟩)⟩
 cases (hpost 7 rfl).symm.trans hd1
 rintro D r wd508 (⟨hd2, G504, hG505, hReg507, hI506⟩ | ⟨hd1, G504, hG505, hReg507, hI506⟩) hDi hpre hpost
 obtain ⟨r0, rfl⟩ := Has.ex (cC (hReg507.ins.get 0 rfl) cN)
 exact lda hI506 3 ag28 z z z z<|nl ⟨z, (.inl ⟨hd2, _, hG505, (Regs.step hReg507 hDi z z z z), hI506⟩)⟩
 cases (hpost 7 rfl).symm.trans hd1
 rintro D r wd508 (⟨hd2, G504, hG505, hReg507, hI506⟩ | ⟨hd1, G504, hG505, hReg507, hI506⟩) hDi hpre hpost
 obtain ⟨r0, rfl⟩ := Has.ex (cC (hReg507.get 1 rfl (hpre 1 rfl)) cN)
 exact cv bo128 (breaks_Valid_spec hy283 hI506 hl4 (Dat.mono hG505 hD5)) z z fun wd96 hI97=>nl ⟨z, (.inl ⟨hd2, _, hG505, (Regs.step hReg507 hDi z z z z), hI97⟩)⟩
 cases (hpost 7 rfl).symm.trans hd1
 rintro D r wd508 (⟨hd2, G504, hG505, hReg507, hI506⟩ | ⟨hd1, G504, hG505, hReg507, hI506⟩) hDi hpre hpost
 obtain ⟨r0, rfl⟩ := Has.ex (cC (hReg507.get 2 rfl (hpre 2 rfl)) cN)
 exact mv z<|nl ⟨z, (.inl ⟨hd2, _, hG505, (Regs.step hReg507 hDi z z z z), hI506⟩)⟩
 cases (hpost 7 rfl).symm.trans hd1
 rintro D r wd508 (⟨hd2, G504, hG505, hReg507, hI506⟩ | ⟨hd1, G504, hG505, hReg507, hI506⟩) hDi hpre hpost
 obtain ⟨r0, rfl⟩ := Has.ex (cC (hReg507.get 3 rfl (hpre 3 rfl)) cN)
 exact wN (gN z z z (vN h294) z)<|nl ⟨z, (.inl ⟨hd2, _, hG505, (Regs.step hReg507 hDi z z z z), hI506⟩)⟩
 cases (hpost 7 rfl).symm.trans hd1
 rintro D r wd508 (⟨hd2, G504, hG505, hReg507, hI506⟩ | ⟨hd1, G504, hG505, hReg507, hI506⟩) hDi hpre hpost
 obtain ⟨r0, rfl⟩ := Has.ex (cC (hReg507.get 3 rfl (hpre 3 rfl)) cN)
 exact wN (gN z z z (vN h294) z)<|nl ⟨z, (.inl ⟨hd2, _, hG505, (Regs.step hReg507 hDi z z z z), hI506⟩)⟩
 cases (hpost 7 rfl).symm.trans hd1
 rintro D r wd508 (⟨hd2, G504, hG505, hReg507, hI506⟩ | ⟨hd1, G504, hG505, hReg507, hI506⟩) hDi hpre hpost
 obtain ⟨r0, rfl⟩ := Has.ex (cC (hReg507.get 3 rfl (hpre 3 rfl)) (cC (hReg507.get 5 rfl (hpre 5 rfl)) cN))
 exact pkf (vN h294) z<|nl ⟨z, (.inl ⟨hd2, _, hG505, (Regs.step hReg507 hDi z z z z), hI506⟩)⟩
 obtain ⟨r0, rfl⟩ := Has.ex (cC (hReg507.get 3 rfl (hpre 3 rfl)) (cC (hReg507.get 5 rfl (hpre 5 rfl)) cN))
 exact pkf (vN h294) z<|nl ⟨z, (.inr ⟨hd1, _, hG505, (Regs.step hReg507 hDi z z z z), hI506⟩)⟩
 rintro D r wd508 (⟨hd2, G504, hG505, hReg507, hI506⟩ | ⟨hd1, G504, hG505, hReg507, hI506⟩) hDi hpre hpost
 obtain ⟨r0, rfl⟩ := Has.ex (cC (hReg507.ins.get 1 rfl) (cC (hReg507.get 0 rfl (hpre 0 rfl)) cN))
 exact stk hI506 2 ag147 z z z z z z z fun wd502 hI503=>nl ⟨z, (.inr ⟨z, _, hG505, (Regs.stepN (Regs.more (new := [(8, 5, bool false)]) hReg507 (List.forall_mem_cons.2 ⟨hpost 8 z, (fun _ h => nomatch h)⟩)) z z), hI503⟩)⟩
 cases hDi.symm.trans hd1
 rintro D r wd508 (⟨hd2, G504, hG505, hReg507, hI506⟩ | ⟨hd1, G504, hG505, hReg507, hI506⟩) hDi hpre hpost
 cases (hpre 7 rfl).symm.trans hd2
 obtain ⟨r0, rfl⟩ := Has.ex (cC (hReg507.get 6 rfl (hpre 6 rfl)) cN)
 exact asn z<|nl ⟨z, (.inr ⟨hd1, _, hG505, (Regs.step hReg507 hDi z z z z), hI506⟩)⟩
 intro D r wd508 hall hR
 rcases hR with ⟨hd2, G504, hG505, hReg507, hI506⟩ | ⟨hd1, G504, hG505, hReg507, hI506⟩
 cases (hall 7 (Nat.le_of_ble_eq_true rfl)).symm.trans hd2
 obtain ⟨r0, rfl⟩ := Has.ex (cC (hReg507.ins.get 1 rfl) (cC (hReg507.get 7 rfl (hall 8 (Nat.le_of_ble_eq_true rfl))) cN))
 cases H
 exact je ⟨z, z, tv⟩ (Hp.low hG505 hI506)
 refine hK75 _ _ _<|wr<|have hr509:=res_cell (P := Tryz.prog) hI92 2 (cs := [int .i64 a1.Before, int .i64 a1.Behind, slice A2 a1.Keep.length c3, string a6, Value.map (some g20)]) (g := g14) (o := 0) ag147 z z z;have hI511:=Hp.pick 4 [1] hI92 z;?_
 cases H
 exact ⟨.inr z, z, _, ⟨_, _, _, z, z, hr509, ⟨_, _, z, z, z⟩⟩, A2, c3, g20, _, gR, hI511, hl4, hD5, z⟩
theorem breaks_letter_spec {a1 r1002 G L w} (H : breaks_letter a1 = some r1002) (hI : Hp G L w) :
    Calls Tryz.prog 162 [int .u8 a1].toArray w fun e w' => Hp G L w' ∧ e = .returned (bool r1002) := by
 refine calls_intro (N := 11) Tryz.func162 z z (Nat.le_of_ble_eq_true z)<|?_
 unfold breaks_letter at H
 refine sr fun K2 hK3=>asn z<|nl<|hK3 _ _ _<|sr fun K4 hK5=>mv z<|bK H fun y11 hy6 H=>cv bo77 (text_Class_spec hy6 hI) z z fun wd9 hI10=>q_eql z z<|mv z<|bK H fun v12 hC H=>js 4 hI10 [(10, bool v12)] ?_ fun _ wd15 hI16=>?_
 refine have H:=hC;dC (y11 = 1) (fun h18=>?_) fun h18=>?_
 refine yK h18 H fun H=>Sk 3 z z (bY h18) z<|pkt (bY h18) z<|nl<|?_
 cases H
 exact je ⟨z, tv⟩ hI10
 refine nK h18 H fun H=>mv (hw:=gY z z z (bN h18)) z<|bK H fun y24 hy19 H=>cv (hw:=gY z z z (bN h18)) bo77 (text_Class_spec hy19 hI10) z z fun wd22 hI23=>q_eql (hw:=gY z z z (bN h18)) z z<|pkf (bN h18) z<|nl<|?_
 cases H
 exact je ⟨z, tv⟩ hI23
 refine asn z<|nl<|hK5 _ _ _<|wr<|?_
 cases H
 exact rt ⟨_, _, z, z, z⟩ hI16
theorem breaks_solid_spec {a1 r1002 G L w} (H : breaks_solid a1 = some r1002) (hI : Hp G L w) :
    Calls Tryz.prog 130 [int .u8 a1].toArray w fun e w' => Hp G L w' ∧ e = .returned (bool r1002) := by
 refine calls_intro (N := 10) Tryz.func130 z z (Nat.le_of_ble_eq_true z)<|?_
 unfold breaks_solid at H
 refine sr fun K2 hK3=>asn z<|nl<|hK3 _ _ _<|sr fun K4 hK5=>mv z<|bK H fun y11 hy6 H=>cv bo162 (breaks_letter_spec hy6 hI) z z fun wd9 hI10=>mv z<|bK H fun v12 hC H=>js 4 hI10 [(9, bool v12)] ?_ fun _ wd15 hI16=>?_
 refine have H:=hC;dC (y11 = true) (fun h18=>?_) fun h18=>?_
 refine yK h18 H fun H=>Sk 3 z z (vY h18) z<|pkt (vY h18) z<|nl<|?_
 cases H
 exact je ⟨z, tv⟩ hI10
 refine nK h18 H fun H=>mv (hw:=gY z z z (vN h18)) z<|bK H fun y24 hy19 H=>cv (hw:=gY z z z (vN h18)) bo77 (text_Class_spec hy19 hI10) z z fun wd22 hI23=>q_eql (hw:=gY z z z (vN h18)) z z<|pkf (vN h18) z<|nl<|?_
 cases H
 exact je ⟨z, tv⟩ hI23
 refine asn z<|nl<|hK5 _ _ _<|wr<|?_
 cases H
 exact rt ⟨_, _, z, z, z⟩ hI16
theorem breaks_ruled_places_k1_spec {a1 a2 a3 a8} {a11 : List (ByteArray × Bool)} {A4 c5 g10 r1014 r1015 r1016 r1021 G L w} (H : breaks_ruled_places_k1 a1 a2 a3 a8 a11 = some (r1014, r1015, r1016, r1021)) (hI : Hp G (mpI g10 string bool a11 :: L) w) (hl6 : a3.length ≤ c5) (hD7 : Dat Kd.str G A4 a3) :
    Calls Tryz.prog 97 [agg [int .i64 a1, int .i64 a2, slice A4 a3.length c5, string a8, Value.map (some g10)].toArray].toArray w fun e w' => ∃ (g1013 : Nat) (A1017 : Option Addr) (c1018 : Nat) (G' : Gh), G ≤ G' ∧ Hp G' (bx g1013 [int .i64 r1014, int .i64 r1015, slice A1017 r1016.length c1018, string r1021, Value.map (some g10)] 147 :: mpI g10 string bool a11 :: L) w' ∧ r1016.length ≤ c1018 ∧ Dat Kd.str G' A1017 r1016 ∧ e = .returned (func (.func 129) [].toArray [pointer (some ⟨g1013, 0, none⟩)].toArray) := by
 refine calls_intro (N := 4) Tryz.func97 z z (Nat.le_of_ble_eq_true z)<|?_
 unfold breaks_ruled_places_k1 at H
 refine sr fun K12 hK13=>bxk hI z z fun g15 wd16 hI17=>asn z<|nl<|hK13 _ _ _<|sr fun K18 hK19=>q_fn (vs := []) (us := [pointer (some ⟨g15, 0, none⟩)]) z z<|asn z<|nl<|hK19 _ _ _<|wr<|?_
 cases H
 exact ⟨.inr z, z, _, ⟨_, _, z, z, z⟩, g15, A4, c5, _, gR, hI17, hl6, hD7, z⟩
theorem breaks_ruled_letters_1_k1_spec {a3 a6 a7 a8 a13} {a16 : List (ByteArray × Bool)} {g2 g5 A9 c10 g15 r1017 G L w} (H : breaks_ruled_letters_1_k1 a3 a6 a7 a8 a13 a16 = some r1017) (hI : Hp G (bx g2 [int .i64 a3] 3 :: bx g5 [int .i64 a6, int .i64 a7, slice A9 a8.length c10, string a13, Value.map (some g15)] 147 :: mpI g15 string bool a16 :: L) w) (hl11 : a8.length ≤ c10) (hD12 : Dat Kd.str G A9 a8) :
    Calls Tryz.prog 178 [pointer (some ⟨g2, 0, none⟩), pointer (some ⟨g5, 0, none⟩)].toArray w fun e w' => Hp G (bx g2 [int .i64 a3] 3 :: bx g5 [int .i64 a6, int .i64 a7, slice A9 a8.length c10, string a13, Value.map (some g15)] 147 :: mpI g15 string bool a16 :: L) w' ∧ e = .returned (bool r1017) := by
 refine calls_intro (N := 26) Tryz.func178 z z (Nat.le_of_ble_eq_true z)<|?_
 unfold breaks_ruled_letters_1_k1 at H
 refine sr fun K17 hK18=>asn z<|nl<|hK18 _ _ _<|sr fun K19 hK20=>ld hI 0 ag3 z z z<|q_geq z z<|mv z<|bK H fun v21 hC H=>js 6 hI [(0, pointer (some ⟨g2, 0, none⟩)), (1, pointer (some ⟨g5, 0, none⟩)), (11, bool v21)] ?_ fun _ wd24 hI25=>?_
 refine have H:=hC;dC (0 ≤ a3) (fun h27=>?_) fun h27=>?_
 refine yK h27 H fun H=>ld (hw:=gY z z z (bY h27)) hI 0 ag3 z z z<|fa (hw:=gY z z z (bY h27)) fl147_1 z<|ld (hw:=gY z z z (bY h27)) hI 1 ag9 z z z<|q_lens (hw:=gY z z z (bY h27)) so9 z<|q_lss (hw:=gY z z z (bY h27)) z z<|pkt (bY h27) z<|nl<|?_
 cases H
 exact je ⟨z, z, z, tv⟩ hI
 refine nK h27 H fun H=>Sk 5 z z (bN h27) z<|pkf (bN h27) z<|nl<|?_
 cases H
 exact je ⟨z, z, z, tv⟩ hI
 refine mv z<|bK H fun v28 hC H=>js 13 hI25 [(25, bool v28)] ?_ fun _ wd31 hI32=>?_
 refine have H:=hC;dC (v21 = true) (fun h34=>?_) fun h34=>?_
 refine yK h34 H fun H=>fa (hw:=gY z z z (vY h34)) fl147_1 z<|ld (hw:=gY z z z (vY h34)) hI25 1 ag9 z z z<|ld (hw:=gY z z z (vY h34)) hI25 0 ag3 z z z<|iK H fun⟨h35, h35'⟩H=>q_is (hw:=gY z z z (vY h34)) so9 z z h35 h35' z<|bK H fun y41 hy36 H=>cv (hw:=gY z z z (vY h34)) bo162 (breaks_letter_spec hy36 hI25) z z fun wd39 hI40=>mv (hw:=gY z z z (vY h34)) z<|bK H fun v42 hC H=>js 6 hI40 [(12, bool v21), (24, bool v42)] ?_ fun _ wd45 hI46=>?_
 refine have H:=hC;dC (y41 = true) (fun h48=>?_) fun h48=>?_
 refine yK h48 H fun H=>Sk 5 z z (vY h48) z<|pkt (hw:=gY z z z (vY h34)) (vY h48) z<|nl<|?_
 cases H
 exact je ⟨z, z, tv⟩ hI40
 refine nK h48 H fun H=>fa (hw:=gY z z z (vN h48)) fl147_1 z<|ld (hw:=gY z z z (vN h48)) hI40 1 ag9 z z z<|ld (hw:=gY z z z (vN h48)) hI40 0 ag3 z z z<|iK H fun⟨h49, h49'⟩H=>q_is (hw:=gY z z z (vN h48)) so9 z z h49 h49' z<|q_eql (hw:=gY z z z (vN h48)) z z<|pkf (hw:=gY z z z (vY h34)) (vN h48) z<|nl<|?_
 cases H
 exact je ⟨z, z, tv⟩ hI40
 refine pkt (vY h34) z<|nl<|?_
 cases H
 exact je ⟨z, tv⟩ hI46
 refine nK h34 H fun H=>Sk 6 z z (vN h34) z<|Su 5 z<|wN (gN z z z (vN h34) z)<|pkf (vN h34) z<|nl<|?_
 cases H
 exact je ⟨z, tv⟩ hI25
 refine asn z<|nl<|hK20 _ _ _<|wr<|?_
 cases H
 exact rt ⟨_, _, z, z, z⟩ hI32
theorem breaks_ruled_letters_k1_spec {a1 a2 a3 a8} {a11 : List (ByteArray × Bool)} {a12 a13 A4 c5 g10 r1014 G L w} (H : breaks_ruled_letters_k1 a1 a2 a3 a8 a11 a12 a13 = some r1014) (hI : Hp G (mpI g10 string bool a11 :: L) w) (hl6 : a3.length ≤ c5) (hD7 : Dat Kd.str G A4 a3) :
    Calls Tryz.prog 163 [agg [int .i64 a1, int .i64 a2, slice A4 a3.length c5, string a8, Value.map (some g10)].toArray, int .i64 a12, bool a13].toArray w fun e w' => Hp G (mpI g10 string bool a11 :: L) w' ∧ e = .returned (string r1014) := by
 refine calls_intro (N := 33) Tryz.func163 z z (Nat.le_of_ble_eq_true z)<|?_
 unfold breaks_ruled_letters_k1 at H
 refine sr fun K14 hK15=>bxk hI z z fun g17 wd18 hI19=>bxk hI19 z z fun g21 wd22 hI23=>asn z<|nl<|hK15 _ _ _<|sr fun K24 hK25=>asn z<|nl<|hK25 _ _ _<|sr fun K26 hK27=>asn z<|nl<|hK27 _ _ _<|?_
 refine sQ fun K28 hK29=>sr fun K30 hK31=>mv z<|nl<|hK31 _ _ _<|dC (a13 = true) (fun h32=>?_) fun h32=>?_
 refine yK h32 H fun H=>wt (vY h32)<|wpc_region<|ld hI23 0 ag3 z z z<|q_sub z z<|stk hI23 0 ag3 z z z z z z z fun wd33 hI34=>asn z<|nl<|hK29 _ _ _<|sr fun K35 hK36=>q_fn (vs := []) (us := [pointer (some ⟨g21, 0, none⟩), pointer (some ⟨g17, 0, none⟩)]) z z<|asn z<|nl<|hK36 _ _ _<|?_
 refine sQ fun K37 hK38=>wb<|bK2 H fun v64 v71 hC H=>?_
 refine wpc_mono (Q := fun e r ds w => e = .exit 0 ∧ ∃ (A65 : Option Addr) (c66 : Nat) (G72 : Gh), ds = [] ∧ G ≤ G72 ∧ Has [(7, slice A65 v64.length c66)] r ∧ Hp G72 (bx g21 [int .i64 v71] 3 :: bx g17 [int .i64 a1, int .i64 a2, slice A4 a3.length c5, string a8, Value.map (some g10)] 147 :: mpI g10 string bool a11 :: tk (slice A65 v64.length c66) 1 5 :: L) w ∧ v64.length ≤ c66 ∧ Dat (Kd.int .u8) G72 A65 v64 ∧ Own A65 c66 ∧ True) ?_ ?_
 refine have hI132:=Hp.emp hI34;have hI136:=Hp.pick 4 [1, 2, 3, 0] hI132 z;wpc_loop fun I hLp=>?_
 refine breaks_ruled_letters_k1_l63.partial_correctness a1 a2 a3 a8 a11 (fun v43 v50 o => ∀ (A44 : Option Addr) (c45 : Nat) (G77 : Gh) (r : Rg) (w : World), G ≤ G77 → Has [(3, pointer (some ⟨g17, 0, none⟩)), (4, pointer (some ⟨g21, 0, none⟩)), (7, slice A44 v43.length c45), (8, int .i64 (-1)), (9, func (.func 178) [].toArray [pointer (some ⟨g21, 0, none⟩), pointer (some ⟨g17, 0, none⟩)].toArray)] r → Hp G77 (bx g21 [int .i64 v50] 3 :: bx g17 [int .i64 a1, int .i64 a2, slice A4 a3.length c5, string a8, Value.map (some g10)] 147 :: mpI g10 string bool a11 :: tk (slice A44 v43.length c45) 1 5 :: L) w → v43.length ≤ c45 → Dat (Kd.int .u8) G77 A44 v43 → Own A44 c45 → o = (v64, v71) → I r [] w) ?_ ([] : List Int) (w64 (a12 - 1)) _ hC none 0 _ _ _ gR ⟨rfl, rfl, rfl, rfl, rfl, tv⟩ hI136 (show ([] : List Int).length ≤ 0 from Nat.le_refl 0) (Dat.nil _ _ _) Own.nil rfl
 intro _ ih v43 v50 o H A44 c45 G77 r wd79 hG78 hHas hI80 hl46 hD47 ho48 ho
 rw [ho] at H; clear ho
 rw [hHas.eq]; clear hHas
 refine hLp _ _ _<|sQ fun K81 hK82=>sr fun K83 hK84=>mv z<|bK H fun y90 hy85 H=>cv bo178 (breaks_ruled_letters_1_k1_spec hy85 hI80 hl6 (Dat.mono hG78 hD7)) z z fun wd88 hI89=>nl<|hK84 _ _ _<|dC (y90 = true) (fun h91=>?_) fun h91=>?_
 refine yK h91 H fun H=>wt (vY h91)<|ws<|hK82 _ _ _<|sQ fun K92 hK93=>bK H fun v94 hC H=>?_
 refine wpc_mono (Q := fun e r ds w => e = .normal ∧ ∃ (A95 : Option Addr) (c96 : Nat) (G101 : Gh), ds = [] ∧ G77 ≤ G101 ∧ Has [(3, pointer (some ⟨g17, 0, none⟩)), (4, pointer (some ⟨g21, 0, none⟩)), (7, slice A95 v94.length c96), (8, int .i64 (-1)), (9, func (.func 178) [].toArray [pointer (some ⟨g21, 0, none⟩), pointer (some ⟨g17, 0, none⟩)].toArray)] r ∧ Hp G101 (bx g21 [int .i64 v50] 3 :: bx g17 [int .i64 a1, int .i64 a2, slice A4 a3.length c5, string a8, Value.map (some g10)] 147 :: mpI g10 string bool a11 :: tk (slice A95 v94.length c96) 1 5 :: L) w ∧ v94.length ≤ c96 ∧ Dat (Kd.int .u8) G101 A95 v94 ∧ Own A95 c96 ∧ True) ?_ ?_
 refine have H:=hC;wb<|sr fun K106 hK107=>fa fl147_1 z<|ld hI89 1 ag9 z z z<|ld hI89 0 ag3 z z z<|iK H fun⟨h108, h108'⟩H=>q_is so9 z z h108 h108' z<|q_neq z z<|nl<|hK107 _ _ _<|dC (¬ (bt a8 v50) = 126) (fun h109=>?_) fun h109=>?_
 refine yK h109 H fun H=>wt (bY h109)<|wpc_region<|mv z<|fa fl147_1 z<|ld hI89 1 ag9 z z z<|ld hI89 0 ag3 z z z<|iK H fun⟨h110, h110'⟩H=>q_is so9 z z h110 h110' z<|?_
 refine q_bs hI89 (vs := [(0, int .u8 (bt a8 v50))]) (cs := [int .u8 (bt a8 v50)]) el133 ze5 rfl (by decide) rfl rfl (fun g112 wd113 hI114 => ?_)
 refine iK H fun h124 H=>?_
 refine q_app (xs := v43) (ys := [bt a8 v50]) (Kd.int .u8) hI114 4 el133 ze5 rfl rfl rfl rfl ho48 hl46 hD47 (src_bx hI114 0 so133 rfl rfl) ⟨[int .u8 (bt a8 v50)], _, rfl, rfl, rfl⟩ rfl (by simp only [List.length_cons, List.length_nil]; omega) (by simp only [List.length_cons, List.length_nil]; omega) (fun A115 c116 G117 wd118 hG119 ho120 hl121 hD122 hI123 => ?_)
 refine asn z<|nl<|have hI129:=Hp.pick 5 [1, 2, 3, 4] hI123 z;?_
 cases H
 exact ⟨z, A115, c116, _, z, hG119, ⟨z, z, z, z, z, tv⟩, hI129, hl121, hD122, ho120, tv⟩
 refine nK h109 H fun H=>wf (bN h109)<|ws<|?_
 cases H
 exact ⟨z, A44, c45, _, z, gR, ⟨z, z, z, z, z, tv⟩, hI89, hl46, hD47, ho48, tv⟩
 rintro e r ds wd103 ⟨rfl, A95, c96, G101, rfl, hG102, hHas, hI104, hl97, hD98, ho99, _⟩
 rw [hHas.eq]; clear hHas
 exact hK93 _ _ _<|wpc_region<|ld hI104 0 ag3 z z z<|mv z<|q_add z z<|stk hI104 0 ag3 z z z z z z z fun wd130 hI131=>nl<|ih _ _ _ H A95 c96 _ _ _ (gT hG78 hG102) ⟨z, z, z, z, z, tv⟩ hI131 hl97 hD98 ho99 z
 refine nK h91 H fun H=>wf (vN h91)<|wx<|?_
 cases H
 exact ⟨z, A44, c45, _, z, hG78, ⟨z, tv⟩, hI89, hl46, hD47, ho48, tv⟩
 rintro e r ds wd74 ⟨rfl, A65, c66, G72, rfl, hG73, hHas, hI75, hl67, hD68, ho69, _⟩
 rw [hHas.eq]; clear hHas
 refine hK38 _ _ _<|sr fun K137 hK138=>mv z<|q_cvb hI75 el133 ik5 so9 z z hD68<|asn z<|nl<|hK138 _ _ _<|wr<|have hI140:=Hp.pick 4 [2] hI75 z;?_
 cases H
 exact rt ⟨_, _, z, z, z⟩ (Hp.low hG73 hI140)
 refine nK h32 H fun H=>wf (vN h32)<|ws<|hK29 _ _ _<|sr fun K141 hK142=>q_fn (vs := []) (us := [pointer (some ⟨g21, 0, none⟩), pointer (some ⟨g17, 0, none⟩)]) z z<|asn z<|nl<|hK142 _ _ _<|sQ fun K143 hK144=>wb<|bK2 H fun v170 v177 hC H=>?_
 refine wpc_mono (Q := fun e r ds w => e = .exit 0 ∧ ∃ (A171 : Option Addr) (c172 : Nat) (G178 : Gh), ds = [] ∧ G ≤ G178 ∧ Has [(7, slice A171 v170.length c172)] r ∧ Hp G178 (bx g21 [int .i64 v177] 3 :: bx g17 [int .i64 a1, int .i64 a2, slice A4 a3.length c5, string a8, Value.map (some g10)] 147 :: mpI g10 string bool a11 :: tk (slice A171 v170.length c172) 1 5 :: L) w ∧ v170.length ≤ c172 ∧ Dat (Kd.int .u8) G178 A171 v170 ∧ Own A171 c172 ∧ True) ?_ ?_
 refine have hI238:=Hp.emp hI23;have hI242:=Hp.pick 4 [1, 2, 3, 0] hI238 z;wpc_loop fun I hLp=>?_
 refine breaks_ruled_letters_k1_l169.partial_correctness a1 a2 a3 a8 a11 (fun v149 v156 o => ∀ (A150 : Option Addr) (c151 : Nat) (G183 : Gh) (r : Rg) (w : World), G ≤ G183 → Has [(3, pointer (some ⟨g17, 0, none⟩)), (4, pointer (some ⟨g21, 0, none⟩)), (7, slice A150 v149.length c151), (8, int .i64 1), (9, func (.func 178) [].toArray [pointer (some ⟨g21, 0, none⟩), pointer (some ⟨g17, 0, none⟩)].toArray)] r → Hp G183 (bx g21 [int .i64 v156] 3 :: bx g17 [int .i64 a1, int .i64 a2, slice A4 a3.length c5, string a8, Value.map (some g10)] 147 :: mpI g10 string bool a11 :: tk (slice A150 v149.length c151) 1 5 :: L) w → v149.length ≤ c151 → Dat (Kd.int .u8) G183 A150 v149 → Own A150 c151 → o = (v170, v177) → I r [] w) ?_ ([] : List Int) a12 _ hC none 0 _ _ _ gR ⟨rfl, rfl, rfl, rfl, rfl, tv⟩ hI242 (show ([] : List Int).length ≤ 0 from Nat.le_refl 0) (Dat.nil _ _ _) Own.nil rfl
 intro _ ih v149 v156 o H A150 c151 G183 r wd185 hG184 hHas hI186 hl152 hD153 ho154 ho
 rw [ho] at H; clear ho
 rw [hHas.eq]; clear hHas
 refine hLp _ _ _<|sQ fun K187 hK188=>sr fun K189 hK190=>mv z<|bK H fun y196 hy191 H=>cv bo178 (breaks_ruled_letters_1_k1_spec hy191 hI186 hl6 (Dat.mono hG184 hD7)) z z fun wd194 hI195=>nl<|hK190 _ _ _<|dC (y196 = true) (fun h197=>?_) fun h197=>?_
 refine yK h197 H fun H=>wt (vY h197)<|ws<|hK188 _ _ _<|sQ fun K198 hK199=>bK H fun v200 hC H=>?_
 refine wpc_mono (Q := fun e r ds w => e = .normal ∧ ∃ (A201 : Option Addr) (c202 : Nat) (G207 : Gh), ds = [] ∧ G183 ≤ G207 ∧ Has [(3, pointer (some ⟨g17, 0, none⟩)), (4, pointer (some ⟨g21, 0, none⟩)), (7, slice A201 v200.length c202), (8, int .i64 1), (9, func (.func 178) [].toArray [pointer (some ⟨g21, 0, none⟩), pointer (some ⟨g17, 0, none⟩)].toArray)] r ∧ Hp G207 (bx g21 [int .i64 v156] 3 :: bx g17 [int .i64 a1, int .i64 a2, slice A4 a3.length c5, string a8, Value.map (some g10)] 147 :: mpI g10 string bool a11 :: tk (slice A201 v200.length c202) 1 5 :: L) w ∧ v200.length ≤ c202 ∧ Dat (Kd.int .u8) G207 A201 v200 ∧ Own A201 c202 ∧ True) ?_ ?_
 refine have H:=hC;wb<|sr fun K212 hK213=>fa fl147_1 z<|ld hI195 1 ag9 z z z<|ld hI195 0 ag3 z z z<|iK H fun⟨h214, h214'⟩H=>q_is so9 z z h214 h214' z<|q_neq z z<|nl<|hK213 _ _ _<|dC (¬ (bt a8 v156) = 126) (fun h215=>?_) fun h215=>?_
 refine yK h215 H fun H=>wt (bY h215)<|wpc_region<|mv z<|fa fl147_1 z<|ld hI195 1 ag9 z z z<|ld hI195 0 ag3 z z z<|iK H fun⟨h216, h216'⟩H=>q_is so9 z z h216 h216' z<|?_
 refine q_bs hI195 (vs := [(0, int .u8 (bt a8 v156))]) (cs := [int .u8 (bt a8 v156)]) el133 ze5 rfl (by decide) rfl rfl (fun g218 wd219 hI220 => ?_)
 refine iK H fun h230 H=>?_
 refine q_app (xs := v149) (ys := [bt a8 v156]) (Kd.int .u8) hI220 4 el133 ze5 rfl rfl rfl rfl ho154 hl152 hD153 (src_bx hI220 0 so133 rfl rfl) ⟨[int .u8 (bt a8 v156)], _, rfl, rfl, rfl⟩ rfl (by simp only [List.length_cons, List.length_nil]; omega) (by simp only [List.length_cons, List.length_nil]; omega) (fun A221 c222 G223 wd224 hG225 ho226 hl227 hD228 hI229 => ?_)
 refine asn z<|nl<|have hI235:=Hp.pick 5 [1, 2, 3, 4] hI229 z;?_
 cases H
 exact ⟨z, A221, c222, _, z, hG225, ⟨z, z, z, z, z, tv⟩, hI235, hl227, hD228, ho226, tv⟩
 refine nK h215 H fun H=>wf (bN h215)<|ws<|?_
 cases H
 exact ⟨z, A150, c151, _, z, gR, ⟨z, z, z, z, z, tv⟩, hI195, hl152, hD153, ho154, tv⟩
 rintro e r ds wd209 ⟨rfl, A201, c202, G207, rfl, hG208, hHas, hI210, hl203, hD204, ho205, _⟩
 rw [hHas.eq]; clear hHas
 exact hK199 _ _ _<|wpc_region<|ld hI210 0 ag3 z z z<|mv z<|q_add z z<|stk hI210 0 ag3 z z z z z z z fun wd236 hI237=>nl<|ih _ _ _ H A201 c202 _ _ _ (gT hG184 hG208) ⟨z, z, z, z, z, tv⟩ hI237 hl203 hD204 ho205 z
 refine nK h197 H fun H=>wf (vN h197)<|wx<|?_
 cases H
 exact ⟨z, A150, c151, _, z, hG184, ⟨z, tv⟩, hI195, hl152, hD153, ho154, tv⟩
 rintro e r ds wd180 ⟨rfl, A171, c172, G178, rfl, hG179, hHas, hI181, hl173, hD174, ho175, _⟩
 rw [hHas.eq]; clear hHas
 refine hK144 _ _ _<|sr fun K243 hK244=>mv z<|q_cvb hI181 el133 ik5 so9 z z hD174<|asn z<|nl<|hK244 _ _ _<|wr<|have hI246:=Hp.pick 4 [2] hI181 z;?_
 cases H
 exact rt ⟨_, _, z, z, z⟩ (Hp.low hG179 hI246)
theorem breaks_ruled_soft_k1_spec {a1 a2 a3 a8} {a11 : List (ByteArray × Bool)} {a12 A4 c5 g10 r1013 G L w} (H : breaks_ruled_soft_k1 a1 a2 a3 a8 a11 a12 = some r1013) (hI : Hp G (mpI g10 string bool a11 :: L) w) (hl6 : a3.length ≤ c5) (hD7 : Dat Kd.str G A4 a3) :
    Calls Tryz.prog 131 [agg [int .i64 a1, int .i64 a2, slice A4 a3.length c5, string a8, Value.map (some g10)].toArray, int .i64 a12].toArray w fun e w' => Hp G (mpI g10 string bool a11 :: L) w' ∧ e = .returned (bool r1013) := by
 refine calls_intro (N := 50) Tryz.func131 z z (Nat.le_of_ble_eq_true z)<|?_
 unfold breaks_ruled_soft_k1 at H
 refine sr fun K13 hK14=>bxk hI z z fun g16 wd17 hI18=>asn z<|nl<|hK14 _ _ _<|sQ fun K19 hK20=>?_
 refine wpc_class hI18 mixo (by kernel_rfl) ?_
 refine wq' (fun Gq w hGq Iq=>lda Iq 0 ag147 z z z z wqd) z z<|wq' (fun Gq w hGq Iq=>mv z wqd) z z<|wq' (fun Gq w hGq Iq=>q_sub z z wqd) z z<|bK H fun y28 hy27 H=>wk (vs := [agg [int .i64 a1, int .i64 a2, slice A4 a3.length c5, string a8, Value.map (some g10)].toArray, int .i64 (w64 (a12 - 1)), bool true]) (v := string y28) bo163 z z (fun Gq w hGq Iq => ?_) ?_
 refine have hI26:=Hp.pick 2 [1, 0] Iq z;Calls.mono (breaks_ruled_letters_k1_spec hy27 hI26 hl6 (Dat.mono hGq hD7))<|?_
 rintro _ w2 ⟨I2, rfl⟩
 exact have hI29:=Hp.pick 2 [1, 0] I2 z;⟨z, _, hGq, hI29⟩
 refine wq' (fun Gq w hGq Iq=>lda Iq 0 ag147 z z z z wqd) z z<|wq' (fun Gq w hGq Iq=>mv z wqd) z z<|bK H fun y32 hy31 H=>wk (vs := [agg [int .i64 a1, int .i64 a2, slice A4 a3.length c5, string a8, Value.map (some g10)].toArray, int .i64 a12, bool false]) (v := string y32) bo163 z z (fun Gq w hGq Iq => ?_) ?_
 refine have hI30:=Hp.pick 2 [1, 0] Iq z;Calls.mono (breaks_ruled_letters_k1_spec hy31 hI30 hl6 (Dat.mono hGq hD7))<|?_
 rintro _ w2 ⟨I2, rfl⟩
 exact have hI33:=Hp.pick 2 [1, 0] I2 z;⟨z, _, hGq, hI33⟩
 refine wq' (fun Gq w hGq Iq=>asn z wqd) z z<|wq' (fun Gq w hGq Iq=>asn z wqd) z z<|wz fun wd24 G22 hG23 hI25=>hK20 _ _ _<|sQ fun K34 hK35=>sr fun K36 hK37=>mv z<|q_lss z z<|mv z<|bK H fun v38 hC H=>js 8 hI25 [(2, pointer (some ⟨g16, 0, none⟩)), (5, string y28), (6, string y32), (24, bool v38)] ?_ fun _ wd41 hI42=>?_
 refine have H:=hC;dC (a12 < 2) (fun h44=>?_) fun h44=>?_
 refine yK h44 H fun H=>Sk 7 z z (bY h44) z<|pkt (bY h44) z<|nl<|?_
 cases H
 exact je ⟨z, z, z, z, tv⟩ hI25
 refine nK h44 H fun H=>fa (hw:=gY z z z (bN h44)) fl147_1 z<|ld (hw:=gY z z z (bN h44)) hI25 0 ag9 z z z<|mv (hw:=gY z z z (bN h44)) z<|q_sub (hw:=gY z z z (bN h44)) z z<|iK H fun⟨h45, h45'⟩H=>q_is (hw:=gY z z z (bN h44)) so9 z z h45 h45' z<|bK H fun y51 hy46 H=>cv (hw:=gY z z z (bN h44)) bo162 (breaks_letter_spec hy46 hI25) z z fun wd49 hI50=>q_not (hw:=gY z z z (bN h44)) z<|pkf (bN h44) z<|nl<|?_
 cases H
 exact je ⟨z, z, z, z, tv⟩ hI50
 refine mv z<|bK H fun v52 hC H=>js 7 hI42 [(2, pointer (some ⟨g16, 0, none⟩)), (5, string y28), (6, string y32), (32, bool v52)] ?_ fun _ wd55 hI56=>?_
 refine have H:=hC;dC (v38 = true) (fun h58=>?_) fun h58=>?_
 refine yK h58 H fun H=>Sk 6 z z (vY h58) z<|pkt (vY h58) z<|nl<|?_
 cases H
 exact je ⟨z, z, z, z, tv⟩ hI42
 refine nK h58 H fun H=>mv (hw:=gY z z z (vN h58)) z<|q_lens (hw:=gY z z z (vN h58)) so9 z<|fa (hw:=gY z z z (vN h58)) fl147_0 z<|fa (hw:=gY z z z (vN h58)) fl28_0 z<|ld (hw:=gY z z z (vN h58)) hI42 0 ag3 z z z<|q_lss (hw:=gY z z z (vN h58)) z z<|pkf (vN h58) z<|nl<|?_
 cases H
 exact je ⟨z, z, z, z, tv⟩ hI42
 refine mv z<|bK H fun v59 hC H=>js 7 hI56 [(2, pointer (some ⟨g16, 0, none⟩)), (5, string y28), (6, string y32), (40, bool v59)] ?_ fun _ wd62 hI63=>?_
 refine have H:=hC;dC (v52 = true) (fun h65=>?_) fun h65=>?_
 refine yK h65 H fun H=>Sk 6 z z (vY h65) z<|pkt (vY h65) z<|nl<|?_
 cases H
 exact je ⟨z, z, z, z, tv⟩ hI56
 refine nK h65 H fun H=>mv (hw:=gY z z z (vN h65)) z<|q_lens (hw:=gY z z z (vN h65)) so9 z<|fa (hw:=gY z z z (vN h65)) fl147_0 z<|fa (hw:=gY z z z (vN h65)) fl28_1 z<|ld (hw:=gY z z z (vN h65)) hI56 0 ag3 z z z<|q_lss (hw:=gY z z z (vN h65)) z z<|pkf (vN h65) z<|nl<|?_
 cases H
 exact je ⟨z, z, z, z, tv⟩ hI56
 refine nl<|hK37 _ _ _<|dC (v59 = true) (fun h66=>?_) fun h66=>?_
 refine yK h66 H fun H=>wt (vY h66)<|sr fun K67 hK68=>asn z<|nl<|hK68 _ _ _<|wr<|have hI70:=Hp.pick 2 [1] hI63 z;?_
 cases H
 exact rt ⟨_, _, z, z, z⟩ (Hp.low hG23 hI70)
 refine nK h66 H fun H=>wf (vN h66)<|ws<|hK35 _ _ _<|sQ fun K71 hK72=>?_
 refine wpc_quiet mixo (by kernel_rfl) ?_
 refine have hI73:=hI63.drew;wq (fa fl147_2 z wqd) z<|wq (ld hI73 0 ag145 z z z wqd) z<|wq (mv z wqd) z<|iK H fun⟨h75, h76⟩H=>wq (q_ss (l := 0) (h := 1) so9 z (.inl ⟨z, z⟩) (.inr ⟨_, z, z⟩) (Int.le_refl 0) h75 h76 wqd) z<|wq (mv z wqd) z<|iK H fun⟨h78, h79⟩H=>wq (q_ss (l := 0) (h := 1) so9 z (.inl ⟨z, z⟩) (.inr ⟨_, z, z⟩) (Int.le_refl 0) h78 h79 wqd) z<|iK H fun h80 H=>wq (q_str_add z z h80 wqd) z<|wq (q_mlk (zv := false) hI73 1 mt145 (ky_str so9) zv4 z z z wqd) z<|wq (q_not z wqd) z<|wq (asn z wqd) z<|?_
 refine wqq_nil<|hK72 _ _ _<|wr<|have hI82:=Hp.pick 2 [1] hI73 z;?_
 cases H
 exact rt ⟨_, _, z, z, z⟩ (Hp.low hG23 hI82)
theorem breaks_ruled_places_1_k1_spec {σ : Type} {St : σ → Gh → List Itm → Prop} {yl} {φ : σ → api_Break → Option (σ × Bool)} {sy : σ} {a3 a4 a5 a10} {a13 : List (ByteArray × Bool)} {g2 A6 c7 g12} {ry : σ} {G T w} (H : breaks_ruled_places_1_k1 φ sy a3 a4 a5 a10 a13 = some ry) (hI : Hp G (bx g2 [int .i64 a3, int .i64 a4, slice A6 a5.length c7, string a10, Value.map (some g12)] 147 :: mpI g12 string bool a13 :: T) w) (hl8 : a5.length ≤ c7) (hD9 : Dat Kd.str G A6 a5) (hy : Yl Tryz.prog φ (encS k_api_Break) St yl) (hS : St sy G T) :
    Calls Tryz.prog 129 [func (.yield yl) #[] #[], pointer (some ⟨g2, 0, none⟩)].toArray w fun e w' => ∃ (T' : List Itm) (G' : Gh), G ≤ G' ∧ Hp G' (bx g2 [int .i64 a3, int .i64 a4, slice A6 a5.length c7, string a10, Value.map (some g12)] 147 :: mpI g12 string bool a13 :: T') w' ∧ St ry G' T' ∧ e = .returned (tuple [].toArray) := by
 refine calls_intro (N := 75) Tryz.func129 z z (Nat.le_of_ble_eq_true z)<|?_
 unfold breaks_ruled_places_1_k1 at H
 refine sr fun K14 hK15=>asn z<|nl<|hK15 _ _ _<|sr fun K16 hK17=>asn z<|nl<|hK17 _ _ _<|wb<|bK H fun o51 hC H=>?_
 refine wpc_mono (Q := fun e r ds w => match (generalizing := false) o51 with | (Sum.inl v38) => e = .ret ∧ ∃ (T37 : List Itm) (G43 : Gh), ds = [] ∧ G ≤ G43 ∧ Has [] r ∧ Hp G43 (bx g2 [int .i64 a3, int .i64 a4, slice A6 a5.length c7, string a10, Value.map (some g12)] 147 :: mpI g12 string bool a13 :: T37) w ∧ St v38 G43 T37 ∧ True | (Sum.inr v41) => e = .exit 0 ∧ ∃ (T40 : List Itm) (G47 : Gh), ds = [] ∧ G ≤ G47 ∧ Has [] r ∧ Hp G47 (bx g2 [int .i64 a3, int .i64 a4, slice A6 a5.length c7, string a10, Value.map (some g12)] 147 :: mpI g12 string bool a13 :: T40) w ∧ St v41 G47 T40 ∧ True) ?_ ?_
 refine wpc_loop fun I hLp=>?_
 refine breaks_ruled_places_1_k1_l36.partial_correctness φ a3 a4 a5 a10 a13 (fun v22 v23 v25 o => ∀ (T24 : List Itm) (G52 : Gh) (r : Rg) (w : World), G ≤ G52 → Has [(0, func (.yield yl) #[] #[]), (1, pointer (some ⟨g2, 0, none⟩)), (3, bool v22), (4, int .i64 v23)] r → Hp G52 (bx g2 [int .i64 a3, int .i64 a4, slice A6 a5.length c7, string a10, Value.map (some g12)] 147 :: mpI g12 string bool a13 :: T24) w → St v25 G52 T24 → o = o51 → I r [] w) ?_ false 1 sy _ hC T _ _ _ gR ⟨rfl, rfl, rfl, rfl, tv⟩ hI hS rfl
 intro _ ih v22 v23 v25 o H T24 G52 r wd54 hG53 hHas hI55 hS26 ho
 rw [ho] at H; clear ho
 rw [hHas.eq]; clear hHas
 refine hLp _ _ _<|sQ fun K56 hK57=>sr fun K58 hK59=>mv z<|fa fl147_1 z<|ld hI55 0 ag9 z z z<|q_lens so9 z<|q_lss z z<|nl<|hK59 _ _ _<|dC (v23 < (a10.size : Int)) (fun h60=>?_) fun h60=>?_
 refine yK h60 H fun H=>wt (bY h60)<|ws<|hK57 _ _ _<|sQ fun K61 hK62=>bK H fun o78 hC H=>?_
 refine wpc_mono (Q := fun e r ds w => match (generalizing := false) o78 with | (Sum.inl v64) => e = .ret ∧ ∃ (T63 : List Itm) (G70 : Gh), ds = [] ∧ G52 ≤ G70 ∧ Has [] r ∧ Hp G70 (bx g2 [int .i64 a3, int .i64 a4, slice A6 a5.length c7, string a10, Value.map (some g12)] 147 :: mpI g12 string bool a13 :: T63) w ∧ St v64 G70 T63 ∧ True | (Sum.inr (v66, v68)) => e = .normal ∧ ∃ (T67 : List Itm) (G74 : Gh), ds = [] ∧ G52 ≤ G74 ∧ Has [(0, func (.yield yl) #[] #[]), (1, pointer (some ⟨g2, 0, none⟩)), (3, bool v66), (4, int .i64 v23)] r ∧ Hp G74 (bx g2 [int .i64 a3, int .i64 a4, slice A6 a5.length c7, string a10, Value.map (some g12)] 147 :: mpI g12 string bool a13 :: T67) w ∧ St v68 G74 T67 ∧ True) ?_ ?_
 refine have H:=hC;wb<|sr fun K79 hK80=>mv z<|mv z<|bK H fun v81 hC H=>js 7 hI55 [(0, func (.yield yl) #[] #[]), (1, pointer (some ⟨g2, 0, none⟩)), (4, int .i64 v23), (21, bool v81)] ?_ fun _ wd84 hI85=>?_
 refine have H:=hC;dC (v22 = true) (fun h87=>?_) fun h87=>?_
 refine yK h87 H fun H=>Sk 6 z z (vY h87) z<|pkt (vY h87) z<|nl<|?_
 cases H
 exact je ⟨z, z, z, z, tv⟩ hI55
 refine nK h87 H fun H=>fa (hw:=gY z z z (vN h87)) fl147_1 z<|ld (hw:=gY z z z (vN h87)) hI55 0 ag9 z z z<|mv (hw:=gY z z z (vN h87)) z<|q_sub (hw:=gY z z z (vN h87)) z z<|iK H fun⟨h88, h88'⟩H=>q_is (hw:=gY z z z (vN h87)) so9 z z h88 h88' z<|q_neq (hw:=gY z z z (vN h87)) z z<|pkf (vN h87) z<|nl<|?_
 cases H
 exact je ⟨z, z, z, z, tv⟩ hI55
 refine asn z<|nl<|hK80 _ _ _<|sr fun K89 hK90=>asn z<|nl<|hK90 _ _ _<|sQ fun K91 hK92=>sr fun K93 hK94=>fa fl147_1 z<|ld hI85 0 ag9 z z z<|mv z<|q_sub z z<|iK H fun⟨h95, h95'⟩H=>?_
 refine q_is so9 z z h95 h95' z<|nl<|hK94 _ _ _<|wb<|sr fun K96 hK97=>q_eql z z<|asn z<|nl<|hK97 _ _ _<|dC ((bt a10 (w64 (v23 - 1))) = 32) (fun h98=>?_) fun h98=>?_
 refine yK h98 H fun H=>wt (bY h98)<|wpc_region<|mv z<|mv z<|bK H fun v99 hC H=>js 6 hI85 [(0, func (.yield yl) #[] #[]), (1, pointer (some ⟨g2, 0, none⟩)), (3, bool v81), (4, int .i64 v23), (36, bool v99)] ?_ fun _ wd102 hI103=>?_
 refine have H:=hC;dC (v81 = true) (fun h105=>?_) fun h105=>?_
 refine yK h105 H fun H=>fa (hw:=gY z z z (vY h105)) fl147_1 z<|ld (hw:=gY z z z (vY h105)) hI85 0 ag9 z z z<|mv (hw:=gY z z z (vY h105)) z<|iK H fun⟨h106, h106'⟩H=>q_is (hw:=gY z z z (vY h105)) so9 z z h106 h106' z<|q_neq (hw:=gY z z z (vY h105)) z z<|pkt (vY h105) z<|nl<|?_
 cases H
 exact je ⟨z, z, z, z, z, tv⟩ hI85
 refine nK h105 H fun H=>Sk 5 z z (vN h105) z<|pkf (vN h105) z<|nl<|?_
 cases H
 exact je ⟨z, z, z, z, z, tv⟩ hI85
 refine asn z<|nl<|hK92 _ _ _<|sr fun K107 hK108=>mv z<|mv z<|bK2 H fun v109 v111 hC H=>?_
 refine wpq_split 12 (K := fun e r ds w => e = .normal ∧ ∃ (T110 : List Itm) (G113 : Gh), ds = [] ∧ G52 ≤ G113 ∧ Has [(0, func (.yield yl) #[] #[]), (1, pointer (some ⟨g2, 0, none⟩)), (3, bool v81), (4, int .i64 v23), (74, bool v109)] r ∧ Hp G113 (bx g2 [int .i64 a3, int .i64 a4, slice A6 a5.length c7, string a10, Value.map (some g12)] 147 :: mpI g12 string bool a13 :: T110) w ∧ St v111 G113 T110 ∧ True) ?_ ?_
 refine have H:=hC;dC (v99 = true) (fun h118=>?_) fun h118=>?_
 refine yK h118 H fun H=>mv (hw:=gY z z z (vY h118)) z<|mv (hw:=gY z z z (vY h118)) z<|fa (hw:=gY z z z (vY h118)) fl147_1 z<|ld (hw:=gY z z z (vY h118)) hI103 0 ag9 z z z<|mv (hw:=gY z z z (vY h118)) z<|q_sub (hw:=gY z z z (vY h118)) z z<|iK H fun⟨h119, h119'⟩H=>q_is (hw:=gY z z z (vY h118)) so9 z z h119 h119' z<|q_eql (hw:=gY z z z (vY h118)) z z<|q_build (hw:=gY z z z (vY h118)) (vs := [(0, int .i64 v23), (1, bool (decide ((bt a10 (w64 (v23 - 1))) = 126)))]) (cs := [int .i64 v23, bool (decide ((bt a10 (w64 (v23 - 1))) = 126))]) ze114 pl114 z z<|bK2 H fun s120 b121 hx122 H=>q_yl (hw:=gY z z z (vY h118)) hy [bx g2 [int .i64 a3, int .i64 a4, slice A6 a5.length c7, string a10, Value.map (some g12)] 147, mpI g12 string bool a13] hI103 hS26 z z ⟨_, z, (mk_api_Break (x := (⟨v23, decide ((bt a10 (w64 (v23 - 1))) = 126)⟩ : api_Break)))⟩ hx122 fun wd123 G124 T125 hG126 hS127 hI128=>q_not (hw:=gY z z z (vY h118)) z<|?_
 refine pkt (vY h118) z<|nl<|?_
 cases H
 exact ⟨z, T125, _, z, hG126, ⟨z, z, z, z, z, tv⟩, hI128, hS127, tv⟩
 refine nK h118 H fun H=>Sk 11 z z (vN h118) z<|pkf (vN h118) z<|nl<|?_
 cases H
 exact ⟨z, T24, _, z, gR, ⟨z, z, z, z, z, tv⟩, hI103, hS26, tv⟩
 rintro e r ds wd115 ⟨rfl, T110, G113, rfl, hG114, hHas, hI116, hS112, _⟩
 rw [hHas.eq]; clear hHas
 refine nl<|hK108 _ _ _<|dC (v109 = true) (fun h129=>?_) fun h129=>?_
 refine yK h129 H fun H=>wt (vY h129)<|wr<|?_
 cases H
 exact ⟨z, T110, _, z, hG114, trivial, hI116, hS112, tv⟩
 refine nK h129 H fun H=>wf (vN h129)<|ws<|?_
 cases H
 exact ⟨z, T110, _, z, hG114, ⟨z, z, z, z, tv⟩, hI116, hS112, tv⟩
 refine nK h98 H fun H=>wf (bN h98)<|sr fun K130 hK131=>q_eql z z<|asn z<|nl<|hK131 _ _ _<|dC ((bt a10 (w64 (v23 - 1))) = 45) (fun h132=>?_) fun h132=>?_
 refine yK h132 H fun H=>wt (bY h132)<|wpc_region<|mv z<|q_gtr z z<|mv z<|bK H fun v133 hC H=>js 7 hI85 [(0, func (.yield yl) #[] #[]), (1, pointer (some ⟨g2, 0, none⟩)), (3, bool v81), (4, int .i64 v23), (48, bool v133)] ?_ fun _ wd136 hI137=>?_
 refine have H:=hC;dC (1 < v23) (fun h139=>?_) fun h139=>?_
 refine yK h139 H fun H=>fa (hw:=gY z z z (bY h139)) fl147_1 z<|ld (hw:=gY z z z (bY h139)) hI85 0 ag9 z z z<|mv (hw:=gY z z z (bY h139)) z<|q_sub (hw:=gY z z z (bY h139)) z z<|iK H fun⟨h140, h140'⟩H=>q_is (hw:=gY z z z (bY h139)) so9 z z h140 h140' z<|bK H fun y146 hy141 H=>cv (hw:=gY z z z (bY h139)) bo130 (breaks_solid_spec hy141 hI85) z z fun wd144 hI145=>pkt (bY h139) z<|nl<|?_
 cases H
 exact je ⟨z, z, z, z, z, tv⟩ hI145
 refine nK h139 H fun H=>Sk 6 z z (bN h139) z<|pkf (bN h139) z<|nl<|?_
 cases H
 exact je ⟨z, z, z, z, z, tv⟩ hI85
 refine mv z<|bK H fun v147 hC H=>js 6 hI137 [(0, func (.yield yl) #[] #[]), (1, pointer (some ⟨g2, 0, none⟩)), (3, bool v81), (4, int .i64 v23), (55, bool v147)] ?_ fun _ wd150 hI151=>?_
 refine have H:=hC;dC (v133 = true) (fun h153=>?_) fun h153=>?_
 refine yK h153 H fun H=>fa (hw:=gY z z z (vY h153)) fl147_1 z<|ld (hw:=gY z z z (vY h153)) hI137 0 ag9 z z z<|mv (hw:=gY z z z (vY h153)) z<|iK H fun⟨h154, h154'⟩H=>q_is (hw:=gY z z z (vY h153)) so9 z z h154 h154' z<|bK H fun y160 hy155 H=>cv (hw:=gY z z z (vY h153)) bo130 (breaks_solid_spec hy155 hI137) z z fun wd158 hI159=>pkt (vY h153) z<|nl<|?_
 cases H
 exact je ⟨z, z, z, z, z, tv⟩ hI159
 refine nK h153 H fun H=>Sk 5 z z (vN h153) z<|pkf (vN h153) z<|nl<|?_
 cases H
 exact je ⟨z, z, z, z, z, tv⟩ hI137
 refine asn z<|nl<|hK92 _ _ _<|sr fun K161 hK162=>mv z<|mv z<|bK2 H fun v163 v165 hC H=>?_
 refine wpq_split 12 (K := fun e r ds w => e = .normal ∧ ∃ (T164 : List Itm) (G167 : Gh), ds = [] ∧ G52 ≤ G167 ∧ Has [(0, func (.yield yl) #[] #[]), (1, pointer (some ⟨g2, 0, none⟩)), (3, bool v81), (4, int .i64 v23), (74, bool v163)] r ∧ Hp G167 (bx g2 [int .i64 a3, int .i64 a4, slice A6 a5.length c7, string a10, Value.map (some g12)] 147 :: mpI g12 string bool a13 :: T164) w ∧ St v165 G167 T164 ∧ True) ?_ ?_
 refine have H:=hC;dC (v147 = true) (fun h172=>?_) fun h172=>?_
 refine yK h172 H fun H=>mv (hw:=gY z z z (vY h172)) z<|mv (hw:=gY z z z (vY h172)) z<|fa (hw:=gY z z z (vY h172)) fl147_1 z<|ld (hw:=gY z z z (vY h172)) hI151 0 ag9 z z z<|mv (hw:=gY z z z (vY h172)) z<|q_sub (hw:=gY z z z (vY h172)) z z<|iK H fun⟨h173, h173'⟩H=>q_is (hw:=gY z z z (vY h172)) so9 z z h173 h173' z<|q_eql (hw:=gY z z z (vY h172)) z z<|q_build (hw:=gY z z z (vY h172)) (vs := [(0, int .i64 v23), (1, bool (decide ((bt a10 (w64 (v23 - 1))) = 126)))]) (cs := [int .i64 v23, bool (decide ((bt a10 (w64 (v23 - 1))) = 126))]) ze114 pl114 z z<|bK2 H fun s174 b175 hx176 H=>q_yl (hw:=gY z z z (vY h172)) hy [bx g2 [int .i64 a3, int .i64 a4, slice A6 a5.length c7, string a10, Value.map (some g12)] 147, mpI g12 string bool a13] hI151 hS26 z z ⟨_, z, (mk_api_Break (x := (⟨v23, decide ((bt a10 (w64 (v23 - 1))) = 126)⟩ : api_Break)))⟩ hx176 fun wd177 G178 T179 hG180 hS181 hI182=>q_not (hw:=gY z z z (vY h172)) z<|?_
 refine pkt (vY h172) z<|nl<|?_
 cases H
 exact ⟨z, T179, _, z, hG180, ⟨z, z, z, z, z, tv⟩, hI182, hS181, tv⟩
 refine nK h172 H fun H=>Sk 11 z z (vN h172) z<|pkf (vN h172) z<|nl<|?_
 cases H
 exact ⟨z, T24, _, z, gR, ⟨z, z, z, z, z, tv⟩, hI151, hS26, tv⟩
 rintro e r ds wd169 ⟨rfl, T164, G167, rfl, hG168, hHas, hI170, hS166, _⟩
 rw [hHas.eq]; clear hHas
 refine nl<|hK162 _ _ _<|dC (v163 = true) (fun h183=>?_) fun h183=>?_
 refine yK h183 H fun H=>wt (vY h183)<|wr<|?_
 cases H
 exact ⟨z, T164, _, z, hG168, trivial, hI170, hS166, tv⟩
 refine nK h183 H fun H=>wf (vN h183)<|ws<|?_
 cases H
 exact ⟨z, T164, _, z, hG168, ⟨z, z, z, z, tv⟩, hI170, hS166, tv⟩
 refine nK h132 H fun H=>wf (bN h132)<|sr fun K184 hK185=>q_eql z z<|asn z<|nl<|hK185 _ _ _<|dC ((bt a10 (w64 (v23 - 1))) = 126) (fun h186=>?_) fun h186=>?_
 refine yK h186 H fun H=>wt (bY h186)<|wpc_region<|lda hI85 0 ag147 z z z z<|mv z<|have hI187:=Hp.pick 2 [1, 0] hI85 z;bK H fun y193 hy188 H=>cv bo131 (breaks_ruled_soft_k1_spec hy188 hI187 hl8 (Dat.mono hG53 hD9)) z z fun wd191 hI192=>asn z<|nl<|hK92 _ _ _<|sr fun K194 hK195=>mv z<|mv z<|?_
 refine bK2 H fun v196 v198 hC H=>?_
 refine wpq_split 12 (K := fun e r ds w => e = .normal ∧ ∃ (T197 : List Itm) (G200 : Gh), ds = [] ∧ G52 ≤ G200 ∧ Has [(0, func (.yield yl) #[] #[]), (1, pointer (some ⟨g2, 0, none⟩)), (3, bool v81), (4, int .i64 v23), (74, bool v196)] r ∧ Hp G200 (mpI g12 string bool a13 :: bx g2 [int .i64 a3, int .i64 a4, slice A6 a5.length c7, string a10, Value.map (some g12)] 147 :: T197) w ∧ St v198 G200 T197 ∧ True) ?_ ?_
 refine have H:=hC;dC (y193 = true) (fun h205=>?_) fun h205=>?_
 refine yK h205 H fun H=>mv (hw:=gY z z z (vY h205)) z<|mv (hw:=gY z z z (vY h205)) z<|fa (hw:=gY z z z (vY h205)) fl147_1 z<|ld (hw:=gY z z z (vY h205)) hI192 1 ag9 z z z<|mv (hw:=gY z z z (vY h205)) z<|q_sub (hw:=gY z z z (vY h205)) z z<|iK H fun⟨h206, h206'⟩H=>q_is (hw:=gY z z z (vY h205)) so9 z z h206 h206' z<|q_eql (hw:=gY z z z (vY h205)) z z<|q_build (hw:=gY z z z (vY h205)) (vs := [(0, int .i64 v23), (1, bool (decide ((bt a10 (w64 (v23 - 1))) = 126)))]) (cs := [int .i64 v23, bool (decide ((bt a10 (w64 (v23 - 1))) = 126))]) ze114 pl114 z z<|bK2 H fun s207 b208 hx209 H=>q_yl (hw:=gY z z z (vY h205)) hy [mpI g12 string bool a13, bx g2 [int .i64 a3, int .i64 a4, slice A6 a5.length c7, string a10, Value.map (some g12)] 147] hI192 hS26 z z ⟨_, z, (mk_api_Break (x := (⟨v23, decide ((bt a10 (w64 (v23 - 1))) = 126)⟩ : api_Break)))⟩ hx209 fun wd210 G211 T212 hG213 hS214 hI215=>q_not (hw:=gY z z z (vY h205)) z<|?_
 refine pkt (vY h205) z<|nl<|?_
 cases H
 exact ⟨z, T212, _, z, hG213, ⟨z, z, z, z, z, tv⟩, hI215, hS214, tv⟩
 refine nK h205 H fun H=>Sk 11 z z (vN h205) z<|pkf (vN h205) z<|nl<|?_
 cases H
 exact ⟨z, T24, _, z, gR, ⟨z, z, z, z, z, tv⟩, hI192, hS26, tv⟩
 rintro e r ds wd202 ⟨rfl, T197, G200, rfl, hG201, hHas, hI203, hS199, _⟩
 rw [hHas.eq]; clear hHas
 refine nl<|hK195 _ _ _<|dC (v196 = true) (fun h216=>?_) fun h216=>?_
 refine yK h216 H fun H=>wt (vY h216)<|wr<|have hI217:=Hp.pick 2 [1, 0] hI203 z;?_
 cases H
 exact ⟨z, T197, _, z, hG201, trivial, hI217, hS199, tv⟩
 refine nK h216 H fun H=>wf (vN h216)<|ws<|have hI218:=Hp.pick 2 [1, 0] hI203 z;?_
 cases H
 exact ⟨z, T197, _, z, hG201, ⟨z, z, z, z, tv⟩, hI218, hS199, tv⟩
 refine nK h186 H fun H=>wf (bN h186)<|ws<|hK92 _ _ _<|sr fun K219 hK220=>mv z<|mv z<|Su 11 z<|pkf z z<|nl<|hK220 _ _ _<|wf z<|ws<|?_
 cases H
 exact ⟨z, T24, _, z, gR, ⟨z, z, z, z, tv⟩, hI85, hS26, tv⟩
 rcases o78 with v64 | ⟨v66, v68⟩
 rintro e r ds wd72 ⟨rfl, T63, G70, rfl, hG71, hHas, hI73, hS65, _⟩
 rw [hHas.eq]; clear hHas
 cases H
 exact ⟨z, T63, _, z, (gT hG53 hG71), trivial, hI73, hS65, tv⟩
 rintro e r ds wd76 ⟨rfl, T67, G74, rfl, hG75, hHas, hI77, hS69, _⟩
 rw [hHas.eq]; clear hHas
 exact hK62 _ _ _<|wpc_region<|mv z<|q_add z z<|asn z<|nl<|ih _ _ _ _ H T67 _ _ _ (gT hG53 hG75) ⟨z, z, z, z, tv⟩ hI77 hS69 z
 refine nK h60 H fun H=>wf (bN h60)<|wx<|?_
 cases H
 exact ⟨z, T24, _, z, hG53, trivial, hI55, hS26, tv⟩
 rcases o51 with v38 | v41
 rintro e r ds wd45 ⟨rfl, T37, G43, rfl, hG44, hHas, hI46, hS39, _⟩
 rw [hHas.eq]; clear hHas
 cases H
 exact ⟨.inr z, z, _, z, T37, _, hG44, hI46, hS39, z⟩
 rintro e r ds wd49 ⟨rfl, T40, G47, rfl, hG48, hHas, hI50, hS42, _⟩
 rw [hHas.eq]; clear hHas
 cases H
 exact ⟨.inl z, z, _, z, T40, _, hG48, hI50, hS42, z⟩
theorem breaks_List_spec {a1 a6 A2 c3 r1007 r1014 G L w} (H : breaks_List a1 a6 = some (r1007, r1014)) (hI : Hp G L w) (hl4 : a1.Keep.length ≤ c3) (hD5 : Dat Kd.str G A2 a1.Keep) :
    Calls Tryz.prog 66 [agg [int .i64 a1.Before, int .i64 a1.Behind, slice A2 a1.Keep.length c3].toArray, string a6].toArray w fun e w' => ∃ (A1008 : Option Addr) (c1009 : Nat) (G' : Gh), G ≤ G' ∧ Hp G' (tk (slice A1008 r1007.length c1009) 2 114 :: L) w' ∧ r1007.length ≤ c1009 ∧ Dat k_api_Break G' A1008 r1007 ∧ Own A1008 c1009 ∧ e = .returned (tuple [slice A1008 r1007.length c1009, int .i64 r1014].toArray) := by
 refine calls_intro_m (N := 26) Tryz.func66 z z (Nat.le_of_ble_eq_true z)<|?_
 unfold breaks_List at H
 refine sr fun K7 hK8=>bxk hI z z fun g10 wd11 hI12=>asn z<|asn z<|nl<|hK8 _ _ _<|sr fun K13 hK14=>lda hI12 0 ag28 z z z z<|mv z<|bK6 H fun y20 y21 y22 y27 y30 y31 hy15 H=>q_cv (vs := [agg [int .i64 a1.Before, int .i64 a1.Behind, slice A2 a1.Keep.length c3].toArray, string a6]) bo96 z z (breaks_prepare_spec hy15 hI12 hl4 hD5)<|?_
 rintro _ wd18 ⟨A23, c24, g29, G16, hG17, hI19, hl25, hD26, rfl⟩
 refine ⟨_, rfl, ?_⟩
 refine mv z<|exk z z<|exk z z<|q_alloc hI19 ze147 fun g33 wd34 hI35=>stk hI35 0 ag147 z z z z z z z fun wd36 hI37=>asn z<|nl<|hK14 _ _ _<|sQ fun K38 hK39=>sr fun K40 hK41=>mv z<|q_not z<|nl<|hK41 _ _ _<|?_
 refine dC ((!y31) = true) (fun h42=>?_) fun h42=>?_
 refine yK h42 H fun H=>wt (vY h42)<|sr fun K43 hK44=>asn z<|asn z<|nl<|hK44 _ _ _<|wr<|?_
 refine ⟨.inr rfl, ([] : List Nat), _, _, rfl, Hp.marks (K := [bx g33 [int .i64 y20, int .i64 y21, slice A23 y22.length c24, string y27, Value.map (some g29)] 147, mpI g29 string bool y30, bx g10 [int .i64 a1.Before, int .i64 a1.Behind, slice A2 a1.Keep.length c3] 28]) hI37, fun wd46 hI45 => ?_⟩
 refine have hI47:=Hp.emp hI45;have hI49:=Hp.pick 4 [0] hI47 z;?_
 cases H
 exact ⟨_, ⟨_, _, z, z, ⟨_, _, z, z, z⟩⟩, none, 0, _, hG17, hI49, (show ([] : List api_Break).length ≤ 0 from Nat.le_refl 0), (Dat.nil _ _ _), Own.nil, z⟩
 refine nK h42 H fun H=>wf (vN h42)<|ws<|hK39 _ _ _<|sr fun K50 hK51=>q_alloc hI37 ze77 fun g53 wd54 hI55=>nl<|hK51 _ _ _<|sQ fun K56 hK57=>sr fun K58 hK59=>lda hI55 1 ag147 z z z z<|have hI63:=Hp.pick 4 [2, 0, 1, 3] hI55 z;bK4 H fun y71 y72 y73 y78 hy64 H=>q_cv (vs := [agg [int .i64 y20, int .i64 y21, slice A23 y22.length c24, string y27, Value.map (some g29)].toArray]) bo97 z z (breaks_ruled_places_k1_spec hy64 hI63 hl25 hD26)<|?_
 rintro _ wd67 ⟨g70, A74, c75, G65, hG66, hI68, hl76, hD77, rfl⟩
 refine ⟨_, rfl, ?_⟩
 refine nl<|hK59 _ _ _<|wb<|have hI79:=Hp.emp hI68;have hI103:=Hp.pick 6 [1, 2, 3, 5, 0] hI79 z;bK2 H fun v82 jo106 hr152 H=>wpc_range hI103 bo129 z fun fn tmps gl gd81 wd172 hA149 hI150=>?_
 have hY151 : Yl Tryz.prog (rnd (fun (u : (List api_Break)) (x : api_Break) => breaks_List_r104 u x)) (encS k_api_Break) _ gl := yl_intro (pp := [20]) (gdd := gd81) hI150 (fun (u : (List api_Break)) (x : api_Break) => breaks_List_r104 u x) [] (fun (u : (List api_Break)) (G' : Gh) (K : List Itm) => ∃ (A83 : Option Addr) (c84 : Nat) (_ : G65 ≤ G'), K = bx g53 [slice A83 u.length c84] 77 :: bx g10 [int .i64 a1.Before, int .i64 a1.Behind, slice A2 a1.Keep.length c3] 28 :: tk (slice A83 u.length c84) 2 114 :: (List.map mkI (gd81 :: ([] : List Nat)) ++ L) ∧ u.length ≤ c84 ∧ Dat k_api_Break G' A83 u ∧ Own A83 c84 ∧ True) hA149 (fun _ _ _ h => (fun h => encS_len h) h) (fun hG' ⟨A83, c84, h0', hK', hl85, hD86, ho87, _⟩ => ⟨A83, c84, gT h0' hG', hK', hl85, (Dat.mono hG' hD86), ho87, tv⟩) (by
 rintro Rd Bs v82 u' x112 jo' G108 K M wd110 vs ⟨A83, c84, hG109, rfl, hl85, hD86, ho87, _⟩ ⟨_, rfl, hK113⟩ H hI114
 obtain ⟨rfl⟩ := open_api_Break hK113
 replace H : breaks_List_r104 v82 x112 = some (u', jo') := H
 unfold breaks_List_r104 at H
 refine wpc_region<|q_alloc hI114 ze114 fun g116 wd117 hI118=>stk hI118 0 ag114 z z z z z z z fun wd119 hI120=>nl<|have hI127:=Hp.pick 5 [1, 0, 2, 3, 4] hI120 z;?_
 refine ⟨rfl, rfl, _, _, gR, hI127, fun wd122 hI121 => ?_⟩
 refine wb<|wpc_region<|ld hI121 2 ag77 z z z<|lda hI121 1 ag114 z z z z<|?_
 refine q_bs hI121 (vs := [(0, agg [int .i64 x112.At, bool x112.Hyphen].toArray)]) (cs := [int .i64 x112.At, bool x112.Hyphen]) el77 ze114 rfl (by decide) rfl rfl (fun g129 wd130 hI131 => ?_)
 refine iK H fun h141 H=>?_
 refine q_app (xs := v82) (ys := [x112]) k_api_Break hI131 5 el77 ze114 rfl rfl rfl rfl ho87 hl85 hD86 (src_bx hI131 0 so77 rfl rfl) ⟨[int .i64 x112.At, bool x112.Hyphen], _, rfl, (mk_api_Break (x := x112)), rfl⟩ rfl (by simp only [List.length_cons, List.length_nil]; omega) (by simp only [List.length_cons, List.length_nil]; omega) (fun A132 c133 G134 wd135 hG136 ho137 hl138 hD139 hI140 => ?_)
 refine stk hI140 3 ag77 z z z z z z z fun wd142 hI143=>nl<|have hI148:=Hp.pick 6 [1, 3, 4, 5] hI143 z;?_
 cases H
 exact ⟨z, _, _, hG136, ⟨A132, c133, (gT hG109 hG136), z, hl138, hD139, ho137, tv⟩, hI148⟩)
 refine have hI173:=Hp.sink (A := [bx g70 [int .i64 y71, int .i64 y72, slice A74 y73.length c75, string y78, Value.map (some g29)] 147, mpI g29 string bool y30]) (K := [bx g53 [slice none 0 0] 77, bx g10 [int .i64 a1.Before, int .i64 a1.Behind, slice A2 a1.Keep.length c3] 28, tk (slice none 0 0) 2 114]) hI150;(breaks_ruled_places_1_k1_spec (sy := (([] : List api_Break), none)) hr152 hI173 hl76 hD77 hY151 ⟨_, z, none, 0, Gh.le_refl _, z, (show ([] : List api_Break).length ≤ 0 from Nat.le_refl 0), (Dat.nil _ _ _), Own.nil, tv⟩).mono<|?_
 rintro _ wd155 ⟨T159, G153, hG1540, hI156, ⟨K, rfl, A83, c84, hG154, rfl, hl85, hD86, ho87, _⟩, rfl⟩
 refine have hH161:=Hp.front hI156 2 z;?_
 rcases jo106 with _ | j
 refine ⟨_, rfl, LoopState.ready, none, G153, _, (fun h => nomatch h), hH161, fun wd157 hI158 => ?_⟩
 refine hK57 _ _ _<|sr fun K166 hK167=>ld hI158 2 ag77 z z z<|asn z<|asn z<|nl<|hK167 _ _ _<|wr<|?_
 refine ⟨.inr rfl, (gd81 :: ([] : List Nat)), _, _, rfl, Hp.marks (K := [bx g70 [int .i64 y71, int .i64 y72, slice A74 y73.length c75, string y78, Value.map (some g29)] 147, mpI g29 string bool y30, bx g53 [slice A83 v82.length c84] 77, bx g10 [int .i64 a1.Before, int .i64 a1.Behind, slice A2 a1.Keep.length c3] 28, tk (slice A83 v82.length c84) 2 114]) hI158, fun wd169 hI168 => ?_⟩
 refine have hI171:=Hp.pick 5 [4] hI168 z;?_
 cases H
 exact ⟨_, ⟨_, _, z, z, ⟨_, _, z, z, z⟩⟩, A83, c84, _, (gT (gT hG17 hG66) hG154), hI171, hl85, hD86, ho87, z⟩
 cases H
theorem inline_prepare_1_spec {a1 r1002 G L w} (H : inline_prepare_1 a1 = some r1002) (hI : Hp G L w) :
    Calls Tryz.prog 68 [agg [int .i64 a1.At, bool a1.Hyphen].toArray].toArray w fun e w' => Hp G L w' ∧ e = .returned (bool r1002) := by
 refine calls_intro (N := 5) Tryz.func68 z z (Nat.le_of_ble_eq_true z)<|?_
 unfold inline_prepare_1 at H
 refine sr fun K2 hK3=>bxk hI z z fun g5 wd6 hI7=>asn z<|nl<|hK3 _ _ _<|sr fun K8 hK9=>fa fl114_1 z<|ld hI7 0 ag4 z z z<|asn z<|nl<|hK9 _ _ _<|wr<|have hI10:=Hp.pick 1 [] hI7 z;?_
 cases H
 exact rt ⟨_, _, z, z, z⟩ hI10
theorem font_Has_spec {a1 a10 A2 c3 A6 c7 r1011 r1012 G L w} (H : font_Has a1 a10 = some (r1011, r1012)) (hI : Hp G L w) (hl4 : a1.Glyphs.length ≤ c3) (hD5 : Dat k_api_Glyph G A2 a1.Glyphs) (hl8 : a1.Kerns.length ≤ c7) (hD9 : Dat k_api_Kern G A6 a1.Kerns) :
    Calls Tryz.prog 69 [agg [slice A2 a1.Glyphs.length c3, slice A6 a1.Kerns.length c7].toArray, string a10].toArray w fun e w' => Hp G L w' ∧ e = .returned (tuple [bool r1011, int .i64 r1012].toArray) := by
 refine calls_intro (N := 36) Tryz.func69 z z (Nat.le_of_ble_eq_true z)<|?_
 unfold font_Has at H
 refine sr fun K11 hK12=>bxk hI z z fun g14 wd15 hI16=>asn z<|asn z<|nl<|hK12 _ _ _<|sQ fun K17 hK18=>sr fun K19 hK20=>lda hI16 0 ag25 z z z z<|bK H fun y26 hy21 H=>cv bo38 (font_Valid_spec hy21 hI16 hl4 hD5 hl8 hD9) z z fun wd24 hI25=>q_not z<|mv z<|bK H fun v27 hC H=>?_
 refine js 4 hI25 [(1, string a10), (2, pointer (some ⟨g14, 0, none⟩)), (17, bool v27)] ?_ fun _ wd30 hI31=>?_
 refine have H:=hC;dC ((!y26) = true) (fun h33=>?_) fun h33=>?_
 refine yK h33 H fun H=>Sk 3 z z (vY h33) z<|pkt (vY h33) z<|nl<|?_
 cases H
 exact je ⟨z, z, z, tv⟩ hI25
 refine nK h33 H fun H=>mv (hw:=gY z z z (vN h33)) z<|bK H fun y39 hy34 H=>cv (hw:=gY z z z (vN h33)) bo39 (text_Valid_spec hy34 hI25) z z fun wd37 hI38=>q_not (hw:=gY z z z (vN h33)) z<|pkf (vN h33) z<|nl<|?_
 cases H
 exact je ⟨z, z, z, tv⟩ hI38
 refine nl<|hK20 _ _ _<|dC (v27 = true) (fun h40=>?_) fun h40=>?_
 refine yK h40 H fun H=>wt (vY h40)<|sr fun K41 hK42=>asn z<|asn z<|nl<|hK42 _ _ _<|wr<|have hI43:=Hp.pick 1 [] hI31 z;?_
 cases H
 exact rt ⟨_, _, z, z, ⟨_, _, z, z, z⟩⟩ hI43
 refine nK h40 H fun H=>wf (vN h40)<|ws<|hK18 _ _ _<|sQ fun K44 hK45=>sr fun K46 hK47=>mv z<|q_rgs hI31 so9 z fun g49 wd50 hI51=>nl<|hK47 _ _ _<|wb<|bK H fun o73 hC H=>?_
 refine wpc_mono (Q := fun e r ds w => match (generalizing := false) o73 with | (Sum.inl v63) => e = .ret ∧ ds = [] ∧ Has [(4, bool false), (5, int .i64 0)] r ∧ Hp G (ob g49 (Obj.stringIter a10 v63) :: bx g14 [slice A2 a1.Glyphs.length c3, slice A6 a1.Kerns.length c7] 25 :: L) w ∧ True | (Sum.inr v64) => e = .exit 0 ∧ ds = [] ∧ Has [] r ∧ Hp G (ob g49 (Obj.stringIter a10 v64) :: bx g14 [slice A2 a1.Glyphs.length c3, slice A6 a1.Kerns.length c7] 25 :: L) w ∧ True) ?_ ?_
 refine wpc_loop fun I hLp=>?_
 refine font_Has_l62.partial_correctness a1 a10 (fun v56 o => ∀ (r : Rg) (w : World), Has [(2, pointer (some ⟨g14, 0, none⟩)), (19, pointer (some ⟨g49, 0, none⟩))] r → Hp G (ob g49 (Obj.stringIter a10 v56) :: bx g14 [slice A2 a1.Glyphs.length c3, slice A6 a1.Kerns.length c7] 25 :: L) w → o = o73 → I r [] w) ?_ 0 _ hC _ _ ⟨rfl, rfl, tv⟩ hI51 rfl
 intro _ ih v56 o H r wd76 hHas hI77 ho
 rw [ho] at H; clear ho
 rw [hHas.eq]; clear hHas
 refine hLp _ _ _<|sr fun K78 hK79=>dC (v56 < a10.size) (fun h80=>?_) fun h80=>?_
 refine yK h80 H fun H=>q_nxy hI77 0 z z h80 fun wd81 hI82=>exk z z<|nl<|hK79 _ _ _<|sQ fun K83 hK84=>wt z<|ws<|hK84 _ _ _<|wb<|sr fun K85 hK86=>exk z z<|asn z<|nl<|?_
 refine hK86 _ _ _<|sr fun K87 hK88=>lda hI82 1 ag25 z z z z<|mv z<|q_cvi ik21 ik5 z<|bK2 H fun y94 y95 hy89 H=>cv bo75 (font_glyph_spec hy89 hI82 hl4 hD5 hl8 hD9) z z fun wd92 hI93=>mv z<|exk z z<|exk z z<|q_alloc hI93 ze103 fun g97 wd98 hI99=>stk hI99 0 ag103 z z z z z z z fun wd100 hI101=>asn z<|nl<|?_
 refine hK88 _ _ _<|sr fun K102 hK103=>mv z<|q_not z<|mv z<|bK H fun v104 hC H=>js 3 hI101 [(2, pointer (some ⟨g14, 0, none⟩)), (19, pointer (some ⟨g49, 0, none⟩)), (35, bool v104)] ?_ fun _ wd107 hI108=>?_
 refine have H:=hC;dC ((!y95) = true) (fun h110=>?_) fun h110=>?_
 refine yK h110 H fun H=>mv (hw:=gY z z z (vY h110)) z<|q_neq (hw:=gY z z z (vY h110)) z z<|pkt (vY h110) z<|nl<|?_
 cases H
 exact je ⟨z, z, z, tv⟩ hI101
 refine nK h110 H fun H=>Sk 2 z z (vN h110) z<|pkf (vN h110) z<|nl<|?_
 cases H
 exact je ⟨z, z, z, tv⟩ hI101
 refine nl<|hK103 _ _ _<|dC (v104 = true) (fun h111=>?_) fun h111=>?_
 refine yK h111 H fun H=>wt (vY h111)<|sr fun K112 hK113=>asn z<|asn z<|nl<|hK113 _ _ _<|wr<|have hI116:=Hp.pick 3 [1, 2] hI108 z;?_
 cases H
 exact ⟨z, z, ⟨z, z, tv⟩, hI116, tv⟩
 exact nK h111 H fun H=>wf (vN h111)<|ws<|have hI119:=Hp.pick 3 [1, 2] hI108 z;ih _ _ H _ _ ⟨z, z, tv⟩ hI119 z
 refine nK h80 H fun H=>q_nxn hI77 0 z z h80<|exk z z<|nl<|hK79 _ _ _<|sQ fun K120 hK121=>wf z<|wx<|?_
 cases H
 exact ⟨z, z, trivial, hI77, tv⟩
 rcases o73 with v63 | v64
 rintro e r ds wd67 ⟨rfl, rfl, hHas, hI68, _⟩
 rw [hHas.eq]; clear hHas
 refine have hI122:=Hp.pick 2 [] hI68 z;?_
 cases H
 exact rt ⟨_, _, z, z, ⟨_, _, z, z, z⟩⟩ hI122
 rintro e r ds wd71 ⟨rfl, rfl, hHas, hI72, _⟩
 rw [hHas.eq]; clear hHas
 refine hK45 _ _ _<|sr fun K123 hK124=>asn z<|asn z<|nl<|hK124 _ _ _<|wr<|have hI125:=Hp.pick 2 [] hI72 z;?_
 cases H
 exact rt ⟨_, _, z, z, ⟨_, _, z, z, z⟩⟩ hI125
theorem font_pairs_spec {a1 r1004 G L w} (H : font_pairs a1 = some r1004) (hI : Hp G L w) :
    Calls Tryz.prog 114 [string a1].toArray w fun e w' => ∃ (g1003 : Nat), Hp G (bx g1003 [string r1004] 9 :: L) w' ∧ e = .returned (func (.func 144) [].toArray [pointer (some ⟨g1003, 0, none⟩)].toArray) := by
 refine calls_intro (N := 4) Tryz.func114 z z (Nat.le_of_ble_eq_true z)<|?_
 unfold font_pairs at H
 refine sr fun K2 hK3=>bxk hI z z fun g5 wd6 hI7=>asn z<|nl<|hK3 _ _ _<|sr fun K8 hK9=>q_fn (vs := []) (us := [pointer (some ⟨g5, 0, none⟩)]) z z<|asn z<|nl<|hK9 _ _ _<|wr<|?_
 cases H
 exact ⟨.inr z, z, _, ⟨_, _, z, z, z⟩, g5, hI7, z⟩
theorem font_pairs_1_k1_spec {σ : Type} {St : σ → Gh → List Itm → Prop} {yl} {φ : σ → font_pair → Option (σ × Bool)} {sy : σ} {a3 g2} {ry : σ} {G T w} (H : font_pairs_1_k1 φ sy a3 = some ry) (hI : Hp G (bx g2 [string a3] 9 :: T) w) (hy : Yl Tryz.prog φ (encS k_font_pair) St yl) (hS : St sy G T) :
    Calls Tryz.prog 144 [func (.yield yl) #[] #[], pointer (some ⟨g2, 0, none⟩)].toArray w fun e w' => ∃ (T' : List Itm) (G' : Gh), G ≤ G' ∧ Hp G' (bx g2 [string a3] 9 :: T') w' ∧ St ry G' T' ∧ e = .returned (tuple [].toArray) := by
 refine calls_intro (N := 22) Tryz.func144 z z (Nat.le_of_ble_eq_true z)<|?_
 unfold font_pairs_1_k1 at H
 refine sr fun K4 hK5=>asn z<|nl<|hK5 _ _ _<|sr fun K6 hK7=>ld hI 0 ag9 z z z<|q_rgs hI so9 z fun g9 wd10 hI11=>nl<|hK7 _ _ _<|wb<|bK H fun o47 hC H=>?_
 refine wpc_mono (Q := fun e r ds w => match (generalizing := false) o47 with | (Sum.inl (v31, v33)) => e = .ret ∧ ∃ (T32 : List Itm) (G39 : Gh), ds = [] ∧ G ≤ G39 ∧ Has [] r ∧ Hp G39 (ob g9 (Obj.stringIter a3 v31) :: bx g2 [string a3] 9 :: T32) w ∧ St v33 G39 T32 ∧ True | (Sum.inr (v35, v37)) => e = .exit 0 ∧ ∃ (T36 : List Itm) (G43 : Gh), ds = [] ∧ G ≤ G43 ∧ Has [] r ∧ Hp G43 (ob g9 (Obj.stringIter a3 v35) :: bx g2 [string a3] 9 :: T36) w ∧ St v37 G43 T36 ∧ True) ?_ ?_
 refine wpc_loop fun I hLp=>?_
 refine font_pairs_1_k1_l30.partial_correctness φ a3 (fun v16 v17 v19 o => ∀ (T18 : List Itm) (G48 : Gh) (r : Rg) (w : World), G ≤ G48 → Has [(0, func (.yield yl) #[] #[]), (3, int .u8 v16), (7, pointer (some ⟨g9, 0, none⟩))] r → Hp G48 (ob g9 (Obj.stringIter a3 v17) :: bx g2 [string a3] 9 :: T18) w → St v19 G48 T18 → o = o47 → I r [] w) ?_ 0 0 sy _ hC T _ _ _ gR ⟨rfl, rfl, rfl, tv⟩ hI11 hS rfl
 intro _ ih v16 v17 v19 o H T18 G48 r wd50 hG49 hHas hI51 hS20 ho
 rw [ho] at H; clear ho
 rw [hHas.eq]; clear hHas
 refine hLp _ _ _<|sr fun K52 hK53=>dC (v17 < a3.size) (fun h54=>?_) fun h54=>?_
 refine yK h54 H fun H=>q_nxy hI51 0 z z h54 fun wd55 hI56=>exk z z<|nl<|hK53 _ _ _<|sQ fun K57 hK58=>wt z<|ws<|hK58 _ _ _<|wb<|sr fun K59 hK60=>exk z z<|asn z<|nl<|?_
 refine hK60 _ _ _<|sQ fun K61 hK62=>sr fun K63 hK64=>mv z<|q_eql z z<|nl<|hK64 _ _ _<|dC (((Utf8.decode a3 v17).1 : Int) = 126) (fun h65=>?_) fun h65=>?_
 exact yK h65 H fun H=>wt (bY h65)<|wx<|ih _ _ _ _ H T18 _ _ _ hG49 ⟨z, z, z, tv⟩ hI56 hS20 z
 refine nK h65 H fun H=>wf (bN h65)<|ws<|hK62 _ _ _<|sQ fun K66 hK67=>sr fun K68 hK69=>mv z<|mv z<|mv z<|q_cvi ik21 ik5 z<|q_build (vs := [(0, int .u8 v16), (1, int .u8 (wu8 (((Utf8.decode a3 v17).1 : Int))))]) (cs := [int .u8 v16, int .u8 (wu8 (((Utf8.decode a3 v17).1 : Int)))]) ze127 pl127 z z<|bK2 H fun s70 b71 hx72 H=>q_yl hy [ob g9 (Obj.stringIter a3 (v17 + (Utf8.decode a3 v17).2)), bx g2 [string a3] 9] hI56 hS20 z z ⟨_, z, (mk_font_pair (x := (⟨v16, wu8 (((Utf8.decode a3 v17).1 : Int))⟩ : font_pair)))⟩ hx72 fun wd73 G74 T75 hG76 hS77 hI78=>q_not z<|?_
 refine nl<|hK69 _ _ _<|dC ((!b71) = true) (fun h79=>?_) fun h79=>?_
 refine yK h79 H fun H=>wt (vY h79)<|wr<|?_
 cases H
 exact ⟨z, T75, _, z, (gT hG49 hG76), trivial, hI78, hS77, tv⟩
 exact nK h79 H fun H=>wf (vN h79)<|ws<|hK67 _ _ _<|wpc_region<|mv z<|q_cvi ik21 ik5 z<|asn z<|nl<|ih _ _ _ _ H T75 _ _ _ (gT hG49 hG76) ⟨z, z, z, tv⟩ hI78 hS77 z
 refine nK h54 H fun H=>q_nxn hI51 0 z z h54<|exk z z<|nl<|hK53 _ _ _<|sQ fun K80 hK81=>wf z<|wx<|?_
 cases H
 exact ⟨z, T18, _, z, hG49, trivial, hI51, hS20, tv⟩
 rcases o47 with ⟨v31, v33⟩ | ⟨v35, v37⟩
 rintro e r ds wd41 ⟨rfl, T32, G39, rfl, hG40, hHas, hI42, hS34, _⟩
 rw [hHas.eq]; clear hHas
 refine have hI83:=Hp.pick 2 [1] hI42 z;?_
 cases H
 exact ⟨.inr z, z, _, z, T32, _, hG40, hI83, hS34, z⟩
 rintro e r ds wd45 ⟨rfl, T36, G43, rfl, hG44, hHas, hI46, hS38, _⟩
 rw [hHas.eq]; clear hHas
 refine have hI85:=Hp.pick 2 [1] hI46 z;?_
 cases H
 exact ⟨.inl z, z, _, z, T36, _, hG44, hI85, hS38, z⟩
theorem slices_BinarySearchFunc_font_pair_k1_spec {a1 a6 A2 c3 r1007 r1008 G L w} (H : slices_BinarySearchFunc_font_pair_k1 a1 a6 = some (r1007, r1008)) (hI : Hp G L w) (hl4 : a1.length ≤ c3) (hD5 : Dat k_api_Kern G A2 a1) :
    Calls Tryz.prog 145 [slice A2 a1.length c3, agg [int .u8 a6.left, int .u8 a6.right].toArray, func (.func 76) [].toArray [].toArray].toArray w fun e w' => Hp G L w' ∧ e = .returned (tuple [int .i64 r1007, bool r1008].toArray) := by
 refine calls_intro (N := 49) Tryz.func145 z z (Nat.le_of_ble_eq_true z)<|?_
 unfold slices_BinarySearchFunc_font_pair_k1 at H
 refine sr fun K7 hK8=>bxk hI z z fun g10 wd11 hI12=>asn z<|asn z<|nl<|hK8 _ _ _<|sr fun K13 hK14=>mv z<|q_len so23 z<|asn z<|nl<|hK14 _ _ _<|sr fun K15 hK16=>mv z<|?_
 refine asn z<|asn z<|nl<|hK16 _ _ _<|sQ fun K17 hK18=>wb<|bK H fun v32 hC H=>wpc_mono (Q := fun e r ds w => e = .exit 0 ∧ ds = [] ∧ Has [(0, slice A2 a1.length c3), (2, func (.func 76) [].toArray [].toArray), (4, pointer (some ⟨g10, 0, none⟩)), (8, int .i64 (a1.length : Int)), (9, int .i64 v32)] r ∧ Hp G (bx g10 [int .u8 a6.left, int .u8 a6.right] 127 :: L) w ∧ True) ?_ ?_
 refine wpc_loop fun I hLp=>?_
 refine slices_BinarySearchFunc_font_pair_k1_l31.partial_correctness a1 a6 (fun v23 v24 o => ∀ (r : Rg) (w : World), Has [(0, slice A2 a1.length c3), (2, func (.func 76) [].toArray [].toArray), (4, pointer (some ⟨g10, 0, none⟩)), (8, int .i64 (a1.length : Int)), (9, int .i64 v23), (10, int .i64 v24)] r → Hp G (bx g10 [int .u8 a6.left, int .u8 a6.right] 127 :: L) w → o = v32 → I r [] w) ?_ 0 (a1.length : Int) _ hC _ _ ⟨rfl, rfl, rfl, rfl, rfl, rfl, tv⟩ hI12 rfl
 intro _ ih v23 v24 o H r wd40 hHas hI41 ho
 rw [ho] at H; clear ho
 rw [hHas.eq]; clear hHas
 refine hLp _ _ _<|sQ fun K42 hK43=>sr fun K44 hK45=>mv z<|mv z<|q_lss z z<|nl<|hK45 _ _ _<|dC (v23 < v24) (fun h46=>?_) fun h46=>?_
 refine yK h46 H fun H=>wt (bY h46)<|ws<|hK43 _ _ _<|wb<|sr fun K47 hK48=>mv z<|mv z<|q_add z z<|q_cvi ik3 ik91 z<|q_shr (m := 1) z z z<|q_cvi ik91 ik3 z<|asn z<|nl<|?_
 refine hK48 _ _ _<|sQ fun K49 hK50=>?_
 refine wpc_class hI41 mixo (by kernel_rfl) ?_
 refine wq' (fun Gq w hGq Iq=>mv z wqd) z z<|wq' (fun Gq w hGq Iq=>mv z wqd) z z<|wq' (fun Gq w hGq Iq=>mv z wqd) z z<|iK H fun⟨h63, h63'⟩H=>?_
 obtain ⟨ad64, cs65, hA66, hK67, hn68, hc69⟩ := Dat.get hD5 z_api_Kern (w64 (Int.fdiv (IntKind.wrap .u64 (w64 (v23 + v24))) (2 ^ 1))) h63 h63'
 obtain ⟨rfl⟩ := open_api_Kern hK67
 refine wq' (fun Gq w hGq Iq=>q_ia el23 z hA66 z h63 h63' wqd) z z<|wq' (fun Gq w hGq Iq=>q_lfA Iq ag122 z (cs := [int .u8 ((a1.getD (Int.toNat (w64 (Int.fdiv (IntKind.wrap .u64 (w64 (v23 + v24))) (2 ^ 1)))) z_api_Kern).Left), int .u8 ((a1.getD (Int.toNat (w64 (Int.fdiv (IntKind.wrap .u64 (w64 (v23 + v24))) (2 ^ 1)))) z_api_Kern).Right), int .i64 ((a1.getD (Int.toNat (w64 (Int.fdiv (IntKind.wrap .u64 (w64 (v23 + v24))) (2 ^ 1)))) z_api_Kern).By)]) z (fun j v hv => hGq.cel _ _ (hc69 j v hv)) wqd) z z<|wq' (fun Gq w hGq Iq=>lda Iq 0 ag127 z z z z wqd) z z<|bK H fun y71 hy70 H=>?_
 refine wk (vs := [agg [int .u8 ((a1.getD (Int.toNat (w64 (Int.fdiv (IntKind.wrap .u64 (w64 (v23 + v24))) (2 ^ 1)))) z_api_Kern).Left), int .u8 ((a1.getD (Int.toNat (w64 (Int.fdiv (IntKind.wrap .u64 (w64 (v23 + v24))) (2 ^ 1)))) z_api_Kern).Right), int .i64 ((a1.getD (Int.toNat (w64 (Int.fdiv (IntKind.wrap .u64 (w64 (v23 + v24))) (2 ^ 1)))) z_api_Kern).By)].toArray, agg [int .u8 a6.left, int .u8 a6.right].toArray]) (v := int .i64 y71) bo76 z z (fun Gq w hGq Iq => ?_) ?_
 refine Calls.mono (font_order_spec (a1 := (a1.getD (Int.toNat (w64 (Int.fdiv (IntKind.wrap .u64 (w64 (v23 + v24))) (2 ^ 1)))) z_api_Kern)) hy70 Iq)<|?_
 rintro _ w2 ⟨I2, rfl⟩
 exact ⟨z, _, hGq, I2⟩
 refine wq' (fun Gq w hGq Iq=>q_lss z z wqd) z z<|wz fun wd61 G59 hG60 hI62=>hK50 _ _ _<|dC (y71 < 0) (fun h72=>?_) fun h72=>?_
 exact yK h72 H fun H=>wt (bY h72)<|wpc_region<|mv z<|q_add z z<|asn z<|nl<|ih _ _ _ H _ _ ⟨z, z, z, z, z, z, tv⟩ (Hp.low hG60 hI62) z
 exact nK h72 H fun H=>wf (bN h72)<|wpc_region<|mv z<|asn z<|nl<|ih _ _ _ H _ _ ⟨z, z, z, z, z, z, tv⟩ (Hp.low hG60 hI62) z
 refine nK h46 H fun H=>wf (bN h46)<|wx<|?_
 cases H
 exact ⟨z, z, ⟨z, z, z, z, z, tv⟩, hI41, tv⟩
 rintro e r ds wd35 ⟨rfl, rfl, hHas, hI36, _⟩
 rw [hHas.eq]; clear hHas
 refine hK18 _ _ _<|sQ fun K73 hK74=>bK H fun v84 hC H=>jc .normal hI36 [(6, int .i64 v32), (7, bool v84)] ?_ fun _ wd87 hI88=>?_
 refine have H:=hC;?_
 refine wpc_class hI36 mixo (by kernel_rfl) ?_
 refine wq' (fun Gq w hGq Iq=>mv z wqd) z z<|wq' (fun Gq w hGq Iq=>mv z wqd) z z<|wq' (fun Gq w hGq Iq=>mv z wqd) z z<|wq' (fun Gq w hGq Iq=>q_lss z z wqd) z z<|wq' (fun Gq w hGq Iq=>mv z wqd) z z<|dC (v32 < (a1.length : Int)) (fun h94=>?_) fun h94=>?_
 refine yK h94 H fun H=>wq' (fun Gq w hGq Iq=>mv (hw:=gY z z z (bY h94)) z wqd) z z<|wq' (fun Gq w hGq Iq=>mv (hw:=gY z z z (bY h94)) z wqd) z z<|wq' (fun Gq w hGq Iq=>mv (hw:=gY z z z (bY h94)) z wqd) z z<|iK H fun⟨h95, h95'⟩H=>?_
 obtain ⟨ad96, cs97, hA98, hK99, hn100, hc101⟩ := Dat.get hD5 z_api_Kern (v32) h95 h95'
 obtain ⟨rfl⟩ := open_api_Kern hK99
 refine wq' (fun Gq w hGq Iq=>q_ia (hw:=gY z z z (bY h94)) el23 z hA98 z h95 h95' wqd) z z<|wq' (fun Gq w hGq Iq=>q_lfA (hw:=gY z z z (bY h94)) Iq ag122 z (cs := [int .u8 ((a1.getD (Int.toNat v32) z_api_Kern).Left), int .u8 ((a1.getD (Int.toNat v32) z_api_Kern).Right), int .i64 ((a1.getD (Int.toNat v32) z_api_Kern).By)]) z (fun j v hv => hGq.cel _ _ (hc101 j v hv)) wqd) z z<|wq' (fun Gq w hGq Iq=>lda (hw:=gY z z z (bY h94)) Iq 0 ag127 z z z z wqd) z z<|bK H fun y103 hy102 H=>?_
 refine wk (vs := [agg [int .u8 ((a1.getD (Int.toNat v32) z_api_Kern).Left), int .u8 ((a1.getD (Int.toNat v32) z_api_Kern).Right), int .i64 ((a1.getD (Int.toNat v32) z_api_Kern).By)].toArray, agg [int .u8 a6.left, int .u8 a6.right].toArray]) (v := int .i64 y103) bo76 z z (fun Gq w hGq Iq => ?_) ?_ (hw := gY z z z (bool_yes h94))
 refine Calls.mono (font_order_spec (a1 := (a1.getD (Int.toNat v32) z_api_Kern)) hy102 Iq)<|?_
 rintro _ w2 ⟨I2, rfl⟩
 exact ⟨z, _, hGq, I2⟩
 refine wq' (fun Gq w hGq Iq=>q_eql (hw:=gY z z z (bY h94)) z z wqd) z z<|wq' (fun Gq w hGq Iq=>pkt (bY h94) z wqd) z z<|wq' (fun Gq w hGq Iq=>asn z wqd) z z<|wq' (fun Gq w hGq Iq=>asn z wqd) z z<|wz fun wd92 G90 hG91 hI93=>?_
 cases H
 exact je ⟨z, z, tv⟩ (Hp.low hG91 hI93)
 refine nK h94 H fun H=>wp (guard_no z z z (bN h94) z)<|wp (guard_no z z z (bN h94) z)<|wp (guard_no z z z (bN h94) z)<|wp (guard_no z z z (bN h94) z)<|wp (guard_no z z z (bN h94) z)<|wp (guard_no z z z (bN h94) z)<|wp (guard_no z z z (bN h94) z)<|wp (guard_no z z z (bN h94) z)<|wq' (fun Gq w hGq Iq=>pkf (bN h94) z wqd) z z<|wq' (fun Gq w hGq Iq=>asn z wqd) z z<|wq' (fun Gq w hGq Iq=>asn z wqd) z z<|wz fun wd92 G90 hG91 hI93=>?_
 cases H
 exact je ⟨z, z, tv⟩ (Hp.low hG91 hI93)
 refine hK74 _ _ _<|wr<|have hI104:=Hp.pick 1 [] hI88 z;?_
 cases H
 exact rt ⟨_, _, z, z, ⟨_, _, z, z, z⟩⟩ hI104
theorem font_find_font_pair_k1_spec {a1 a6 A2 c3 r1007 r1008 G L w} (H : font_find_font_pair_k1 a1 a6 = some (r1007, r1008)) (hI : Hp G L w) (hl4 : a1.length ≤ c3) (hD5 : Dat k_api_Kern G A2 a1) :
    Calls Tryz.prog 115 [slice A2 a1.length c3, agg [int .u8 a6.left, int .u8 a6.right].toArray, func (.func 76) [].toArray [].toArray].toArray w fun e w' => Hp G L w' ∧ e = .returned (tuple [agg [int .u8 r1007.Left, int .u8 r1007.Right, int .i64 r1007.By].toArray, bool r1008].toArray) := by
 refine calls_intro (N := 25) Tryz.func115 z z (Nat.le_of_ble_eq_true z)<|?_
 unfold font_find_font_pair_k1 at H
 refine sr fun K7 hK8=>bxk hI z z fun g10 wd11 hI12=>q_alloc hI12 ze122 fun g14 wd15 hI16=>asn z<|nl<|hK8 _ _ _<|sr fun K17 hK18=>mv z<|lda hI16 1 ag127 z z z z<|mv z<|bK2 H fun y24 y25 hy19 H=>cv bo145 (slices_BinarySearchFunc_font_pair_k1_spec hy19 hI16 hl4 hD5) z z fun wd22 hI23=>mv z<|exk z z<|?_
 refine exk z z<|asn z<|asn z<|nl<|hK18 _ _ _<|sQ fun K26 hK27=>sr fun K28 hK29=>mv z<|q_not z<|nl<|hK29 _ _ _<|dC ((!y25) = true) (fun h30=>?_) fun h30=>?_
 refine yK h30 H fun H=>wt (vY h30)<|sr fun K31 hK32=>q_alloc hI23 ze122 fun g34 wd35 hI36=>nl<|hK32 _ _ _<|sr fun K37 hK38=>lda hI36 0 ag122 z z z z<|stk hI36 1 ag122 z z z z z z z fun wd39 hI40=>asn z<|nl<|hK38 _ _ _<|wr<|have hr41:=res_cell (P := Tryz.prog) hI40 1 (cs := [int .u8 0, int .u8 0, int .i64 0]) (g := g14) (o := 0) ag122 z z z;?_
 refine have hI42:=Hp.pick 3 [] hI40 z;?_
 cases H
 exact rt ⟨_, _, _, z, z, hr41, ⟨_, _, z, z, z⟩⟩ hI42
 refine nK h30 H fun H=>wf (vN h30)<|ws<|hK27 _ _ _<|sr fun K43 hK44=>mv z<|mv z<|iK H fun⟨h45, h45'⟩H=>?_
 obtain ⟨ad46, cs47, hA48, hK49, hn50, hc51⟩ := Dat.get hD5 z_api_Kern (y24) h45 h45'
 obtain ⟨rfl⟩ := open_api_Kern hK49
 refine q_ia el23 z hA48 z h45 h45'<|q_lfA hI23 ag122 z (cs := [int .u8 ((a1.getD (Int.toNat y24) z_api_Kern).Left), int .u8 ((a1.getD (Int.toNat y24) z_api_Kern).Right), int .i64 ((a1.getD (Int.toNat y24) z_api_Kern).By)]) z (fun j v hv => gR.cel _ _ (hc51 j v hv))<|stk hI23 0 ag122 z z z z z z z fun wd52 hI53=>asn z<|nl<|hK44 _ _ _<|wr<|have hr54:=res_cell (P := Tryz.prog) hI53 0 (cs := [int .u8 ((a1.getD (Int.toNat y24) z_api_Kern).Left), int .u8 ((a1.getD (Int.toNat y24) z_api_Kern).Right), int .i64 ((a1.getD (Int.toNat y24) z_api_Kern).By)]) (g := g14) (o := 0) ag122 z z z;have hI55:=Hp.pick 2 [] hI53 z;?_
 cases H
 exact rt ⟨_, _, _, z, z, hr54, ⟨_, _, z, z, z⟩⟩ hI55
theorem font_Raw_spec {a1 a10 A2 c3 A6 c7 r1011 r1012 G L w} (H : font_Raw a1 a10 = some (r1011, r1012)) (hI : Hp G L w) (hl4 : a1.Glyphs.length ≤ c3) (hD5 : Dat k_api_Glyph G A2 a1.Glyphs) (hl8 : a1.Kerns.length ≤ c7) (hD9 : Dat k_api_Kern G A6 a1.Kerns) :
    Calls Tryz.prog 80 [agg [slice A2 a1.Glyphs.length c3, slice A6 a1.Kerns.length c7].toArray, string a10].toArray w fun e w' => Hp G L w' ∧ e = .returned (tuple [int .i64 r1011, int .i64 r1012].toArray) := by
 refine calls_intro_m (N := 52) Tryz.func80 z z (Nat.le_of_ble_eq_true z)<|?_
 unfold font_Raw at H
 refine sr fun K11 hK12=>bxk hI z z fun g14 wd15 hI16=>asn z<|asn z<|nl<|hK12 _ _ _<|sr fun K17 hK18=>lda hI16 0 ag25 z z z z<|mv z<|bK2 H fun y24 y25 hy19 H=>cv bo69 (font_Has_spec hy19 hI16 hl4 hD5 hl8 hD9) z z fun wd22 hI23=>mv z<|exk z z<|exk z z<|?_
 refine asn z<|asn z<|nl<|hK18 _ _ _<|sQ fun K26 hK27=>wb<|sr fun K28 hK29=>mv z<|q_neq z z<|asn z<|nl<|hK29 _ _ _<|dC (¬ y25 = 0) (fun h30=>?_) fun h30=>?_
 refine yK h30 H fun H=>wt (bY h30)<|sr fun K31 hK32=>mv z<|asn z<|asn z<|nl<|hK32 _ _ _<|wr<|?_
 refine ⟨.inr rfl, ([] : List Nat), _, _, rfl, Hp.marks (K := [bx g14 [slice A2 a1.Glyphs.length c3, slice A6 a1.Kerns.length c7] 25]) hI23, fun wd34 hI33 => ?_⟩
 refine have hI35:=Hp.pick 1 [] hI33 z;?_
 cases H
 exact ⟨_, ⟨_, _, z, z, ⟨_, _, z, z, z⟩⟩, hI35, z⟩
 refine nK h30 H fun H=>wf (bN h30)<|sr fun K36 hK37=>mv z<|q_not z<|asn z<|nl<|hK37 _ _ _<|dC ((!y24) = true) (fun h38=>?_) fun h38=>?_
 refine yK h38 H fun H=>wt (vY h38)<|sr fun K39 hK40=>asn z<|asn z<|nl<|hK40 _ _ _<|wr<|?_
 refine ⟨.inr rfl, ([] : List Nat), _, _, rfl, Hp.marks (K := [bx g14 [slice A2 a1.Glyphs.length c3, slice A6 a1.Kerns.length c7] 25]) hI23, fun wd42 hI41 => ?_⟩
 refine have hI43:=Hp.pick 1 [] hI41 z;?_
 cases H
 exact ⟨_, ⟨_, _, z, z, ⟨_, _, z, z, z⟩⟩, hI43, z⟩
 refine nK h38 H fun H=>wf (vN h38)<|ws<|hK27 _ _ _<|sr fun K44 hK45=>q_alloc hI23 ze3 fun g47 wd48 hI49=>stk hI49 0 ag3 z z z z z z z fun wd50 hI51=>nl<|hK45 _ _ _<|sQ fun K52 hK53=>sr fun K54 hK55=>mv z<|bK H fun y63 hy56 H=>q_cv (vs := [string a10]) bo114 z z (font_pairs_spec hy56 hI51)<|?_
 rintro _ wd59 ⟨g62, hI60, rfl⟩
 refine ⟨_, rfl, ?_⟩
 refine nl<|hK55 _ _ _<|wb<|bK2 H fun v65 jo69 hr129 H=>wpc_range hI60 bo144 z fun fn tmps gl gd64 wd148 hA126 hI127=>?_
 have hY128 : Yl Tryz.prog (rnd (fun (u : Int) (x : font_pair) => font_Raw_r67 a1 u x)) (encS k_font_pair) _ gl := yl_intro (pp := [29]) (gdd := gd64) hI127 (fun (u : Int) (x : font_pair) => font_Raw_r67 a1 u x) [] (fun (u : Int) (G' : Gh) (K : List Itm) => ∃ (_ : G ≤ G'), K = bx g47 [int .i64 u] 3 :: bx g14 [slice A2 a1.Glyphs.length c3, slice A6 a1.Kerns.length c7] 25 :: (List.map mkI (gd64 :: ([] : List Nat)) ++ L) ∧ True) hA126 (fun _ _ _ h => (fun h => encS_len h) h) (fun hG' ⟨h0', hK', _⟩ => ⟨gT h0' hG', hK', tv⟩) (by
 rintro Rd Bs v65 u' x75 jo' G71 K M wd73 vs ⟨hG72, rfl, _⟩ ⟨_, rfl, hK76⟩ H hI77
 obtain ⟨rfl⟩ := open_font_pair hK76
 replace H : font_Raw_r67 a1 v65 x75 = some (u', jo') := H
 unfold font_Raw_r67 at H
 refine wpc_region<|q_alloc hI77 ze127 fun g79 wd80 hI81=>stk hI81 0 ag127 z z z z z z z fun wd82 hI83=>nl<|have hI89:=Hp.pick 4 [1, 0, 2, 3] hI83 z;?_
 refine ⟨rfl, rfl, _, _, gR, hI89, fun wd85 hI84 => ?_⟩
 refine wb<|sr fun K90 hK91=>lda hI84 3 ag25 z z z z<|fa fl127_1 z<|ld hI84 1 ag5 z z z<|bK2 H fun y97 y98 hy92 H=>cv bo75 (font_glyph_spec hy92 hI84 hl4 (Dat.mono hG72 hD5) hl8 (Dat.mono hG72 hD9)) z z fun wd95 hI96=>mv z<|exk z z<|exk z z<|q_alloc hI96 ze103 fun g100 wd101 hI102=>stk hI102 0 ag103 z z z z z z z fun wd103 hI104=>asn z<|nl<|?_
 refine hK91 _ _ _<|sr fun K105 hK106=>fa fl25_1 z<|ld hI104 4 ag23 z z z<|lda hI104 2 ag127 z z z z<|bK2 H fun y112 y113 hy107 H=>cv bo115 (font_find_font_pair_k1_spec hy107 hI104 hl8 (Dat.mono hG72 hD9)) z z fun wd110 hI111=>mv z<|exk z z<|exk z z<|q_alloc hI111 ze122 fun g115 wd116 hI117=>stk hI117 0 ag122 z z z z z z z fun wd118 hI119=>asn z<|nl<|?_
 refine hK106 _ _ _<|wpc_region<|ld hI119 4 ag3 z z z<|fa fl103_1 z<|ld hI119 1 ag3 z z z<|fa fl122_2 z<|ld hI119 0 ag3 z z z<|q_add z z<|q_add z z<|stk hI119 4 ag3 z z z z z z z fun wd120 hI121=>nl<|have hI125:=Hp.pick 6 [2, 4, 5] hI121 z;?_
 cases H
 exact ⟨z, _, _, gR, ⟨hG72, z, tv⟩, hI125⟩)
 refine have hI149:=Hp.sink (A := [bx g62 [string y63] 9]) (K := [bx g47 [int .i64 0] 3, bx g14 [slice A2 a1.Glyphs.length c3, slice A6 a1.Kerns.length c7] 25]) hI127;(font_pairs_1_k1_spec (sy := (0, none)) hr129 hI149 hY128 ⟨_, z, Gh.le_refl _, z, tv⟩).mono<|?_
 rintro _ wd132 ⟨T136, G130, hG1310, hI133, ⟨K, rfl, hG131, rfl, _⟩, rfl⟩
 refine have hH138:=Hp.front hI133 1 z;?_
 rcases jo69 with _ | j
 refine ⟨_, rfl, LoopState.ready, none, G130, _, (fun h => nomatch h), hH138, fun wd134 hI135 => ?_⟩
 refine hK53 _ _ _<|sr fun K143 hK144=>ld hI135 1 ag3 z z z<|asn z<|asn z<|nl<|hK144 _ _ _<|wr<|?_
 refine ⟨.inr rfl, (gd64 :: ([] : List Nat)), _, _, rfl, Hp.marks (K := [bx g62 [string y63] 9, bx g47 [int .i64 v65] 3, bx g14 [slice A2 a1.Glyphs.length c3, slice A6 a1.Kerns.length c7] 25]) hI135, fun wd146 hI145 => ?_⟩
 refine have hI147:=Hp.pick 3 [] hI145 z;?_
 cases H
 exact ⟨_, ⟨_, _, z, z, ⟨_, _, z, z, z⟩⟩, (Hp.low hG131 hI147), z⟩
 cases H
theorem font_Width_spec {a1 a10 a11 A2 c3 A6 c7 r1012 r1013 G L w} (H : font_Width a1 a10 a11 = some (r1012, r1013)) (hI : Hp G L w) (hl4 : a1.Glyphs.length ≤ c3) (hD5 : Dat k_api_Glyph G A2 a1.Glyphs) (hl8 : a1.Kerns.length ≤ c7) (hD9 : Dat k_api_Kern G A6 a1.Kerns) :
    Calls Tryz.prog 41 [agg [slice A2 a1.Glyphs.length c3, slice A6 a1.Kerns.length c7].toArray, string a10, int .i64 a11].toArray w fun e w' => Hp G L w' ∧ e = .returned (tuple [int .i64 r1012, int .i64 r1013].toArray) := by
 refine calls_intro (N := 34) Tryz.func41 z z (Nat.le_of_ble_eq_true z)<|?_
 unfold font_Width at H
 refine sr fun K12 hK13=>bxk hI z z fun g15 wd16 hI17=>asn z<|asn z<|nl<|hK13 _ _ _<|sr fun K18 hK19=>lda hI17 0 ag25 z z z z<|mv z<|bK2 H fun y25 y26 hy20 H=>cv bo80 (font_Raw_spec hy20 hI17 hl4 hD5 hl8 hD9) z z fun wd23 hI24=>mv z<|exk z z<|exk z z<|?_
 refine asn z<|asn z<|nl<|hK19 _ _ _<|sQ fun K27 hK28=>sr fun K29 hK30=>mv z<|q_eql z z<|mv z<|bK H fun v31 hC H=>js 3 hI24 [(2, int .i64 a11), (8, int .i64 y25), (9, int .i64 y26), (21, bool v31)] ?_ fun _ wd34 hI35=>?_
 refine have H:=hC;dC (y26 = 1) (fun h37=>?_) fun h37=>?_
 refine yK h37 H fun H=>Sk 2 z z (bY h37) z<|pkt (bY h37) z<|nl<|?_
 cases H
 exact je ⟨z, z, z, z, tv⟩ hI24
 refine nK h37 H fun H=>mv (hw:=gY z z z (bN h37)) z<|q_lss (hw:=gY z z z (bN h37)) z z<|pkf (bN h37) z<|nl<|?_
 cases H
 exact je ⟨z, z, z, z, tv⟩ hI24
 refine mv z<|bK H fun v38 hC H=>js 3 hI35 [(2, int .i64 a11), (8, int .i64 y25), (9, int .i64 y26), (25, bool v38)] ?_ fun _ wd41 hI42=>?_
 refine have H:=hC;dC (v31 = true) (fun h44=>?_) fun h44=>?_
 refine yK h44 H fun H=>Sk 2 z z (vY h44) z<|pkt (vY h44) z<|nl<|?_
 cases H
 exact je ⟨z, z, z, z, tv⟩ hI35
 refine nK h44 H fun H=>mv (hw:=gY z z z (vN h44)) z<|q_gtr (hw:=gY z z z (vN h44)) z z<|pkf (vN h44) z<|nl<|?_
 cases H
 exact je ⟨z, z, z, z, tv⟩ hI35
 refine nl<|hK30 _ _ _<|dC (v38 = true) (fun h45=>?_) fun h45=>?_
 refine yK h45 H fun H=>wt (vY h45)<|sr fun K46 hK47=>asn z<|asn z<|nl<|hK47 _ _ _<|wr<|have hI48:=Hp.pick 1 [] hI42 z;?_
 cases H
 exact rt ⟨_, _, z, z, ⟨_, _, z, z, z⟩⟩ hI48
 refine nK h45 H fun H=>wf (vN h45)<|ws<|hK28 _ _ _<|sQ fun K49 hK50=>sr fun K51 hK52=>mv z<|q_neq z z<|nl<|hK52 _ _ _<|dC (¬ y26 = 0) (fun h53=>?_) fun h53=>?_
 refine yK h53 H fun H=>wt (bY h53)<|sr fun K54 hK55=>mv z<|asn z<|asn z<|nl<|hK55 _ _ _<|wr<|have hI56:=Hp.pick 1 [] hI42 z;?_
 cases H
 exact rt ⟨_, _, z, z, ⟨_, _, z, z, z⟩⟩ hI56
 refine nK h53 H fun H=>wf (bN h53)<|ws<|hK50 _ _ _<|sr fun K57 hK58=>mv z<|mv z<|q_mul z z<|q_add z z<|?_
 refine q_quo rfl rfl (by decide) ?_
 refine asn z<|asn z<|nl<|hK58 _ _ _<|wr<|have hI59:=Hp.pick 1 [] hI42 z;?_
 cases H
 exact rt ⟨_, _, z, z, ⟨_, _, z, z, z⟩⟩ hI59
theorem slices_IndexFunc_api_Break_k1_spec {a1 A2 c3 r1006 G L w} (H : slices_IndexFunc_api_Break_k1 a1 = some r1006) (hI : Hp G L w) (hl4 : a1.length ≤ c3) (hD5 : Dat k_api_Break G A2 a1) :
    Calls Tryz.prog 98 [slice A2 a1.length c3, func (.func 68) [].toArray [].toArray].toArray w fun e w' => Hp G L w' ∧ e = .returned (int .i64 r1006) := by
 refine calls_intro (N := 19) Tryz.func98 z z (Nat.le_of_ble_eq_true z)<|?_
 unfold slices_IndexFunc_api_Break_k1 at H
 refine sr fun K6 hK7=>asn z<|nl<|hK7 _ _ _<|sQ fun K8 hK9=>sr fun K10 hK11=>mv z<|q_len so77 z<|mv z<|nl<|hK11 _ _ _<|wb<|bK H fun o32 hC H=>wpc_mono (Q := fun e r ds w => match (generalizing := false) o32 with | (Sum.inl v23) => e = .ret ∧ ds = [] ∧ Has [(4, int .i64 v23)] r ∧ Hp G (L) w ∧ True | (Sum.inr _) => e = .exit 0 ∧ ds = [] ∧ Has [] r ∧ Hp G (L) w ∧ True) ?_ ?_
 refine wpc_loop fun I hLp=>?_
 refine slices_IndexFunc_api_Break_k1_l22.partial_correctness a1 (fun v16 o => ∀ (r : Rg) (w : World), Has [(0, slice A2 a1.length c3), (1, func (.func 68) [].toArray [].toArray), (7, int .i64 (a1.length : Int)), (8, int .i64 v16)] r → Hp G (L) w → o = o32 → I r [] w) ?_ 0 _ hC _ _ ⟨rfl, rfl, rfl, rfl, tv⟩ hI rfl
 intro _ ih v16 o H r wd35 hHas hI36 ho
 rw [ho] at H; clear ho
 rw [hHas.eq]; clear hHas
 refine hLp _ _ _<|sr fun K37 hK38=>q_lss z z<|nl<|hK38 _ _ _<|sQ fun K39 hK40=>dC (v16 < (a1.length : Int)) (fun h41=>?_) fun h41=>?_
 refine yK h41 H fun H=>wt (bY h41)<|ws<|hK40 _ _ _<|sQ fun K42 hK43=>wb<|sr fun K44 hK45=>mv z<|asn z<|nl<|hK45 _ _ _<|sr fun K46 hK47=>mv z<|mv z<|?_
 refine mv z<|iK H fun⟨h48, h48'⟩H=>?_
 obtain ⟨ad49, cs50, hA51, hK52, hn53, hc54⟩ := Dat.get hD5 z_api_Break (v16) h48 h48'
 obtain ⟨rfl⟩ := open_api_Break hK52
 refine q_ia el77 z hA51 z h48 h48'<|q_lfA hI36 ag114 z (cs := [int .i64 ((a1.getD (Int.toNat v16) z_api_Break).At), bool ((a1.getD (Int.toNat v16) z_api_Break).Hyphen)]) z (fun j v hv => gR.cel _ _ (hc54 j v hv))<|bK H fun y60 hy55 H=>cv bo68 (inline_prepare_1_spec (a1 := (a1.getD (Int.toNat v16) z_api_Break)) hy55 hI36) z z fun wd58 hI59=>nl<|hK47 _ _ _<|dC (y60 = true) (fun h61=>?_) fun h61=>?_
 refine yK h61 H fun H=>wt (vY h61)<|sr fun K62 hK63=>mv z<|asn z<|nl<|hK63 _ _ _<|wr<|?_
 cases H
 exact ⟨z, z, ⟨z, tv⟩, hI59, tv⟩
 exact nK h61 H fun H=>wf (vN h61)<|ws<|hK43 _ _ _<|wpc_region<|q_add z z<|mv z<|nl<|ih _ _ H _ _ ⟨z, z, z, z, tv⟩ hI59 z
 refine nK h41 H fun H=>wf (bN h41)<|wx<|?_
 cases H
 exact ⟨z, z, trivial, hI36, tv⟩
 rcases o32 with v23 | _
 rintro e r ds wd26 ⟨rfl, rfl, hHas, hI27, _⟩
 rw [hHas.eq]; clear hHas
 cases H
 exact rt ⟨_, _, z, z, z⟩ hI27
 rintro e r ds wd30 ⟨rfl, rfl, hHas, hI31, _⟩
 rw [hHas.eq]; clear hHas
 refine hK9 _ _ _<|sr fun K64 hK65=>asn z<|nl<|hK65 _ _ _<|wr<|?_
 cases H
 exact rt ⟨_, _, z, z, z⟩ hI31
theorem slices_ContainsFunc_api_Break_k1_spec {a1 A2 c3 r1006 G L w} (H : slices_ContainsFunc_api_Break_k1 a1 = some r1006) (hI : Hp G L w) (hl4 : a1.length ≤ c3) (hD5 : Dat k_api_Break G A2 a1) :
    Calls Tryz.prog 67 [slice A2 a1.length c3, func (.func 68) [].toArray [].toArray].toArray w fun e w' => Hp G L w' ∧ e = .returned (bool r1006) := by
 refine calls_intro (N := 9) Tryz.func67 z z (Nat.le_of_ble_eq_true z)<|?_
 unfold slices_ContainsFunc_api_Break_k1 at H
 refine sr fun K6 hK7=>asn z<|nl<|hK7 _ _ _<|sr fun K8 hK9=>mv z<|mv z<|bK H fun y15 hy10 H=>cv bo98 (slices_IndexFunc_api_Break_k1_spec hy10 hI hl4 hD5) z z fun wd13 hI14=>q_geq z z<|asn z<|nl<|hK9 _ _ _<|wr<|?_
 cases H
 exact rt ⟨_, _, z, z, z⟩ hI14
theorem inline_prepare_spec {a1 a10 a15 a16 A2 c3 A6 c7 A11 c12} {rr : (Sum (ByteArray × (List api_Break)) (Sum (ByteArray × (List api_Break)) (ByteArray × (List api_Break) × api_Font × Int)))} {G L w} (H : inline_prepare a1 a10 a15 a16 = some rr) (hI : Hp G L w) (hl4 : a1.Glyphs.length ≤ c3) (hD5 : Dat k_api_Glyph G A2 a1.Glyphs) (hl8 : a1.Kerns.length ≤ c7) (hD9 : Dat k_api_Kern G A6 a1.Kerns) (hl13 : a10.Keep.length ≤ c12) (hD14 : Dat Kd.str G A11 a10.Keep) :
    Calls Tryz.prog 35 [agg [slice A2 a1.Glyphs.length c3, slice A6 a1.Kerns.length c7].toArray, agg [int .i64 a10.Before, int .i64 a10.Behind, slice A11 a10.Keep.length c12].toArray, string a15, int .i64 a16].toArray w fun e w' => match (generalizing := false) rr with | (Sum.inl (r1017, r1018)) => ∃ (A1019 : Option Addr) (c1020 : Nat) (G' : Gh), G ≤ G' ∧ Hp G' (tk (slice A1019 r1018.length c1020) 2 114 :: L) w' ∧ r1018.length ≤ c1020 ∧ Dat k_api_Break G' A1019 r1018 ∧ Own A1019 c1020 ∧ e = .returned (tuple [agg [string r1017, slice A1019 r1018.length c1020, Value.nilFunc].toArray, int .i64 1].toArray) | (Sum.inr (Sum.inl (r2025, r2026))) => ∃ (A2027 : Option Addr) (c2028 : Nat) (G' : Gh), G ≤ G' ∧ Hp G' (tk (slice A2027 r2026.length c2028) 2 114 :: L) w' ∧ r2026.length ≤ c2028 ∧ Dat k_api_Break G' A2027 r2026 ∧ Own A2027 c2028 ∧ e = .returned (tuple [agg [string r2025, slice A2027 r2026.length c2028, Value.nilFunc].toArray, int .i64 20].toArray) | (Sum.inr (Sum.inr (r3033, r3034, r3043, r3054))) => ∃ (A3035 : Option Addr) (c3036 : Nat) (g3042 : Nat) (A3044 : Option Addr) (c3045 : Nat) (A3048 : Option Addr) (c3049 : Nat) (g3053 : Nat) (G' : Gh), G ≤ G' ∧ Hp G' (tk (slice A3035 r3034.length c3036) 2 114 :: bx g3042 [slice A3044 r3043.Glyphs.length c3045, slice A3048 r3043.Kerns.length c3049] 25 :: bx g3053 [int .i64 r3054] 3 :: L) w' ∧ r3034.length ≤ c3036 ∧ Dat k_api_Break G' A3035 r3034 ∧ Own A3035 c3036 ∧ r3043.Glyphs.length ≤ c3045 ∧ Dat k_api_Glyph G' A3044 r3043.Glyphs ∧ r3043.Kerns.length ≤ c3049 ∧ Dat k_api_Kern G' A3048 r3043.Kerns ∧ e = .returned (tuple [agg [string r3033, slice A3035 r3034.length c3036, func (.func 70) [].toArray [pointer (some ⟨g3042, 0, none⟩), pointer (some ⟨g3053, 0, none⟩)].toArray].toArray, int .i64 0].toArray) := by
 refine calls_intro (N := 68) Tryz.func35 z z (Nat.le_of_ble_eq_true z)<|?_
 unfold inline_prepare at H
 refine sr fun K17 hK18=>bxk hI z z fun g20 wd21 hI22=>bxk hI22 z z fun g24 wd25 hI26=>bxk hI26 z z fun g28 wd29 hI30=>q_alloc hI30 ze79 fun g32 wd33 hI34=>asn z<|nl<|hK18 _ _ _<|sr fun K35 hK36=>lda hI34 2 ag28 z z z z<|mv z<|bK2 H fun y42 y49 hy37 H=>q_cv (vs := [agg [int .i64 a10.Before, int .i64 a10.Behind, slice A11 a10.Keep.length c12].toArray, string a15]) bo66 z z (breaks_List_spec hy37 hI34 hl13 hD14)<|?_
 rintro _ wd40 ⟨A43, c44, G38, hG39, hI41, hl45, hD46, ho47, rfl⟩
 refine ⟨_, rfl, ?_⟩
 refine mv z<|exk z z<|exk z z<|asn z<|asn z<|nl<|hK36 _ _ _<|sQ fun K50 hK51=>sr fun K52 hK53=>mv z<|q_neq z z<|mv z<|bK H fun v54 hC H=>?_
 refine jS 4 G38 [(2, string a15), (4, pointer (some ⟨g20, 0, none⟩)), (7, pointer (some ⟨g28, 0, none⟩)), (8, pointer (some ⟨g32, 0, none⟩)), (10, slice A43 y42.length c44), (30, bool v54)] (bx g32 [string (⟨#[]⟩ : ByteArray), slice none 0 0, Value.nilFunc] 79 :: bx g28 [int .i64 a16] 3 :: bx g24 [int .i64 a10.Before, int .i64 a10.Behind, slice A11 a10.Keep.length c12] 28 :: bx g20 [slice A2 a1.Glyphs.length c3, slice A6 a1.Kerns.length c7] 25 :: tk (slice A43 y42.length c44) 2 114 :: L) ?_ fun _ wd57 hI58=>?_
 refine have H:=hC;dC (¬ y49 = 0) (fun h60=>?_) fun h60=>?_
 refine yK h60 H fun H=>Sk 3 z z (bY h60) z<|pkt (bY h60) z<|nl<|have hI64:=Hp.pick 5 [1, 2, 3, 4, 0] hI41 z;?_
 cases H
 exact je ⟨z, z, z, z, z, z, tv⟩ hI64
 refine nK h60 H fun H=>lda (hw:=gY z z z (bN h60)) hI41 4 ag25 z z z z<|bK H fun y70 hy65 H=>cv (hw:=gY z z z (bN h60)) bo38 (font_Valid_spec hy65 hI41 hl4 (Dat.mono hG39 hD5) hl8 (Dat.mono hG39 hD9)) z z fun wd68 hI69=>q_not (hw:=gY z z z (bN h60)) z<|pkf (bN h60) z<|nl<|have hI74:=Hp.pick 5 [1, 2, 3, 4, 0] hI69 z;?_
 cases H
 exact je ⟨z, z, z, z, z, z, tv⟩ hI74
 refine mv z<|bK H fun v75 hC H=>js 4 hI58 [(2, string a15), (4, pointer (some ⟨g20, 0, none⟩)), (7, pointer (some ⟨g28, 0, none⟩)), (8, pointer (some ⟨g32, 0, none⟩)), (10, slice A43 y42.length c44), (35, bool v75)] ?_ fun _ wd78 hI79=>?_
 refine have H:=hC;dC (v54 = true) (fun h81=>?_) fun h81=>?_
 refine yK h81 H fun H=>Sk 3 z z (vY h81) z<|pkt (vY h81) z<|nl<|?_
 cases H
 exact je ⟨z, z, z, z, z, z, tv⟩ hI58
 refine nK h81 H fun H=>ld (hw:=gY z z z (vN h81)) hI58 1 ag3 z z z<|bK H fun y87 hy82 H=>cv (hw:=gY z z z (vN h81)) bo33 (inline_within_int_spec hy82 hI58) z z fun wd85 hI86=>q_not (hw:=gY z z z (vN h81)) z<|pkf (vN h81) z<|nl<|?_
 cases H
 exact je ⟨z, z, z, z, z, z, tv⟩ hI86
 refine nl<|hK53 _ _ _<|dC (v75 = true) (fun h88=>?_) fun h88=>?_
 refine yK h88 H fun H=>wt (vY h88)<|sr fun K89 hK90=>q_build (vs := []) (cs := [string (⟨#[]⟩ : ByteArray), slice none 0 0, Value.nilFunc]) ze79 pl79 z z<|stk hI79 0 ag79 z z z z z z z fun wd91 hI92=>asn z<|nl<|hK90 _ _ _<|wr<|have hr93:=res_cell (P := Tryz.prog) hI92 0 (cs := [string (⟨#[]⟩ : ByteArray), slice none 0 0, Value.nilFunc]) (g := g32) (o := 0) ag79 z z z;have hI94:=Hp.emp hI92;have hI96:=Hp.pick 6 [0] hI94 z;?_
 cases H
 exact ⟨.inr z, z, _, ⟨_, _, _, z, z, hr93, ⟨_, _, z, z, z⟩⟩, none, 0, _, hG39, hI96, (show ([] : List api_Break).length ≤ 0 from Nat.le_refl 0), (Dat.nil _ _ _), Own.nil, z⟩
 refine nK h88 H fun H=>wf (vN h88)<|ws<|hK51 _ _ _<|sr fun K97 hK98=>mv z<|asn z<|nl<|hK98 _ _ _<|sQ fun K99 hK100=>sr fun K101 hK102=>mv z<|bK H fun y108 hy103 H=>cv bo67 (slices_ContainsFunc_api_Break_k1_spec hy103 hI79 hl45 hD46) z z fun wd106 hI107=>?_
 refine nl<|hK102 _ _ _<|dC (y108 = true) (fun h109=>?_) fun h109=>?_
 refine yK h109 H fun H=>wt (vY h109)<|sr fun K110 hK111=>asn z<|nl<|hK111 _ _ _<|sr fun K112 hK113=>lda hI107 3 ag25 z z z z<|mv z<|bK2 H fun y119 y120 hy114 H=>cv bo69 (font_Has_spec hy114 hI107 hl4 (Dat.mono hG39 hD5) hl8 (Dat.mono hG39 hD9)) z z fun wd117 hI118=>mv z<|exk z z<|exk z z<|?_
 refine asn z<|asn z<|nl<|hK113 _ _ _<|sr fun K121 hK122=>mv z<|q_not z<|nl<|hK122 _ _ _<|dC ((!y119) = true) (fun h123=>?_) fun h123=>?_
 refine yK h123 H fun H=>wt (vY h123)<|sr fun K124 hK125=>q_build (vs := []) (cs := [string (⟨#[]⟩ : ByteArray), slice none 0 0, Value.nilFunc]) ze79 pl79 z z<|stk hI118 0 ag79 z z z z z z z fun wd126 hI127=>asn z<|nl<|hK125 _ _ _<|wr<|have hr128:=res_cell (P := Tryz.prog) hI127 0 (cs := [string (⟨#[]⟩ : ByteArray), slice none 0 0, Value.nilFunc]) (g := g32) (o := 0) ag79 z z z;have hI129:=Hp.emp hI127;have hI131:=Hp.pick 6 [0] hI129 z;?_
 cases H
 exact ⟨.inr z, z, _, ⟨_, _, _, z, z, hr128, ⟨_, _, z, z, z⟩⟩, none, 0, _, hG39, hI131, (show ([] : List api_Break).length ≤ 0 from Nat.le_refl 0), (Dat.nil _ _ _), Own.nil, z⟩
 refine nK h123 H fun H=>wf (vN h123)<|ws<|hK100 _ _ _<|sQ fun K132 hK133=>sr fun K134 hK135=>lda hI118 3 ag25 z z z z<|mv z<|bK2 H fun y141 y142 hy136 H=>cv bo69 (font_Has_spec hy136 hI118 hl4 (Dat.mono hG39 hD5) hl8 (Dat.mono hG39 hD9)) z z fun wd139 hI140=>mv z<|exk z z<|exk z z<|asn z<|?_
 refine asn z<|nl<|hK135 _ _ _<|sr fun K143 hK144=>mv z<|q_not z<|nl<|hK144 _ _ _<|dC ((!y141) = true) (fun h145=>?_) fun h145=>?_
 refine yK h145 H fun H=>wt (vY h145)<|sr fun K146 hK147=>q_build (vs := []) (cs := [string (⟨#[]⟩ : ByteArray), slice none 0 0, Value.nilFunc]) ze79 pl79 z z<|stk hI140 0 ag79 z z z z z z z fun wd148 hI149=>asn z<|nl<|hK147 _ _ _<|wr<|have hr150:=res_cell (P := Tryz.prog) hI149 0 (cs := [string (⟨#[]⟩ : ByteArray), slice none 0 0, Value.nilFunc]) (g := g32) (o := 0) ag79 z z z;have hI151:=Hp.emp hI149;have hI153:=Hp.pick 6 [0] hI151 z;?_
 cases H
 exact ⟨.inr z, z, _, ⟨_, _, _, z, z, hr150, ⟨_, _, z, z, z⟩⟩, none, 0, _, hG39, hI153, (show ([] : List api_Break).length ≤ 0 from Nat.le_refl 0), (Dat.nil _ _ _), Own.nil, z⟩
 refine nK h145 H fun H=>wf (vN h145)<|ws<|hK133 _ _ _<|sr fun K154 hK155=>q_fn (vs := []) (us := [pointer (some ⟨g20, 0, none⟩), pointer (some ⟨g28, 0, none⟩)]) z z<|asn z<|nl<|hK155 _ _ _<|sr fun K156 hK157=>mv z<|mv z<|mv z<|q_lens so9 z<|?_
 refine q_build (vs := [(0, int .i64 (a15.size : Int))]) (cs := [int .i64 (a15.size : Int), bool false]) ze114 pl114 z z<|?_
 refine q_bs hI140 (vs := [(0, agg [int .i64 (a15.size : Int), bool false].toArray)]) (cs := [int .i64 (a15.size : Int), bool false]) el77 ze114 rfl (by decide) rfl rfl (fun g159 wd160 hI161 => ?_)
 refine iK H fun h171 H=>?_
 refine q_app (xs := y42) (ys := [(⟨(a15.size : Int), false⟩ : api_Break)]) k_api_Break hI161 5 el77 ze114 rfl rfl rfl rfl ho47 hl45 hD46 (src_bx hI161 0 so77 rfl rfl) ⟨[int .i64 (a15.size : Int), bool false], _, rfl, (mk_api_Break (x := (⟨(a15.size : Int), false⟩ : api_Break))), rfl⟩ rfl (by simp only [List.length_cons, List.length_nil]; omega) (by simp only [List.length_cons, List.length_nil]; omega) (fun A162 c163 G164 wd165 hG166 ho167 hl168 hD169 hI170 => ?_)
 refine mv z<|q_build (vs := [(0, string a15), (1, slice A162 (y42 ++ [(⟨(a15.size : Int), false⟩ : api_Break)]).length c163), (2, func (.func 70) [].toArray [pointer (some ⟨g20, 0, none⟩), pointer (some ⟨g28, 0, none⟩)].toArray)]) (cs := [string a15, slice A162 (y42 ++ [(⟨(a15.size : Int), false⟩ : api_Break)]).length c163, func (.func 70) [].toArray [pointer (some ⟨g20, 0, none⟩), pointer (some ⟨g28, 0, none⟩)].toArray]) ze79 pl79 z z<|stk hI170 1 ag79 z z z z z z z fun wd172 hI173=>asn z<|nl<|hK157 _ _ _<|wr<|have hr174:=res_cell (P := Tryz.prog) hI173 1 (cs := [string a15, slice A162 (y42 ++ [(⟨(a15.size : Int), false⟩ : api_Break)]).length c163, func (.func 70) [].toArray [pointer (some ⟨g20, 0, none⟩), pointer (some ⟨g28, 0, none⟩)].toArray]) (g := g32) (o := 0) ag79 z z z;have hI178:=Hp.pick 6 [5, 4, 2] hI173 z;?_
 cases H
 exact ⟨.inr z, z, _, ⟨_, _, _, z, z, hr174, ⟨_, _, z, z, z⟩⟩, A162, c163, g20, A2, c3, A6, c7, g28, _, (gT hG39 hG166), hI178, hl168, hD169, ho167, hl4, (Dat.mono (gT hG39 hG166) hD5), hl8, (Dat.mono (gT hG39 hG166) hD9), z⟩
 refine nK h109 H fun H=>wf (vN h109)<|ws<|hK100 _ _ _<|sQ fun K179 hK180=>sr fun K181 hK182=>lda hI107 3 ag25 z z z z<|mv z<|bK2 H fun y188 y189 hy183 H=>cv bo69 (font_Has_spec hy183 hI107 hl4 (Dat.mono hG39 hD5) hl8 (Dat.mono hG39 hD9)) z z fun wd186 hI187=>mv z<|exk z z<|exk z z<|asn z<|?_
 refine asn z<|nl<|hK182 _ _ _<|sr fun K190 hK191=>mv z<|q_not z<|nl<|hK191 _ _ _<|dC ((!y188) = true) (fun h192=>?_) fun h192=>?_
 refine yK h192 H fun H=>wt (vY h192)<|sr fun K193 hK194=>q_build (vs := []) (cs := [string (⟨#[]⟩ : ByteArray), slice none 0 0, Value.nilFunc]) ze79 pl79 z z<|stk hI187 0 ag79 z z z z z z z fun wd195 hI196=>asn z<|nl<|hK194 _ _ _<|wr<|have hr197:=res_cell (P := Tryz.prog) hI196 0 (cs := [string (⟨#[]⟩ : ByteArray), slice none 0 0, Value.nilFunc]) (g := g32) (o := 0) ag79 z z z;have hI198:=Hp.emp hI196;have hI200:=Hp.pick 6 [0] hI198 z;?_
 cases H
 exact ⟨.inr z, z, _, ⟨_, _, _, z, z, hr197, ⟨_, _, z, z, z⟩⟩, none, 0, _, hG39, hI200, (show ([] : List api_Break).length ≤ 0 from Nat.le_refl 0), (Dat.nil _ _ _), Own.nil, z⟩
 refine nK h192 H fun H=>wf (vN h192)<|ws<|hK180 _ _ _<|sr fun K201 hK202=>q_fn (vs := []) (us := [pointer (some ⟨g20, 0, none⟩), pointer (some ⟨g28, 0, none⟩)]) z z<|asn z<|nl<|hK202 _ _ _<|sr fun K203 hK204=>mv z<|mv z<|mv z<|q_lens so9 z<|?_
 refine q_build (vs := [(0, int .i64 (a15.size : Int))]) (cs := [int .i64 (a15.size : Int), bool false]) ze114 pl114 z z<|?_
 refine q_bs hI187 (vs := [(0, agg [int .i64 (a15.size : Int), bool false].toArray)]) (cs := [int .i64 (a15.size : Int), bool false]) el77 ze114 rfl (by decide) rfl rfl (fun g206 wd207 hI208 => ?_)
 refine iK H fun h218 H=>?_
 refine q_app (xs := y42) (ys := [(⟨(a15.size : Int), false⟩ : api_Break)]) k_api_Break hI208 5 el77 ze114 rfl rfl rfl rfl ho47 hl45 hD46 (src_bx hI208 0 so77 rfl rfl) ⟨[int .i64 (a15.size : Int), bool false], _, rfl, (mk_api_Break (x := (⟨(a15.size : Int), false⟩ : api_Break))), rfl⟩ rfl (by simp only [List.length_cons, List.length_nil]; omega) (by simp only [List.length_cons, List.length_nil]; omega) (fun A209 c210 G211 wd212 hG213 ho214 hl215 hD216 hI217 => ?_)
 refine mv z<|q_build (vs := [(0, string a15), (1, slice A209 (y42 ++ [(⟨(a15.size : Int), false⟩ : api_Break)]).length c210), (2, func (.func 70) [].toArray [pointer (some ⟨g20, 0, none⟩), pointer (some ⟨g28, 0, none⟩)].toArray)]) (cs := [string a15, slice A209 (y42 ++ [(⟨(a15.size : Int), false⟩ : api_Break)]).length c210, func (.func 70) [].toArray [pointer (some ⟨g20, 0, none⟩), pointer (some ⟨g28, 0, none⟩)].toArray]) ze79 pl79 z z<|stk hI217 1 ag79 z z z z z z z fun wd219 hI220=>asn z<|nl<|hK204 _ _ _<|wr<|have hr221:=res_cell (P := Tryz.prog) hI220 1 (cs := [string a15, slice A209 (y42 ++ [(⟨(a15.size : Int), false⟩ : api_Break)]).length c210, func (.func 70) [].toArray [pointer (some ⟨g20, 0, none⟩), pointer (some ⟨g28, 0, none⟩)].toArray]) (g := g32) (o := 0) ag79 z z z;have hI225:=Hp.pick 6 [5, 4, 2] hI220 z;?_
 cases H
 exact ⟨.inr z, z, _, ⟨_, _, _, z, z, hr221, ⟨_, _, z, z, z⟩⟩, A209, c210, g20, A2, c3, A6, c7, g28, _, (gT hG39 hG213), hI225, hl215, hD216, ho214, hl4, (Dat.mono (gT hG39 hG213) hD5), hl8, (Dat.mono (gT hG39 hG213) hD9), z⟩
theorem text_Words_spec {a1 r1002 r1003 G L w} (H : text_Words a1 = some (r1002, r1003)) (hI : Hp G L w) :
    Calls Tryz.prog 73 [string a1].toArray w fun e w' => Hp G L w' ∧ e = .returned (tuple [int .i64 r1002, int .i64 r1003].toArray) := by
 refine calls_intro (N := 32) Tryz.func73 z z (Nat.le_of_ble_eq_true z)<|?_
 unfold text_Words at H
 refine sr fun K2 hK3=>asn z<|asn z<|nl<|hK3 _ _ _<|sQ fun K4 hK5=>sr fun K6 hK7=>mv z<|bK H fun y13 hy8 H=>cv bo39 (text_Valid_spec hy8 hI) z z fun wd11 hI12=>q_not z<|nl<|hK7 _ _ _<|dC ((!y13) = true) (fun h14=>?_) fun h14=>?_
 refine yK h14 H fun H=>wt (vY h14)<|sr fun K15 hK16=>asn z<|asn z<|nl<|hK16 _ _ _<|wr<|?_
 cases H
 exact rt ⟨_, _, z, z, ⟨_, _, z, z, z⟩⟩ hI12
 refine nK h14 H fun H=>wf (vN h14)<|ws<|hK5 _ _ _<|sr fun K17 hK18=>asn z<|asn z<|nl<|hK18 _ _ _<|sQ fun K19 hK20=>sr fun K21 hK22=>mv z<|q_rgs hI12 so9 z fun g24 wd25 hI26=>nl<|?_
 refine hK22 _ _ _<|wb<|bK2 H fun v42 v43 hC H=>wpc_mono (Q := fun e r ds w => e = .exit 0 ∧ ds = [] ∧ Has [(4, int .i64 v42)] r ∧ Hp G (ob g24 (Obj.stringIter a1 v43) :: L) w ∧ True) ?_ ?_
 refine wpc_loop fun I hLp=>?_
 refine text_Words_l41.partial_correctness a1 (fun v31 v32 v33 o => ∀ (r : Rg) (w : World), Has [(4, int .i64 v31), (5, bool v32), (12, pointer (some ⟨g24, 0, none⟩))] r → Hp G (ob g24 (Obj.stringIter a1 v33) :: L) w → o = (v42, v43) → I r [] w) ?_ 0 false 0 _ hC _ _ ⟨rfl, rfl, rfl, tv⟩ hI26 rfl
 intro _ ih v31 v32 v33 o H r wd51 hHas hI52 ho
 rw [ho] at H; clear ho
 rw [hHas.eq]; clear hHas
 refine hLp _ _ _<|sr fun K53 hK54=>dC (v33 < a1.size) (fun h55=>?_) fun h55=>?_
 refine yK h55 H fun H=>q_nxy hI52 0 z z h55 fun wd56 hI57=>exk z z<|nl<|hK54 _ _ _<|sQ fun K58 hK59=>wt z<|ws<|hK59 _ _ _<|wb<|sr fun K60 hK61=>exk z z<|asn z<|nl<|?_
 refine hK61 _ _ _<|sr fun K62 hK63=>mv z<|q_cvi ik21 ik5 z<|bK H fun y69 hy64 H=>cv bo77 (text_Class_spec hy64 hI57) z z fun wd67 hI68=>nl<|hK63 _ _ _<|wb<|sQ fun K70 hK71=>bK H fun o81 hC H=>?_
 refine wpc_mono (Q := fun e r ds w => match (generalizing := false) o81 with | (Sum.inl _) => e = .normal ∧ ds = [] ∧ Has [(4, int .i64 v31), (5, bool v32), (12, pointer (some ⟨g24, 0, none⟩))] r ∧ Hp G (ob g24 (Obj.stringIter a1 (v33 + (Utf8.decode a1 v33).2)) :: L) w ∧ True | (Sum.inr v72) => e = .exit 2 ∧ ds = [] ∧ Has [(4, int .i64 v31), (5, bool v72), (12, pointer (some ⟨g24, 0, none⟩))] r ∧ Hp G (ob g24 (Obj.stringIter a1 (v33 + (Utf8.decode a1 v33).2)) :: L) w ∧ True) ?_ ?_
 refine have H:=hC;wb<|wb<|sQ fun K82 hK83=>wb<|sQ fun K84 hK85=>bK H fun o102 hC H=>?_
 refine wpc_mono (Q := fun e r ds w => match (generalizing := false) o102 with | (Sum.inl _) => e = .normal ∧ ds = [] ∧ Has [(4, int .i64 v31), (5, bool v32), (12, pointer (some ⟨g24, 0, none⟩))] r ∧ Hp G (ob g24 (Obj.stringIter a1 (v33 + (Utf8.decode a1 v33).2)) :: L) w ∧ True | (Sum.inr (Sum.inl _)) => e = .exit 6 ∧ ds = [] ∧ Has [(4, int .i64 v31), (5, bool v32), (12, pointer (some ⟨g24, 0, none⟩))] r ∧ Hp G (ob g24 (Obj.stringIter a1 (v33 + (Utf8.decode a1 v33).2)) :: L) w ∧ True | (Sum.inr (Sum.inr (Sum.inl _))) => e = .exit 5 ∧ ds = [] ∧ Has [(4, int .i64 v31), (5, bool v32), (12, pointer (some ⟨g24, 0, none⟩))] r ∧ Hp G (ob g24 (Obj.stringIter a1 (v33 + (Utf8.decode a1 v33).2)) :: L) w ∧ True | (Sum.inr (Sum.inr (Sum.inr _))) => e = .exit 4 ∧ ds = [] ∧ Has [(4, int .i64 v31), (12, pointer (some ⟨g24, 0, none⟩))] r ∧ Hp G (ob g24 (Obj.stringIter a1 (v33 + (Utf8.decode a1 v33).2)) :: L) w ∧ True) ?_ ?_
 refine have H:=hC;wb<|sQ fun K103 hK104=>sQ fun K105 hK106=>sr fun K107 hK108=>q_eql z z<|asn z<|nl<|hK108 _ _ _<|dC (y69 = 6) (fun h109=>?_) fun h109=>?_
 refine yK h109 H fun H=>wt (bY h109)<|wx<|?_
 cases H
 exact ⟨z, z, ⟨z, z, z, tv⟩, hI68, tv⟩
 refine nK h109 H fun H=>wf (bN h109)<|ws<|hK106 _ _ _<|sQ fun K110 hK111=>sr fun K112 hK113=>q_eql z z<|asn z<|nl<|hK113 _ _ _<|dC (y69 = 4) (fun h114=>?_) fun h114=>?_
 refine yK h114 H fun H=>wt (bY h114)<|wx<|?_
 cases H
 exact ⟨z, z, ⟨z, z, tv⟩, hI68, tv⟩
 refine nK h114 H fun H=>wf (bN h114)<|ws<|hK111 _ _ _<|sQ fun K115 hK116=>sr fun K117 hK118=>q_eql z z<|asn z<|nl<|hK118 _ _ _<|dC (y69 = 1) (fun h119=>?_) fun h119=>?_
 refine yK h119 H fun H=>wt (bY h119)<|ws<|hK116 _ _ _<|wt (bY h119)<|wx<|?_
 cases H
 exact ⟨z, z, ⟨z, z, z, tv⟩, hI68, tv⟩
 refine nK h119 H fun H=>wf (bN h119)<|sr fun K120 hK121=>q_eql z z<|asn z<|nl<|hK121 _ _ _<|dC (y69 = 2) (fun h122=>?_) fun h122=>?_
 refine yK h122 H fun H=>wt (bY h122)<|ws<|hK116 _ _ _<|wt (bY h122)<|wx<|?_
 cases H
 exact ⟨z, z, ⟨z, z, z, tv⟩, hI68, tv⟩
 refine nK h122 H fun H=>wf (bN h122)<|wpc_region<|q_eql z z<|asn z<|nl<|hK116 _ _ _<|dC (y69 = 3) (fun h123=>?_) fun h123=>?_
 refine yK h123 H fun H=>wt (bY h123)<|wx<|?_
 cases H
 exact ⟨z, z, ⟨z, z, z, tv⟩, hI68, tv⟩
 refine nK h123 H fun H=>wf (bN h123)<|ws<|hK104 _ _ _<|wx<|?_
 cases H
 exact ⟨z, z, ⟨z, z, z, tv⟩, hI68, tv⟩
 rcases o102 with _ | _ | _ | _
 rintro e r ds wd88 ⟨rfl, rfl, hHas, hI89, _⟩
 rw [hHas.eq]; clear hHas
 refine hK85 _ _ _<|wx<|?_
 cases H
 exact ⟨z, z, ⟨z, z, z, tv⟩, hI89, tv⟩
 rintro e r ds wd92 ⟨rfl, rfl, hHas, hI93, _⟩
 rw [hHas.eq]; clear hHas
 cases H
 exact ⟨z, z, ⟨z, z, z, tv⟩, hI93, tv⟩
 rintro e r ds wd96 ⟨rfl, rfl, hHas, hI97, _⟩
 rw [hHas.eq]; clear hHas
 cases H
 exact ⟨z, z, ⟨z, z, z, tv⟩, hI97, tv⟩
 rintro e r ds wd100 ⟨rfl, rfl, hHas, hI101, _⟩
 rw [hHas.eq]; clear hHas
 refine hK83 _ _ _<|sr fun K124 hK125=>asn z<|nl<|hK125 _ _ _<|wx<|?_
 cases H
 exact ⟨z, z, ⟨z, z, z, tv⟩, hI101, tv⟩
 rcases o81 with _ | v72
 rintro e r ds wd75 ⟨rfl, rfl, hHas, hI76, _⟩
 rw [hHas.eq]; clear hHas
 refine hK71 _ _ _<|sQ fun K126 hK127=>sQ fun K128 hK129=>sr fun K130 hK131=>mv z<|q_not z<|nl<|hK131 _ _ _<|dC ((!v32) = true) (fun h132=>?_) fun h132=>?_
 exact yK h132 H fun H=>wt (vY h132)<|wpc_region<|mv z<|q_add z z<|asn z<|nl<|hK129 _ _ _<|wpc_region<|asn z<|nl<|hK127 _ _ _<|wx<|ih _ _ _ _ H _ _ ⟨z, z, z, tv⟩ hI76 z
 exact nK h132 H fun H=>wf (vN h132)<|ws<|hK129 _ _ _<|wpc_region<|asn z<|nl<|hK127 _ _ _<|wx<|ih _ _ _ _ H _ _ ⟨z, z, z, tv⟩ hI76 z
 rintro e r ds wd79 ⟨rfl, rfl, hHas, hI80, _⟩
 rw [hHas.eq]; clear hHas
 exact ih _ _ _ _ H _ _ ⟨z, z, z, tv⟩ hI80 z
 refine nK h55 H fun H=>q_nxn hI52 0 z z h55<|exk z z<|nl<|hK54 _ _ _<|sQ fun K133 hK134=>wf z<|wx<|?_
 cases H
 exact ⟨z, z, ⟨z, tv⟩, hI52, tv⟩
 rintro e r ds wd46 ⟨rfl, rfl, hHas, hI47, _⟩
 rw [hHas.eq]; clear hHas
 refine hK20 _ _ _<|sr fun K135 hK136=>mv z<|asn z<|asn z<|nl<|hK136 _ _ _<|wr<|have hI137:=Hp.pick 1 [] hI47 z;?_
 cases H
 exact rt ⟨_, _, z, z, ⟨_, _, z, z, z⟩⟩ hI137
theorem slices_Backward_api_Break_spec {a1 A2 c3 r1008 G L w} (H : slices_Backward_api_Break a1 = some r1008) (hI : Hp G L w) (hl4 : a1.length ≤ c3) (hD5 : Dat k_api_Break G A2 a1) :
    Calls Tryz.prog 100 [slice A2 a1.length c3].toArray w fun e w' => ∃ (g1007 : Nat) (A1009 : Option Addr) (c1010 : Nat) (G' : Gh), G ≤ G' ∧ Hp G' (bx g1007 [slice A1009 r1008.length c1010] 77 :: L) w' ∧ r1008.length ≤ c1010 ∧ Dat k_api_Break G' A1009 r1008 ∧ e = .returned (func (.func 132) [].toArray [pointer (some ⟨g1007, 0, none⟩)].toArray) := by
 refine calls_intro (N := 4) Tryz.func100 z z (Nat.le_of_ble_eq_true z)<|?_
 unfold slices_Backward_api_Break at H
 refine sr fun K6 hK7=>bxk hI z z fun g9 wd10 hI11=>asn z<|nl<|hK7 _ _ _<|sr fun K12 hK13=>q_fn (vs := []) (us := [pointer (some ⟨g9, 0, none⟩)]) z z<|asn z<|nl<|hK13 _ _ _<|wr<|?_
 cases H
 exact ⟨.inr z, z, _, ⟨_, _, z, z, z⟩, g9, A2, c3, _, gR, hI11, hl4, hD5, z⟩
theorem strings_Trim_spec {a0 a1 r0 G L w} (H : strings_Trim a0 a1 = some r0) (hI : Hp G L w) :
    Calls Tryz.prog 78 [string a0, string a1].toArray w fun e w' => Hp G L w' ∧ e = .returned (string r0) := by
 refine low_of<|?_
 unfold strings_Trim at H
 refine iK H fun hs H=>?_
 split at H
 rename_i b hb
 refine iK H fun hc H=>?_
 cases H
 rw [one_byte hb]
 exact of_drew hI (Any.strings_Trim_one Tryz.l160 a0 b hc w hs)
 cases H
theorem strings_ReplaceAll_spec {a0 a1 a2 r0 G L w} (H : strings_ReplaceAll a0 a1 a2 = some r0) (hI : Hp G L w) (hgl : Gl G) :
    Calls Tryz.prog 79 [string a0, string a1, string a2].toArray w fun e w' => Hp G L w' ∧ e = .returned (string r0) := by
 refine low_of<|?_
 unfold strings_ReplaceAll at H
 refine iK H fun⟨hs, h1, h2⟩H=>?_
 cases H
 obtain ⟨m, hm⟩ := (hgl.get hI).maxlen
 exact of_below hI (Any.strings_ReplaceAll { Tryz.lM155 with } Tryz_extra a0 a1 a2 m w hs hm h1 (by rw [h2]; omega))
theorem inline_seen_spec {a1 a2 a3 a4 r1005 G L w} (H : inline_seen a1 a2 a3 a4 = some r1005) (hI : Hp G L w) (hgl : Gl G) :
    Calls Tryz.prog 40 [string a1, int .i64 a2, int .i64 a3, bool a4].toArray w fun e w' => Hp G L w' ∧ e = .returned (string r1005) := by
 refine calls_intro (N := 20) Tryz.func40 z z (Nat.le_of_ble_eq_true z)<|?_
 unfold inline_seen at H
 refine sr fun K5 hK6=>asn z<|nl<|hK6 _ _ _<|sr fun K7 hK8=>mv z<|mv z<|mv z<|iK H fun⟨h9, h10, h11⟩H=>q_ss (l := a2) (h := a3) so9 z (.inr ⟨_, z, z⟩) (.inr ⟨_, z, z⟩) h9 h10 h11<|bK H fun y17 hy12 H=>cv bo79 (strings_ReplaceAll_spec hy12 hI (hgl.mono gR)) z z fun wd15 hI16=>bK H fun y23 hy18 H=>cv bo78 (strings_Trim_spec hy18 hI16) z z fun wd21 hI22=>?_
 refine asn z<|nl<|hK8 _ _ _<|sQ fun K24 hK25=>sr fun K26 hK27=>mv z<|nl<|hK27 _ _ _<|dC (a4 = true) (fun h28=>?_) fun h28=>?_
 refine yK h28 H fun H=>wt (vY h28)<|wpc_region<|mv z<|iK H fun h29 H=>q_str_add z z h29<|asn z<|nl<|hK25 _ _ _<|sr fun K30 hK31=>mv z<|asn z<|nl<|hK31 _ _ _<|?_
 refine wr<|?_
 cases H
 exact rt ⟨_, _, z, z, z⟩ hI22
 refine nK h28 H fun H=>wf (vN h28)<|ws<|hK25 _ _ _<|sr fun K32 hK33=>mv z<|asn z<|nl<|hK33 _ _ _<|wr<|?_
 cases H
 exact rt ⟨_, _, z, z, z⟩ hI22
theorem slices_IndexFunc_int_k1_spec {a1 A2 c3 r1006 G L w} (H : slices_IndexFunc_int_k1 a1 = some r1006) (hI : Hp G L w) (hl4 : a1.length ≤ c3) (hD5 : Dat (Kd.int .i64) G A2 a1) :
    Calls Tryz.prog 65 [slice A2 a1.length c3, func (.func 32) [].toArray [].toArray].toArray w fun e w' => Hp G L w' ∧ e = .returned (int .i64 r1006) := by
 refine calls_intro (N := 19) Tryz.func65 z z (Nat.le_of_ble_eq_true z)<|?_
 unfold slices_IndexFunc_int_k1 at H
 refine sr fun K6 hK7=>asn z<|nl<|hK7 _ _ _<|sQ fun K8 hK9=>sr fun K10 hK11=>mv z<|q_len so44 z<|mv z<|nl<|hK11 _ _ _<|wb<|bK H fun o32 hC H=>wpc_mono (Q := fun e r ds w => match (generalizing := false) o32 with | (Sum.inl v23) => e = .ret ∧ ds = [] ∧ Has [(4, int .i64 v23)] r ∧ Hp G (L) w ∧ True | (Sum.inr _) => e = .exit 0 ∧ ds = [] ∧ Has [] r ∧ Hp G (L) w ∧ True) ?_ ?_
 refine wpc_loop fun I hLp=>?_
 refine slices_IndexFunc_int_k1_l22.partial_correctness a1 (fun v16 o => ∀ (r : Rg) (w : World), Has [(0, slice A2 a1.length c3), (1, func (.func 32) [].toArray [].toArray), (7, int .i64 (a1.length : Int)), (8, int .i64 v16)] r → Hp G (L) w → o = o32 → I r [] w) ?_ 0 _ hC _ _ ⟨rfl, rfl, rfl, rfl, tv⟩ hI rfl
 intro _ ih v16 o H r wd35 hHas hI36 ho
 rw [ho] at H; clear ho
 rw [hHas.eq]; clear hHas
 refine hLp _ _ _<|sr fun K37 hK38=>q_lss z z<|nl<|hK38 _ _ _<|sQ fun K39 hK40=>dC (v16 < (a1.length : Int)) (fun h41=>?_) fun h41=>?_
 refine yK h41 H fun H=>wt (bY h41)<|ws<|hK40 _ _ _<|sQ fun K42 hK43=>wb<|sr fun K44 hK45=>mv z<|asn z<|nl<|hK45 _ _ _<|sr fun K46 hK47=>mv z<|mv z<|?_
 refine mv z<|iK H fun⟨h48, h48'⟩H=>?_
 obtain ⟨ad49, cs50, hA51, hK52, hn53, hc54⟩ := Dat.get hD5 (0 : Int) (v16) h48 h48'
 obtain rfl := hK52
 refine q_ia el44 z hA51 z h48 h48'<|q_lf hI36 ag3 z (gR.cel _ _ (hc54 0 _ z))<|bK H fun y60 hy55 H=>cv bo32 (inline_Lines_1_spec hy55 hI36) z z fun wd58 hI59=>nl<|hK47 _ _ _<|dC (y60 = true) (fun h61=>?_) fun h61=>?_
 refine yK h61 H fun H=>wt (vY h61)<|sr fun K62 hK63=>mv z<|asn z<|nl<|hK63 _ _ _<|wr<|?_
 cases H
 exact ⟨z, z, ⟨z, tv⟩, hI59, tv⟩
 exact nK h61 H fun H=>wf (vN h61)<|ws<|hK43 _ _ _<|wpc_region<|q_add z z<|mv z<|nl<|ih _ _ H _ _ ⟨z, z, z, z, tv⟩ hI59 z
 refine nK h41 H fun H=>wf (bN h41)<|wx<|?_
 cases H
 exact ⟨z, z, trivial, hI36, tv⟩
 rcases o32 with v23 | _
 rintro e r ds wd26 ⟨rfl, rfl, hHas, hI27, _⟩
 rw [hHas.eq]; clear hHas
 cases H
 exact rt ⟨_, _, z, z, z⟩ hI27
 rintro e r ds wd30 ⟨rfl, rfl, hHas, hI31, _⟩
 rw [hHas.eq]; clear hHas
 refine hK9 _ _ _<|sr fun K64 hK65=>asn z<|nl<|hK65 _ _ _<|wr<|?_
 cases H
 exact rt ⟨_, _, z, z, z⟩ hI31
theorem slices_ContainsFunc_int_k1_spec {a1 A2 c3 r1006 G L w} (H : slices_ContainsFunc_int_k1 a1 = some r1006) (hI : Hp G L w) (hl4 : a1.length ≤ c3) (hD5 : Dat (Kd.int .i64) G A2 a1) :
    Calls Tryz.prog 34 [slice A2 a1.length c3, func (.func 32) [].toArray [].toArray].toArray w fun e w' => Hp G L w' ∧ e = .returned (bool r1006) := by
 refine calls_intro (N := 9) Tryz.func34 z z (Nat.le_of_ble_eq_true z)<|?_
 unfold slices_ContainsFunc_int_k1 at H
 refine sr fun K6 hK7=>asn z<|nl<|hK7 _ _ _<|sr fun K8 hK9=>mv z<|mv z<|bK H fun y15 hy10 H=>cv bo65 (slices_IndexFunc_int_k1_spec hy10 hI hl4 hD5) z z fun wd13 hI14=>q_geq z z<|asn z<|nl<|hK9 _ _ _<|wr<|?_
 cases H
 exact rt ⟨_, _, z, z, z⟩ hI14
theorem inline_setter_lines_k1_spec {a1 a2 a9 a20 a21 A3 c4 g8 A10 c11 A14 c15 g19 A22 c23 r1028 r1029 r1036 G L w} (H : inline_setter_lines_k1 a1 a2 a9 a20 a21 = some (r1028, r1029, r1036)) (hI : Hp G (bx g8 [slice A10 a9.Glyphs.length c11, slice A14 a9.Kerns.length c15] 25 :: bx g19 [int .i64 a20] 3 :: L) w) (hl5 : a2.length ≤ c4) (hD6 : Dat k_api_Break G A3 a2) (hl12 : a9.Glyphs.length ≤ c11) (hD13 : Dat k_api_Glyph G A10 a9.Glyphs) (hl16 : a9.Kerns.length ≤ c15) (hD17 : Dat k_api_Kern G A14 a9.Kerns) (hl24 : a21.length ≤ c23) (hD25 : Dat (Kd.int .i64) G A22 a21) :
    Calls Tryz.prog 37 [agg [string a1, slice A3 a2.length c4, func (.func 70) [].toArray [pointer (some ⟨g8, 0, none⟩), pointer (some ⟨g19, 0, none⟩)].toArray].toArray, slice A22 a21.length c23].toArray w fun e w' => ∃ (g1027 : Nat) (A1030 : Option Addr) (c1031 : Nat) (g1035 : Nat) (A1037 : Option Addr) (c1038 : Nat) (G' : Gh), G ≤ G' ∧ Hp G' (bx g1027 [string r1028, slice A1030 r1029.length c1031, func (.func 70) [].toArray [pointer (some ⟨g8, 0, none⟩), pointer (some ⟨g19, 0, none⟩)].toArray] 79 :: bx g1035 [slice A1037 r1036.length c1038] 44 :: bx g8 [slice A10 a9.Glyphs.length c11, slice A14 a9.Kerns.length c15] 25 :: bx g19 [int .i64 a20] 3 :: L) w' ∧ r1029.length ≤ c1031 ∧ Dat k_api_Break G' A1030 r1029 ∧ r1036.length ≤ c1038 ∧ Dat (Kd.int .i64) G' A1037 r1036 ∧ e = .returned (func (.func 72) [].toArray [pointer (some ⟨g1027, 0, none⟩), pointer (some ⟨g1035, 0, none⟩)].toArray) := by
 refine calls_intro (N := 6) Tryz.func37 z z (Nat.le_of_ble_eq_true z)<|?_
 unfold inline_setter_lines_k1 at H
 refine sr fun K26 hK27=>bxk hI z z fun g29 wd30 hI31=>bxk hI31 z z fun g33 wd34 hI35=>asn z<|nl<|hK27 _ _ _<|sr fun K36 hK37=>q_fn (vs := []) (us := [pointer (some ⟨g29, 0, none⟩), pointer (some ⟨g33, 0, none⟩)]) z z<|asn z<|nl<|hK37 _ _ _<|wr<|have hI41:=Hp.pick 4 [1, 0, 2, 3] hI35 z;?_
 cases H
 exact ⟨.inr z, z, _, ⟨_, _, z, z, z⟩, g29, A3, c4, g33, A22, c23, _, gR, hI41, hl5, hD6, hl24, hD25, z⟩
theorem inline_setter_next_1_k1_spec {a1 a4 g3 r1005 G L w} (H : inline_setter_next_1_k1 a1 a4 = some r1005) (hI : Hp G (bx g3 [int .i64 a4] 3 :: L) w) :
    Calls Tryz.prog 99 [agg [int .i64 a1.At, bool a1.Hyphen].toArray, pointer (some ⟨g3, 0, none⟩)].toArray w fun e w' => Hp G (bx g3 [int .i64 a4] 3 :: L) w' ∧ e = .returned (bool r1005) := by
 refine calls_intro (N := 8) Tryz.func99 z z (Nat.le_of_ble_eq_true z)<|?_
 unfold inline_setter_next_1_k1 at H
 refine sr fun K5 hK6=>bxk hI z z fun g8 wd9 hI10=>asn z<|nl<|hK6 _ _ _<|sr fun K11 hK12=>fa fl114_0 z<|ld hI10 0 ag3 z z z<|ld hI10 1 ag3 z z z<|q_gtr z z<|asn z<|nl<|hK12 _ _ _<|wr<|?_
 refine have hI14:=Hp.pick 2 [1] hI10 z;?_
 cases H
 exact rt ⟨_, _, z, z, z⟩ hI14
theorem slices_IndexFunc_api_Break_k2_spec {a1 a8 A2 c3 g7 r1009 G L w} (H : slices_IndexFunc_api_Break_k2 a1 a8 = some r1009) (hI : Hp G (bx g7 [int .i64 a8] 3 :: L) w) (hl4 : a1.length ≤ c3) (hD5 : Dat k_api_Break G A2 a1) :
    Calls Tryz.prog 98 [slice A2 a1.length c3, func (.func 99) [].toArray [pointer (some ⟨g7, 0, none⟩)].toArray].toArray w fun e w' => Hp G (bx g7 [int .i64 a8] 3 :: L) w' ∧ e = .returned (int .i64 r1009) := by
 refine calls_intro (N := 19) Tryz.func98 z z (Nat.le_of_ble_eq_true z)<|?_
 unfold slices_IndexFunc_api_Break_k2 at H
 refine sr fun K9 hK10=>asn z<|nl<|hK10 _ _ _<|sQ fun K11 hK12=>sr fun K13 hK14=>mv z<|q_len so77 z<|mv z<|nl<|hK14 _ _ _<|wb<|bK H fun o35 hC H=>wpc_mono (Q := fun e r ds w => match (generalizing := false) o35 with | (Sum.inl v26) => e = .ret ∧ ds = [] ∧ Has [(4, int .i64 v26)] r ∧ Hp G (bx g7 [int .i64 a8] 3 :: L) w ∧ True | (Sum.inr _) => e = .exit 0 ∧ ds = [] ∧ Has [] r ∧ Hp G (bx g7 [int .i64 a8] 3 :: L) w ∧ True) ?_ ?_
 refine wpc_loop fun I hLp=>?_
 refine slices_IndexFunc_api_Break_k2_l25.partial_correctness a1 a8 (fun v19 o => ∀ (r : Rg) (w : World), Has [(0, slice A2 a1.length c3), (1, func (.func 99) [].toArray [pointer (some ⟨g7, 0, none⟩)].toArray), (7, int .i64 (a1.length : Int)), (8, int .i64 v19)] r → Hp G (bx g7 [int .i64 a8] 3 :: L) w → o = o35 → I r [] w) ?_ 0 _ hC _ _ ⟨rfl, rfl, rfl, rfl, tv⟩ hI rfl
 intro _ ih v19 o H r wd38 hHas hI39 ho
 rw [ho] at H; clear ho
 rw [hHas.eq]; clear hHas
 refine hLp _ _ _<|sr fun K40 hK41=>q_lss z z<|nl<|hK41 _ _ _<|sQ fun K42 hK43=>dC (v19 < (a1.length : Int)) (fun h44=>?_) fun h44=>?_
 refine yK h44 H fun H=>wt (bY h44)<|ws<|hK43 _ _ _<|sQ fun K45 hK46=>wb<|sr fun K47 hK48=>mv z<|asn z<|nl<|hK48 _ _ _<|sr fun K49 hK50=>mv z<|mv z<|?_
 refine mv z<|iK H fun⟨h51, h51'⟩H=>?_
 obtain ⟨ad52, cs53, hA54, hK55, hn56, hc57⟩ := Dat.get hD5 z_api_Break (v19) h51 h51'
 obtain ⟨rfl⟩ := open_api_Break hK55
 refine q_ia el77 z hA54 z h51 h51'<|q_lfA hI39 ag114 z (cs := [int .i64 ((a1.getD (Int.toNat v19) z_api_Break).At), bool ((a1.getD (Int.toNat v19) z_api_Break).Hyphen)]) z (fun j v hv => gR.cel _ _ (hc57 j v hv))<|bK H fun y63 hy58 H=>cv bo99 (inline_setter_next_1_k1_spec (a1 := (a1.getD (Int.toNat v19) z_api_Break)) hy58 hI39) z z fun wd61 hI62=>nl<|hK50 _ _ _<|dC (y63 = true) (fun h64=>?_) fun h64=>?_
 refine yK h64 H fun H=>wt (vY h64)<|sr fun K65 hK66=>mv z<|asn z<|nl<|hK66 _ _ _<|wr<|?_
 cases H
 exact ⟨z, z, ⟨z, tv⟩, hI62, tv⟩
 exact nK h64 H fun H=>wf (vN h64)<|ws<|hK46 _ _ _<|wpc_region<|q_add z z<|mv z<|nl<|ih _ _ H _ _ ⟨z, z, z, z, tv⟩ hI62 z
 refine nK h44 H fun H=>wf (bN h44)<|wx<|?_
 cases H
 exact ⟨z, z, trivial, hI39, tv⟩
 rcases o35 with v26 | _
 rintro e r ds wd29 ⟨rfl, rfl, hHas, hI30, _⟩
 rw [hHas.eq]; clear hHas
 cases H
 exact rt ⟨_, _, z, z, z⟩ hI30
 rintro e r ds wd33 ⟨rfl, rfl, hHas, hI34, _⟩
 rw [hHas.eq]; clear hHas
 refine hK12 _ _ _<|sr fun K67 hK68=>asn z<|nl<|hK68 _ _ _<|wr<|?_
 cases H
 exact rt ⟨_, _, z, z, z⟩ hI34
theorem slices_Backward_1_api_Break_k1_spec {σ : Type} {St : σ → Gh → List Itm → Prop} {yl} {φ : σ → (Int × api_Break) → Option (σ × Bool)} {sy : σ} {a3 g2 A4 c5} {ry : σ} {G T w} (H : slices_Backward_1_api_Break_k1 φ sy a3 = some ry) (hI : Hp G (bx g2 [slice A4 a3.length c5] 77 :: T) w) (hl6 : a3.length ≤ c5) (hD7 : Dat k_api_Break G A4 a3) (hy : Yl Tryz.prog φ (encP (enc1 (Kd.int .i64)) (encS k_api_Break)) St yl) (hS : St sy G T) :
    Calls Tryz.prog 132 [func (.yield yl) #[] #[], pointer (some ⟨g2, 0, none⟩)].toArray w fun e w' => ∃ (T' : List Itm) (G' : Gh), G ≤ G' ∧ Hp G' (bx g2 [slice A4 a3.length c5] 77 :: T') w' ∧ St ry G' T' ∧ e = .returned (tuple [].toArray) := by
 refine calls_intro (N := 19) Tryz.func132 z z (Nat.le_of_ble_eq_true z)<|?_
 unfold slices_Backward_1_api_Break_k1 at H
 refine sr fun K8 hK9=>ld hI 0 ag77 z z z<|q_len so77 z<|q_sub z z<|asn z<|nl<|hK9 _ _ _<|wb<|bK H fun o41 hC H=>?_
 refine wpc_mono (Q := fun e r ds w => match (generalizing := false) o41 with | (Sum.inl v28) => e = .ret ∧ ∃ (T27 : List Itm) (G33 : Gh), ds = [] ∧ G ≤ G33 ∧ Has [] r ∧ Hp G33 (bx g2 [slice A4 a3.length c5] 77 :: T27) w ∧ St v28 G33 T27 ∧ True | (Sum.inr v31) => e = .exit 0 ∧ ∃ (T30 : List Itm) (G37 : Gh), ds = [] ∧ G ≤ G37 ∧ Has [] r ∧ Hp G37 (bx g2 [slice A4 a3.length c5] 77 :: T30) w ∧ St v31 G37 T30 ∧ True) ?_ ?_
 refine wpc_loop fun I hLp=>?_
 refine slices_Backward_1_api_Break_k1_l26.partial_correctness φ a3 (fun v14 v16 o => ∀ (T15 : List Itm) (G42 : Gh) (r : Rg) (w : World), G ≤ G42 → Has [(0, func (.yield yl) #[] #[]), (1, pointer (some ⟨g2, 0, none⟩)), (3, int .i64 v14)] r → Hp G42 (bx g2 [slice A4 a3.length c5] 77 :: T15) w → St v16 G42 T15 → o = o41 → I r [] w) ?_ (w64 ((a3.length : Int) - 1)) sy _ hC T _ _ _ gR ⟨rfl, rfl, rfl, tv⟩ hI hS rfl
 intro _ ih v14 v16 o H T15 G42 r wd44 hG43 hHas hI45 hS17 ho
 rw [ho] at H; clear ho
 rw [hHas.eq]; clear hHas
 refine hLp _ _ _<|sQ fun K46 hK47=>sr fun K48 hK49=>mv z<|q_geq z z<|nl<|hK49 _ _ _<|dC (0 ≤ v14) (fun h50=>?_) fun h50=>?_
 refine yK h50 H fun H=>wt (bY h50)<|ws<|hK47 _ _ _<|sQ fun K51 hK52=>wb<|sr fun K53 hK54=>mv z<|mv z<|ld hI45 0 ag77 z z z<|mv z<|iK H fun⟨h55, h55'⟩H=>?_
 obtain ⟨ad56, cs57, hA58, hK59, hn60, hc61⟩ := Dat.get (Dat.mono hG43 hD7) z_api_Break (v14) h55 h55'
 obtain ⟨rfl⟩ := open_api_Break hK59
 refine q_ia el77 z hA58 z h55 h55'<|q_lfA hI45 ag114 z (cs := [int .i64 ((a3.getD (Int.toNat v14) z_api_Break).At), bool ((a3.getD (Int.toNat v14) z_api_Break).Hyphen)]) z (fun j v hv => gR.cel _ _ (hc61 j v hv))<|bK2 H fun s62 b63 hx64 H=>q_yl hy [bx g2 [slice A4 a3.length c5] 77] hI45 hS17 z z ⟨_, _, z, ⟨_, z, z⟩, ⟨_, z, (mk_api_Break (x := (a3.getD (Int.toNat v14) z_api_Break)))⟩⟩ hx64 fun wd65 G66 T67 hG68 hS69 hI70=>q_not z<|nl<|hK54 _ _ _<|dC ((!b63) = true) (fun h71=>?_) fun h71=>?_
 refine yK h71 H fun H=>wt (vY h71)<|wr<|?_
 cases H
 exact ⟨z, T67, _, z, (gT hG43 hG68), trivial, hI70, hS69, tv⟩
 exact nK h71 H fun H=>wf (vN h71)<|ws<|hK52 _ _ _<|wpc_region<|mv z<|q_sub z z<|asn z<|nl<|ih _ _ _ H T67 _ _ _ (gT hG43 hG68) ⟨z, z, z, tv⟩ hI70 hS69 z
 refine nK h50 H fun H=>wf (bN h50)<|wx<|?_
 cases H
 exact ⟨z, T15, _, z, hG43, trivial, hI45, hS17, tv⟩
 rcases o41 with v28 | v31
 rintro e r ds wd35 ⟨rfl, T27, G33, rfl, hG34, hHas, hI36, hS29, _⟩
 rw [hHas.eq]; clear hHas
 cases H
 exact ⟨.inr z, z, _, z, T27, _, hG34, hI36, hS29, z⟩
 rintro e r ds wd39 ⟨rfl, T30, G37, rfl, hG38, hHas, hI40, hS32, _⟩
 rw [hHas.eq]; clear hHas
 cases H
 exact ⟨.inl z, z, _, z, T30, _, hG38, hI40, hS32, z⟩
theorem inline_prepare_2_k1_spec {a1 a4 a15 g3 A5 c6 A9 c10 g14 r1016 G L w} (H : inline_prepare_2_k1 a1 a4 a15 = some r1016) (hI : Hp G (bx g3 [slice A5 a4.Glyphs.length c6, slice A9 a4.Kerns.length c10] 25 :: bx g14 [int .i64 a15] 3 :: L) w) (hl7 : a4.Glyphs.length ≤ c6) (hD8 : Dat k_api_Glyph G A5 a4.Glyphs) (hl11 : a4.Kerns.length ≤ c10) (hD12 : Dat k_api_Kern G A9 a4.Kerns) :
    Calls Tryz.prog 70 [string a1, pointer (some ⟨g3, 0, none⟩), pointer (some ⟨g14, 0, none⟩)].toArray w fun e w' => Hp G (bx g3 [slice A5 a4.Glyphs.length c6, slice A9 a4.Kerns.length c10] 25 :: bx g14 [int .i64 a15] 3 :: L) w' ∧ e = .returned (int .i64 r1016) := by
 refine calls_intro (N := 15) Tryz.func70 z z (Nat.le_of_ble_eq_true z)<|?_
 unfold inline_prepare_2_k1 at H
 refine sr fun K16 hK17=>asn z<|nl<|hK17 _ _ _<|sr fun K18 hK19=>lda hI 0 ag25 z z z z<|mv z<|ld hI 1 ag3 z z z<|bK2 H fun y25 y26 hy20 H=>cv bo41 (font_Width_spec hy20 hI hl7 hD8 hl11 hD12) z z fun wd23 hI24=>mv z<|exk z z<|exk z z<|asn z<|?_
 refine asn z<|nl<|hK19 _ _ _<|sr fun K27 hK28=>mv z<|asn z<|nl<|hK28 _ _ _<|wr<|?_
 cases H
 exact rt ⟨_, _, z, z, z⟩ hI24
end Go.Proofs.YtaemgcpcfnbmdaaGreatDoor.LG
