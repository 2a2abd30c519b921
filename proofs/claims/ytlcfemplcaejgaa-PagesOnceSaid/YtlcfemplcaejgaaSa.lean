/-
  The walks: each function computes its plain function: printed by a program out of the translation.
-/
import Derived.Test.YtlcfemplcaejgaaTy
set_option linter.unusedVariables false
set_option linter.unusedSimpArgs false
set_option maxRecDepth 100000
namespace Go.Proofs.Ytlcfemplcaejgaa.LG
open Go Go.LG Go.RowKit Go.Value
set_option maxHeartbeats 20000000
theorem pages_within_spec {a1 a2 a3 r1004 G L w} (H : pages_within a1 a2 a3 = some r1004) (hI : Hp G L w) :
    Calls Try.prog 36 [int .i64 a1, int .i64 a2, int .i64 a3].toArray w fun e w' => Hp G L w' ∧ e = .returned (bool r1004) := by
 refine calls_intro (N := 15) Try.func36 z z (Nat.le_of_ble_eq_true z)<|?_
 unfold pages_within at H
 refine sr fun K4 hK5=>asn z<|nl<|hK5 _ _ _<|sr fun K6 hK7=>mv z<|mv z<|q_leq z z<|mv z<|bK H fun v8 hC H=>js 4 hI [(14, bool v8)] ?_ fun _ wd11 hI12=>?_
 refine have H:=hC;dC (a2 ≤ a1) (fun h14=>?_) fun h14=>?_
 refine yK h14 H fun H=>mv (hw:=gY z z z (bY h14)) z<|mv (hw:=gY z z z (bY h14)) z<|q_leq (hw:=gY z z z (bY h14)) z z<|pkt (bY h14) z<|nl<|?_
 cases H
 exact je ⟨z, tv⟩ hI
 refine nK h14 H fun H=>Sk 3 z z (bN h14) z<|pkf (bN h14) z<|nl<|?_
 cases H
 exact je ⟨z, tv⟩ hI
 refine asn z<|nl<|hK7 _ _ _<|wr<|?_
 cases H
 exact rt ⟨_, _, z, z, z⟩ hI12
theorem zone_within_spec {a1 a2 a3 r1004 G L w} (H : zone_within a1 a2 a3 = some r1004) (hI : Hp G L w) :
    Calls Try.prog 63 [agg [int .i64 a1.Lo, int .i64 a1.Hi].toArray, int .i64 a2, int .i64 a3].toArray w fun e w' => Hp G L w' ∧ e = .returned (bool r1004) := by
 refine calls_intro (N := 24) Try.func63 z z (Nat.le_of_ble_eq_true z)<|?_
 unfold zone_within at H
 refine sr fun K4 hK5=>bxk hI z z fun g7 wd8 hI9=>asn z<|nl<|hK5 _ _ _<|sr fun K10 hK11=>mv z<|fa fl97_0 z<|ld hI9 0 ag3 z z z<|q_leq z z<|mv z<|bK H fun v12 hC H=>js 6 hI9 [(2, int .i64 a3), (3, pointer (some ⟨g7, 0, none⟩)), (17, bool v12)] ?_ fun _ wd15 hI16=>?_
 refine have H:=hC;dC (a2 ≤ a1.Lo) (fun h18=>?_) fun h18=>?_
 refine yK h18 H fun H=>fa (hw:=gY z z z (bY h18)) fl97_0 z<|ld (hw:=gY z z z (bY h18)) hI9 0 ag3 z z z<|fa (hw:=gY z z z (bY h18)) fl97_1 z<|ld (hw:=gY z z z (bY h18)) hI9 0 ag3 z z z<|q_leq (hw:=gY z z z (bY h18)) z z<|pkt (bY h18) z<|nl<|?_
 cases H
 exact je ⟨z, z, z, tv⟩ hI9
 refine nK h18 H fun H=>Sk 5 z z (bN h18) z<|pkf (bN h18) z<|nl<|?_
 cases H
 exact je ⟨z, z, z, tv⟩ hI9
 refine mv z<|bK H fun v19 hC H=>js 5 hI16 [(23, bool v19)] ?_ fun _ wd22 hI23=>?_
 refine have H:=hC;dC (v12 = true) (fun h25=>?_) fun h25=>?_
 refine yK h25 H fun H=>fa (hw:=gY z z z (vY h25)) fl97_1 z<|ld (hw:=gY z z z (vY h25)) hI16 0 ag3 z z z<|mv (hw:=gY z z z (vY h25)) z<|q_leq (hw:=gY z z z (vY h25)) z z<|pkt (vY h25) z<|nl<|?_
 cases H
 exact je ⟨z, tv⟩ hI16
 refine nK h25 H fun H=>Sk 4 z z (vN h25) z<|pkf (vN h25) z<|nl<|?_
 cases H
 exact je ⟨z, tv⟩ hI16
 refine asn z<|nl<|hK11 _ _ _<|wr<|have hI26:=Hp.pick 1 [] hI23 z;?_
 cases H
 exact rt ⟨_, _, z, z, z⟩ hI26
theorem zone_valid_spec {a1 r1002 G L w} (H : zone_valid a1 = some r1002) (hI : Hp G L w) :
    Calls Try.prog 56 [agg [int .i64 a1.Lang, int .i64 a1.Scale.Lo, int .i64 a1.Scale.Hi, int .i64 a1.Width.Lo, int .i64 a1.Width.Hi].toArray].toArray w fun e w' => Hp G L w' ∧ e = .returned (bool r1002) := by
 refine calls_intro (N := 21) Try.func56 z z (Nat.le_of_ble_eq_true z)<|?_
 unfold zone_valid at H
 refine sr fun K2 hK3=>bxk hI z z fun g5 wd6 hI7=>asn z<|nl<|hK3 _ _ _<|sr fun K8 hK9=>fa fl99_0 z<|ld hI7 0 ag3 z z z<|q_leq z z<|mv z<|bK H fun v10 hC H=>js 4 hI7 [(1, pointer (some ⟨g5, 0, none⟩)), (10, bool v10)] ?_ fun _ wd13 hI14=>?_
 refine have H:=hC;dC (0 ≤ a1.Lang) (fun h16=>?_) fun h16=>?_
 refine yK h16 H fun H=>fa (hw:=gY z z z (bY h16)) fl99_0 z<|ld (hw:=gY z z z (bY h16)) hI7 0 ag3 z z z<|q_lss (hw:=gY z z z (bY h16)) z z<|pkt (bY h16) z<|nl<|?_
 cases H
 exact je ⟨z, z, tv⟩ hI7
 refine nK h16 H fun H=>Sk 3 z z (bN h16) z<|pkf (bN h16) z<|nl<|?_
 cases H
 exact je ⟨z, z, tv⟩ hI7
 refine mv z<|bK H fun v17 hC H=>js 4 hI14 [(1, pointer (some ⟨g5, 0, none⟩)), (15, bool v17)] ?_ fun _ wd20 hI21=>?_
 refine have H:=hC;dC (v10 = true) (fun h23=>?_) fun h23=>?_
 refine yK h23 H fun H=>fa (hw:=gY z z z (vY h23)) fl99_1 z<|lda (hw:=gY z z z (vY h23)) hI14 0 ag97 z z z z<|bK H fun y29 hy24 H=>cv (hw:=gY z z z (vY h23)) bo63 (zone_within_spec hy24 hI14) z z fun wd27 hI28=>pkt (vY h23) z<|nl<|?_
 cases H
 exact je ⟨z, z, tv⟩ hI28
 refine nK h23 H fun H=>Sk 3 z z (vN h23) z<|pkf (vN h23) z<|nl<|?_
 cases H
 exact je ⟨z, z, tv⟩ hI14
 refine mv z<|bK H fun v30 hC H=>js 4 hI21 [(20, bool v30)] ?_ fun _ wd33 hI34=>?_
 refine have H:=hC;dC (v17 = true) (fun h36=>?_) fun h36=>?_
 refine yK h36 H fun H=>fa (hw:=gY z z z (vY h36)) fl99_2 z<|lda (hw:=gY z z z (vY h36)) hI21 0 ag97 z z z z<|bK H fun y42 hy37 H=>cv (hw:=gY z z z (vY h36)) bo63 (zone_within_spec hy37 hI21) z z fun wd40 hI41=>pkt (vY h36) z<|nl<|?_
 cases H
 exact je ⟨z, tv⟩ hI41
 refine nK h36 H fun H=>Sk 3 z z (vN h36) z<|pkf (vN h36) z<|nl<|?_
 cases H
 exact je ⟨z, tv⟩ hI21
 refine asn z<|nl<|hK9 _ _ _<|wr<|have hI43:=Hp.pick 1 [] hI34 z;?_
 cases H
 exact rt ⟨_, _, z, z, z⟩ hI43
theorem zone_Valid_1_spec {a1 r1002 G L w} (H : zone_Valid_1 a1 = some r1002) (hI : Hp G L w) :
    Calls Try.prog 62 [agg [int .i64 a1.Lang, int .i64 a1.Scale.Lo, int .i64 a1.Scale.Hi, int .i64 a1.Width.Lo, int .i64 a1.Width.Hi].toArray].toArray w fun e w' => Hp G L w' ∧ e = .returned (bool r1002) := by
 refine calls_intro (N := 6) Try.func62 z z (Nat.le_of_ble_eq_true z)<|?_
 unfold zone_Valid_1 at H
 refine sr fun K2 hK3=>bxk hI z z fun g5 wd6 hI7=>asn z<|nl<|hK3 _ _ _<|sr fun K8 hK9=>lda hI7 0 ag99 z z z z<|bK H fun y15 hy10 H=>cv bo56 (zone_valid_spec hy10 hI7) z z fun wd13 hI14=>q_not z<|asn z<|nl<|hK9 _ _ _<|wr<|?_
 refine have hI16:=Hp.pick 1 [] hI14 z;?_
 cases H
 exact rt ⟨_, _, z, z, z⟩ hI16
theorem slices_IndexFunc_api_Zone_k1_spec {a1 A2 c3 r1006 G L w} (H : slices_IndexFunc_api_Zone_k1 a1 = some r1006) (hI : Hp G L w) (hl4 : a1.length ≤ c3) (hD5 : Dat k_api_Zone G A2 a1) :
    Calls Try.prog 64 [slice A2 a1.length c3, func (.func 62) [].toArray [].toArray].toArray w fun e w' => Hp G L w' ∧ e = .returned (int .i64 r1006) := by
 refine calls_intro (N := 19) Try.func64 z z (Nat.le_of_ble_eq_true z)<|?_
 unfold slices_IndexFunc_api_Zone_k1 at H
 refine sr fun K6 hK7=>asn z<|nl<|hK7 _ _ _<|sQ fun K8 hK9=>sr fun K10 hK11=>mv z<|q_len so93 z<|mv z<|nl<|hK11 _ _ _<|wb<|bK H fun o32 hC H=>wpc_mono (Q := fun e r ds w => match (generalizing := false) o32 with | (Sum.inl v23) => e = .ret ∧ ds = [] ∧ Has [(4, int .i64 v23)] r ∧ Hp G (L) w ∧ True | (Sum.inr _) => e = .exit 0 ∧ ds = [] ∧ Has [] r ∧ Hp G (L) w ∧ True) ?_ ?_
 refine wpc_loop fun I hLp=>?_
 refine slices_IndexFunc_api_Zone_k1_l22.partial_correctness a1 (fun v16 o => ∀ (r : Rg) (w : World), Has [(0, slice A2 a1.length c3), (1, func (.func 62) [].toArray [].toArray), (7, int .i64 (a1.length : Int)), (8, int .i64 v16)] r → Hp G (L) w → o = o32 → I r [] w) ?_ 0 _ hC _ _ ⟨rfl, rfl, rfl, rfl, tv⟩ hI rfl
 intro _ ih v16 o H r wd35 hHas hI36 ho
 rw [ho] at H; clear ho
 rw [hHas.eq]; clear hHas
 refine hLp _ _ _<|sr fun K37 hK38=>q_lss z z<|nl<|hK38 _ _ _<|sQ fun K39 hK40=>dC (v16 < (a1.length : Int)) (fun h41=>?_) fun h41=>?_
 refine yK h41 H fun H=>wt (bY h41)<|ws<|hK40 _ _ _<|sQ fun K42 hK43=>wb<|sr fun K44 hK45=>mv z<|asn z<|nl<|hK45 _ _ _<|sr fun K46 hK47=>mv z<|mv z<|?_
 refine mv z<|iK H fun⟨h48, h48'⟩H=>?_
 obtain ⟨ad49, cs50, hA51, hK52, hn53, hc54⟩ := Dat.get hD5 z_api_Zone (v16) h48 h48'
 obtain ⟨rfl⟩ := open_api_Zone hK52
 refine q_ia el93 z hA51 z h48 h48'<|q_lfA hI36 ag99 z (cs := [int .i64 ((a1.getD (Int.toNat v16) z_api_Zone).Lang), int .i64 ((a1.getD (Int.toNat v16) z_api_Zone).Scale.Lo), int .i64 ((a1.getD (Int.toNat v16) z_api_Zone).Scale.Hi), int .i64 ((a1.getD (Int.toNat v16) z_api_Zone).Width.Lo), int .i64 ((a1.getD (Int.toNat v16) z_api_Zone).Width.Hi)]) z (fun j v hv => gR.cel _ _ (hc54 j v hv))<|bK H fun y60 hy55 H=>cv bo62 (zone_Valid_1_spec (a1 := (a1.getD (Int.toNat v16) z_api_Zone)) hy55 hI36) z z fun wd58 hI59=>nl<|hK47 _ _ _<|dC (y60 = true) (fun h61=>?_) fun h61=>?_
 refine yK h61 H fun H=>wt (vY h61)<|sr fun K62 hK63=>mv z<|asn z<|nl<|hK63 _ _ _<|wr<|?_
 cases H
 exact ⟨z, z, ⟨z, tv⟩, hI59, tv⟩
 exact nK h61 H fun H=>wf (vN h61)<|ws<|hK43 _ _ _<|wpc_region<|q_add z z<|mv z<|nl<|ih _ _ H _ _ ⟨z, z, z, z, tv⟩ hI59 z
 refine nK h41 H fun H=>wf (bN h41)<|wx<|?_
 cases H
 exact ⟨z, z, trivial, hI36, tv⟩
 rcases o32 with v23 | _
 rintro e r ds wd26 ⟨rfl, rfl, hHas, hI27, _⟩
 rw [hHas.eq]; clear hHas
 cases H
 exact rt ⟨_, _, z, z, z⟩ hI27
 rintro e r ds wd30 ⟨rfl, rfl, hHas, hI31, _⟩
 rw [hHas.eq]; clear hHas
 refine hK9 _ _ _<|sr fun K64 hK65=>asn z<|nl<|hK65 _ _ _<|wr<|?_
 cases H
 exact rt ⟨_, _, z, z, z⟩ hI31
theorem slices_ContainsFunc_api_Zone_k1_spec {a1 A2 c3 r1006 G L w} (H : slices_ContainsFunc_api_Zone_k1 a1 = some r1006) (hI : Hp G L w) (hl4 : a1.length ≤ c3) (hD5 : Dat k_api_Zone G A2 a1) :
    Calls Try.prog 58 [slice A2 a1.length c3, func (.func 62) [].toArray [].toArray].toArray w fun e w' => Hp G L w' ∧ e = .returned (bool r1006) := by
 refine calls_intro (N := 9) Try.func58 z z (Nat.le_of_ble_eq_true z)<|?_
 unfold slices_ContainsFunc_api_Zone_k1 at H
 refine sr fun K6 hK7=>asn z<|nl<|hK7 _ _ _<|sr fun K8 hK9=>mv z<|mv z<|bK H fun y15 hy10 H=>cv bo64 (slices_IndexFunc_api_Zone_k1_spec hy10 hI hl4 hD5) z z fun wd13 hI14=>q_geq z z<|asn z<|nl<|hK9 _ _ _<|wr<|?_
 cases H
 exact rt ⟨_, _, z, z, z⟩ hI14
theorem zone_Valid_spec {a1 A2 c3 r1006 G L w} (H : zone_Valid a1 = some r1006) (hI : Hp G L w) (hl4 : a1.length ≤ c3) (hD5 : Dat k_api_Zone G A2 a1) :
    Calls Try.prog 55 [slice A2 a1.length c3].toArray w fun e w' => Hp G L w' ∧ e = .returned (bool r1006) := by
 refine calls_intro (N := 11) Try.func55 z z (Nat.le_of_ble_eq_true z)<|?_
 unfold zone_Valid at H
 refine sr fun K6 hK7=>asn z<|nl<|hK7 _ _ _<|sr fun K8 hK9=>mv z<|q_len so93 z<|q_leq z z<|mv z<|bK H fun v10 hC H=>js 4 hI [(10, bool v10)] ?_ fun _ wd13 hI14=>?_
 refine have H:=hC;dC ((a1.length : Int) ≤ 1000) (fun h16=>?_) fun h16=>?_
 refine yK h16 H fun H=>mv (hw:=gY z z z (bY h16)) z<|bK H fun y22 hy17 H=>cv (hw:=gY z z z (bY h16)) bo58 (slices_ContainsFunc_api_Zone_k1_spec hy17 hI hl4 hD5) z z fun wd20 hI21=>q_not (hw:=gY z z z (bY h16)) z<|pkt (bY h16) z<|nl<|?_
 cases H
 exact je ⟨z, tv⟩ hI21
 refine nK h16 H fun H=>Sk 3 z z (bN h16) z<|pkf (bN h16) z<|nl<|?_
 cases H
 exact je ⟨z, tv⟩ hI
 refine asn z<|nl<|hK9 _ _ _<|wr<|?_
 cases H
 exact rt ⟨_, _, z, z, z⟩ hI14
theorem zone_one_spec {a1 r1002 G L w} (H : zone_one a1 = some r1002) (hI : Hp G L w) :
    Calls Try.prog 57 [agg [int .i64 a1.Width, int .i64 a1.Scale, int .i64 a1.Lang].toArray].toArray w fun e w' => Hp G L w' ∧ e = .returned (agg [int .i64 r1002.Lang, int .i64 r1002.Scale.Lo, int .i64 r1002.Scale.Hi, int .i64 r1002.Width.Lo, int .i64 r1002.Width.Hi].toArray) := by
 refine calls_intro (N := 16) Try.func57 z z (Nat.le_of_ble_eq_true z)<|?_
 unfold zone_one at H
 refine sr fun K2 hK3=>bxk hI z z fun g5 wd6 hI7=>q_alloc hI7 ze99 fun g9 wd10 hI11=>nl<|hK3 _ _ _<|sr fun K12 hK13=>fa fl77_2 z<|ld hI11 1 ag3 z z z<|fa fl77_1 z<|ld hI11 1 ag3 z z z<|fa fl77_1 z<|ld hI11 1 ag3 z z z<|q_build (vs := [(0, int .i64 a1.Scale), (1, int .i64 a1.Scale)]) (cs := [int .i64 a1.Scale, int .i64 a1.Scale]) ze97 pl97 z z<|fa fl77_0 z<|?_
 refine ld hI11 1 ag3 z z z<|fa fl77_0 z<|ld hI11 1 ag3 z z z<|q_build (vs := [(0, int .i64 a1.Width), (1, int .i64 a1.Width)]) (cs := [int .i64 a1.Width, int .i64 a1.Width]) ze97 pl97 z z<|q_build (vs := [(0, int .i64 a1.Lang), (1, agg [int .i64 a1.Scale, int .i64 a1.Scale].toArray), (2, agg [int .i64 a1.Width, int .i64 a1.Width].toArray)]) (cs := [int .i64 a1.Lang, int .i64 a1.Scale, int .i64 a1.Scale, int .i64 a1.Width, int .i64 a1.Width]) ze99 pl99 z z<|stk hI11 0 ag99 z z z z z z z fun wd14 hI15=>nl<|hK13 _ _ _<|wr<|have hr16:=res_cell (P := Try.prog) hI15 0 (cs := [int .i64 a1.Lang, int .i64 a1.Scale, int .i64 a1.Scale, int .i64 a1.Width, int .i64 a1.Width]) (g := g9) (o := 0) ag99 z z z;have hI17:=Hp.pick 2 [] hI15 z;?_
 cases H
 exact rt ⟨_, _, _, z, z, hr16, z⟩ hI17
theorem zone_has_spec {a1 a2 r1003 G L w} (H : zone_has a1 a2 = some r1003) (hI : Hp G L w) :
    Calls Try.prog 60 [agg [int .i64 a1.Lo, int .i64 a1.Hi].toArray, int .i64 a2].toArray w fun e w' => Hp G L w' ∧ e = .returned (bool r1003) := by
 refine calls_intro (N := 15) Try.func60 z z (Nat.le_of_ble_eq_true z)<|?_
 unfold zone_has at H
 refine sr fun K3 hK4=>bxk hI z z fun g6 wd7 hI8=>asn z<|nl<|hK4 _ _ _<|sr fun K9 hK10=>fa fl97_0 z<|ld hI8 0 ag3 z z z<|mv z<|q_leq z z<|mv z<|bK H fun v11 hC H=>js 5 hI8 [(14, bool v11)] ?_ fun _ wd14 hI15=>?_
 refine have H:=hC;dC (a1.Lo ≤ a2) (fun h17=>?_) fun h17=>?_
 refine yK h17 H fun H=>mv (hw:=gY z z z (bY h17)) z<|fa (hw:=gY z z z (bY h17)) fl97_1 z<|ld (hw:=gY z z z (bY h17)) hI8 0 ag3 z z z<|q_leq (hw:=gY z z z (bY h17)) z z<|pkt (bY h17) z<|nl<|?_
 cases H
 exact je ⟨z, tv⟩ hI8
 refine nK h17 H fun H=>Sk 4 z z (bN h17) z<|pkf (bN h17) z<|nl<|?_
 cases H
 exact je ⟨z, tv⟩ hI8
 refine asn z<|nl<|hK10 _ _ _<|wr<|have hI18:=Hp.pick 1 [] hI15 z;?_
 cases H
 exact rt ⟨_, _, z, z, z⟩ hI18
theorem zone_Has_1_k1_spec {a1 a4 g3 r1005 G L w} (H : zone_Has_1_k1 a1 a4 = some r1005) (hI : Hp G (bx g3 [int .i64 a4.Width, int .i64 a4.Scale, int .i64 a4.Lang] 77 :: L) w) :
    Calls Try.prog 59 [agg [int .i64 a1.Lang, int .i64 a1.Scale.Lo, int .i64 a1.Scale.Hi, int .i64 a1.Width.Lo, int .i64 a1.Width.Hi].toArray, pointer (some ⟨g3, 0, none⟩)].toArray w fun e w' => Hp G (bx g3 [int .i64 a4.Width, int .i64 a4.Scale, int .i64 a4.Lang] 77 :: L) w' ∧ e = .returned (bool r1005) := by
 refine calls_intro (N := 23) Try.func59 z z (Nat.le_of_ble_eq_true z)<|?_
 unfold zone_Has_1_k1 at H
 refine sr fun K5 hK6=>bxk hI z z fun g8 wd9 hI10=>asn z<|nl<|hK6 _ _ _<|sr fun K11 hK12=>fa fl99_0 z<|ld hI10 0 ag3 z z z<|fa fl77_2 z<|ld hI10 1 ag3 z z z<|q_eql z z<|mv z<|bK H fun v13 hC H=>js 6 hI10 [(1, pointer (some ⟨g3, 0, none⟩)), (2, pointer (some ⟨g8, 0, none⟩)), (15, bool v13)] ?_ fun _ wd16 hI17=>?_
 refine have H:=hC;dC (a1.Lang = a4.Lang) (fun h19=>?_) fun h19=>?_
 refine yK h19 H fun H=>fa (hw:=gY z z z (bY h19)) fl99_1 z<|lda (hw:=gY z z z (bY h19)) hI10 0 ag97 z z z z<|fa (hw:=gY z z z (bY h19)) fl77_1 z<|ld (hw:=gY z z z (bY h19)) hI10 1 ag3 z z z<|bK H fun y25 hy20 H=>cv (hw:=gY z z z (bY h19)) bo60 (zone_has_spec hy20 hI10) z z fun wd23 hI24=>pkt (bY h19) z<|nl<|?_
 cases H
 exact je ⟨z, z, z, tv⟩ hI24
 refine nK h19 H fun H=>Sk 5 z z (bN h19) z<|pkf (bN h19) z<|nl<|?_
 cases H
 exact je ⟨z, z, z, tv⟩ hI10
 refine mv z<|bK H fun v26 hC H=>js 6 hI17 [(22, bool v26)] ?_ fun _ wd29 hI30=>?_
 refine have H:=hC;dC (v13 = true) (fun h32=>?_) fun h32=>?_
 refine yK h32 H fun H=>fa (hw:=gY z z z (vY h32)) fl99_2 z<|lda (hw:=gY z z z (vY h32)) hI17 0 ag97 z z z z<|fa (hw:=gY z z z (vY h32)) fl77_0 z<|ld (hw:=gY z z z (vY h32)) hI17 1 ag3 z z z<|bK H fun y38 hy33 H=>cv (hw:=gY z z z (vY h32)) bo60 (zone_has_spec hy33 hI17) z z fun wd36 hI37=>pkt (vY h32) z<|nl<|?_
 cases H
 exact je ⟨z, tv⟩ hI37
 refine nK h32 H fun H=>Sk 5 z z (vN h32) z<|pkf (vN h32) z<|nl<|?_
 cases H
 exact je ⟨z, tv⟩ hI17
 refine asn z<|nl<|hK12 _ _ _<|wr<|have hI40:=Hp.pick 2 [1] hI30 z;?_
 cases H
 exact rt ⟨_, _, z, z, z⟩ hI40
theorem slices_IndexFunc_api_Zone_k2_spec {a1 a8 A2 c3 g7 r1009 G L w} (H : slices_IndexFunc_api_Zone_k2 a1 a8 = some r1009) (hI : Hp G (bx g7 [int .i64 a8.Width, int .i64 a8.Scale, int .i64 a8.Lang] 77 :: L) w) (hl4 : a1.length ≤ c3) (hD5 : Dat k_api_Zone G A2 a1) :
    Calls Try.prog 64 [slice A2 a1.length c3, func (.func 59) [].toArray [pointer (some ⟨g7, 0, none⟩)].toArray].toArray w fun e w' => Hp G (bx g7 [int .i64 a8.Width, int .i64 a8.Scale, int .i64 a8.Lang] 77 :: L) w' ∧ e = .returned (int .i64 r1009) := by
 refine calls_intro (N := 19) Try.func64 z z (Nat.le_of_ble_eq_true z)<|?_
 unfold slices_IndexFunc_api_Zone_k2 at H
 refine sr fun K9 hK10=>asn z<|nl<|hK10 _ _ _<|sQ fun K11 hK12=>sr fun K13 hK14=>mv z<|q_len so93 z<|mv z<|nl<|hK14 _ _ _<|wb<|bK H fun o35 hC H=>?_
 refine wpc_mono (Q := fun e r ds w => match (generalizing := false) o35 with | (Sum.inl v26) => e = .ret ∧ ds = [] ∧ Has [(4, int .i64 v26)] r ∧ Hp G (bx g7 [int .i64 a8.Width, int .i64 a8.Scale, int .i64 a8.Lang] 77 :: L) w ∧ True | (Sum.inr _) => e = .exit 0 ∧ ds = [] ∧ Has [] r ∧ Hp G (bx g7 [int .i64 a8.Width, int .i64 a8.Scale, int .i64 a8.Lang] 77 :: L) w ∧ True) ?_ ?_
 refine wpc_loop fun I hLp=>?_
 refine slices_IndexFunc_api_Zone_k2_l25.partial_correctness a1 a8 (fun v19 o => ∀ (r : Rg) (w : World), Has [(0, slice A2 a1.length c3), (1, func (.func 59) [].toArray [pointer (some ⟨g7, 0, none⟩)].toArray), (7, int .i64 (a1.length : Int)), (8, int .i64 v19)] r → Hp G (bx g7 [int .i64 a8.Width, int .i64 a8.Scale, int .i64 a8.Lang] 77 :: L) w → o = o35 → I r [] w) ?_ 0 _ hC _ _ ⟨rfl, rfl, rfl, rfl, tv⟩ hI rfl
 intro _ ih v19 o H r wd38 hHas hI39 ho
 rw [ho] at H; clear ho
 rw [hHas.eq]; clear hHas
 refine hLp _ _ _<|sr fun K40 hK41=>q_lss z z<|nl<|hK41 _ _ _<|sQ fun K42 hK43=>dC (v19 < (a1.length : Int)) (fun h44=>?_) fun h44=>?_
 refine yK h44 H fun H=>wt (bY h44)<|ws<|hK43 _ _ _<|sQ fun K45 hK46=>wb<|sr fun K47 hK48=>mv z<|asn z<|nl<|hK48 _ _ _<|sr fun K49 hK50=>mv z<|mv z<|?_
 refine mv z<|iK H fun⟨h51, h51'⟩H=>?_
 obtain ⟨ad52, cs53, hA54, hK55, hn56, hc57⟩ := Dat.get hD5 z_api_Zone (v19) h51 h51'
 obtain ⟨rfl⟩ := open_api_Zone hK55
 refine q_ia el93 z hA54 z h51 h51'<|q_lfA hI39 ag99 z (cs := [int .i64 ((a1.getD (Int.toNat v19) z_api_Zone).Lang), int .i64 ((a1.getD (Int.toNat v19) z_api_Zone).Scale.Lo), int .i64 ((a1.getD (Int.toNat v19) z_api_Zone).Scale.Hi), int .i64 ((a1.getD (Int.toNat v19) z_api_Zone).Width.Lo), int .i64 ((a1.getD (Int.toNat v19) z_api_Zone).Width.Hi)]) z (fun j v hv => gR.cel _ _ (hc57 j v hv))<|bK H fun y63 hy58 H=>cv bo59 (zone_Has_1_k1_spec (a1 := (a1.getD (Int.toNat v19) z_api_Zone)) hy58 hI39) z z fun wd61 hI62=>nl<|hK50 _ _ _<|dC (y63 = true) (fun h64=>?_) fun h64=>?_
 refine yK h64 H fun H=>wt (vY h64)<|sr fun K65 hK66=>mv z<|asn z<|nl<|hK66 _ _ _<|wr<|?_
 cases H
 exact ⟨z, z, ⟨z, tv⟩, hI62, tv⟩
 exact nK h64 H fun H=>wf (vN h64)<|ws<|hK46 _ _ _<|wpc_region<|q_add z z<|mv z<|nl<|ih _ _ H _ _ ⟨z, z, z, z, tv⟩ hI62 z
 refine nK h44 H fun H=>wf (bN h44)<|wx<|?_
 cases H
 exact ⟨z, z, trivial, hI39, tv⟩
 rcases o35 with v26 | _
 rintro e r ds wd29 ⟨rfl, rfl, hHas, hI30, _⟩
 rw [hHas.eq]; clear hHas
 cases H
 exact rt ⟨_, _, z, z, z⟩ hI30
 rintro e r ds wd33 ⟨rfl, rfl, hHas, hI34, _⟩
 rw [hHas.eq]; clear hHas
 refine hK12 _ _ _<|sr fun K67 hK68=>asn z<|nl<|hK68 _ _ _<|wr<|?_
 cases H
 exact rt ⟨_, _, z, z, z⟩ hI34
theorem slices_ContainsFunc_api_Zone_k2_spec {a1 a8 A2 c3 g7 r1009 G L w} (H : slices_ContainsFunc_api_Zone_k2 a1 a8 = some r1009) (hI : Hp G (bx g7 [int .i64 a8.Width, int .i64 a8.Scale, int .i64 a8.Lang] 77 :: L) w) (hl4 : a1.length ≤ c3) (hD5 : Dat k_api_Zone G A2 a1) :
    Calls Try.prog 58 [slice A2 a1.length c3, func (.func 59) [].toArray [pointer (some ⟨g7, 0, none⟩)].toArray].toArray w fun e w' => Hp G (bx g7 [int .i64 a8.Width, int .i64 a8.Scale, int .i64 a8.Lang] 77 :: L) w' ∧ e = .returned (bool r1009) := by
 refine calls_intro (N := 9) Try.func58 z z (Nat.le_of_ble_eq_true z)<|?_
 unfold slices_ContainsFunc_api_Zone_k2 at H
 refine sr fun K9 hK10=>asn z<|nl<|hK10 _ _ _<|sr fun K11 hK12=>mv z<|mv z<|bK H fun y18 hy13 H=>cv bo64 (slices_IndexFunc_api_Zone_k2_spec hy13 hI hl4 hD5) z z fun wd16 hI17=>q_geq z z<|asn z<|nl<|hK12 _ _ _<|wr<|?_
 cases H
 exact rt ⟨_, _, z, z, z⟩ hI17
theorem zone_Has_spec {a1 a6 A2 c3 r1007 r1008 G L w} (H : zone_Has a1 a6 = some (r1007, r1008)) (hI : Hp G L w) (hl4 : a1.length ≤ c3) (hD5 : Dat k_api_Zone G A2 a1) :
    Calls Try.prog 50 [slice A2 a1.length c3, agg [int .i64 a6.Width, int .i64 a6.Scale, int .i64 a6.Lang].toArray].toArray w fun e w' => Hp G L w' ∧ e = .returned (tuple [bool r1007, int .i64 r1008].toArray) := by
 refine calls_intro (N := 18) Try.func50 z z (Nat.le_of_ble_eq_true z)<|?_
 unfold zone_Has at H
 refine sr fun K7 hK8=>bxk hI z z fun g10 wd11 hI12=>asn z<|asn z<|nl<|hK8 _ _ _<|sQ fun K13 hK14=>sr fun K15 hK16=>mv z<|bK H fun y22 hy17 H=>cv bo55 (zone_Valid_spec hy17 hI12 hl4 hD5) z z fun wd20 hI21=>q_not z<|mv z<|bK H fun v23 hC H=>?_
 refine js 5 hI21 [(0, slice A2 a1.length c3), (3, pointer (some ⟨g10, 0, none⟩)), (14, bool v23)] ?_ fun _ wd26 hI27=>?_
 refine have H:=hC;dC ((!y22) = true) (fun h29=>?_) fun h29=>?_
 refine yK h29 H fun H=>Sk 4 z z (vY h29) z<|pkt (vY h29) z<|nl<|?_
 cases H
 exact je ⟨z, z, z, tv⟩ hI21
 refine nK h29 H fun H=>lda (hw:=gY z z z (vN h29)) hI21 0 ag77 z z z z<|bK H fun y35 hy30 H=>cv (hw:=gY z z z (vN h29)) bo57 (zone_one_spec hy30 hI21) z z fun wd33 hI34=>bK H fun y41 hy36 H=>cv (hw:=gY z z z (vN h29)) bo56 (zone_valid_spec hy36 hI34) z z fun wd39 hI40=>q_not (hw:=gY z z z (vN h29)) z<|pkf (vN h29) z<|nl<|?_
 cases H
 exact je ⟨z, z, z, tv⟩ hI40
 refine nl<|hK16 _ _ _<|dC (v23 = true) (fun h42=>?_) fun h42=>?_
 refine yK h42 H fun H=>wt (vY h42)<|sr fun K43 hK44=>asn z<|asn z<|nl<|hK44 _ _ _<|wr<|have hI45:=Hp.pick 1 [] hI27 z;?_
 cases H
 exact rt ⟨_, _, z, z, ⟨_, _, z, z, z⟩⟩ hI45
 refine nK h42 H fun H=>wf (vN h42)<|ws<|hK14 _ _ _<|sr fun K46 hK47=>mv z<|q_fn (vs := []) (us := [pointer (some ⟨g10, 0, none⟩)]) z z<|bK H fun y53 hy48 H=>cv bo58 (slices_ContainsFunc_api_Zone_k2_spec hy48 hI27 hl4 hD5) z z fun wd51 hI52=>asn z<|asn z<|nl<|hK47 _ _ _<|wr<|?_
 refine have hI54:=Hp.pick 1 [] hI52 z;?_
 cases H
 exact rt ⟨_, _, z, z, ⟨_, _, z, z, z⟩⟩ hI54
theorem pages_isReader_spec {a1 r1002 G L w} (H : pages_isReader a1 = some r1002) (hI : Hp G L w) :
    Calls Try.prog 37 [agg [int .i64 a1.Width, int .i64 a1.Scale, int .i64 a1.Lang].toArray].toArray w fun e w' => Hp G L w' ∧ e = .returned (bool r1002) := by
 refine calls_intro (N := 12) Try.func37 z z (Nat.le_of_ble_eq_true z)<|?_
 unfold pages_isReader at H
 refine sr fun K2 hK3=>bxk hI z z fun g5 wd6 hI7=>asn z<|nl<|hK3 _ _ _<|sr fun K8 hK9=>lda hI7 0 ag77 z z z z<|bK2 H fun y15 y16 hy10 H=>cv bo50 (zone_Has_spec (a1 := ([] : List api_Zone)) hy10 hI7 (show ([] : List api_Zone).length ≤ 0 from Nat.le_refl 0) (Dat.nil _ _ _)) z z fun wd13 hI14=>mv z<|exk z z<|exk z z<|asn z<|asn z<|?_
 refine nl<|hK9 _ _ _<|sr fun K17 hK18=>mv z<|q_eql z z<|asn z<|nl<|hK18 _ _ _<|wr<|have hI19:=Hp.pick 1 [] hI14 z;?_
 cases H
 exact rt ⟨_, _, z, z, z⟩ hI19
theorem pages_sheet_column_spec {a1 : pages_sheet} {r1002 G L w} (H : pages_sheet_column a1 = some r1002) (hI : Hp G L w) :
    Calls Try.prog 51 [agg [int .i64 a1.Paper.Width, int .i64 a1.Paper.Height, int .i64 a1.Paper.Columns, int .i64 a1.Paper.Gap, int .i64 a1.Paper.Scale, int .i64 a1.Paper.Lang].toArray].toArray w fun e w' => Hp G L w' ∧ e = .returned (int .i64 r1002) := by
 refine calls_intro (N := 20) Try.func51 z z (Nat.le_of_ble_eq_true z)<|?_
 unfold pages_sheet_column at H
 refine sr fun K2 hK3=>bxk hI z z fun g5 wd6 hI7=>asn z<|nl<|hK3 _ _ _<|sr fun K8 hK9=>fa fl56_0 z<|fa fl23_0 z<|ld hI7 0 ag3 z z z<|fa fl56_0 z<|fa fl23_3 z<|ld hI7 0 ag3 z z z<|fa fl56_0 z<|fa fl23_2 z<|?_
 refine ld hI7 0 ag3 z z z<|q_sub z z<|q_mul z z<|q_sub z z<|fa fl56_0 z<|fa fl23_2 z<|ld hI7 0 ag3 z z z<|iK H fun h10 H=>q_quo z z h10<|q_max z z<|asn z<|nl<|hK9 _ _ _<|wr<|?_
 refine have hI11:=Hp.pick 1 [] hI7 z;?_
 cases H
 exact rt ⟨_, _, z, z, z⟩ hI11
theorem pages_sheet_reader_spec {a1 : pages_sheet} {r1002 G L w} (H : pages_sheet_reader a1 = some r1002) (hI : Hp G L w) :
    Calls Try.prog 38 [agg [int .i64 a1.Paper.Width, int .i64 a1.Paper.Height, int .i64 a1.Paper.Columns, int .i64 a1.Paper.Gap, int .i64 a1.Paper.Scale, int .i64 a1.Paper.Lang].toArray].toArray w fun e w' => Hp G L w' ∧ e = .returned (agg [int .i64 r1002.Width, int .i64 r1002.Scale, int .i64 r1002.Lang].toArray) := by
 refine calls_intro (N := 12) Try.func38 z z (Nat.le_of_ble_eq_true z)<|?_
 unfold pages_sheet_reader at H
 refine sr fun K2 hK3=>bxk hI z z fun g5 wd6 hI7=>q_alloc hI7 ze77 fun g9 wd10 hI11=>nl<|hK3 _ _ _<|sQ fun K12 hK13=>bK H fun y27 hy212 H=>?_
 refine wpc_drawL [0, 1, 0, 4, 12, 0, 32, 96, 255, 511] (fun D r w => (D 9 = false ∧ ∃ (G' : Gh), G ≤ G' ∧ Regs [(1, pointer (some ⟨g5, 0, none⟩)), (2, pointer (some ⟨g9, 0, none⟩))] [] [(0, 3, agg [int .i64 a1.Paper.Width, int .i64 a1.Paper.Height, int .i64 a1.Paper.Columns, int .i64 a1.Paper.Gap, int .i64 a1.Paper.Scale, int .i64 a1.Paper.Lang].toArray), (1, 4, int .i64 y27), (2, 5, pointer (some ⟨g5, 0, none⟩)), (3, 6, pointer (some ⟨g5, 4, none⟩)), (4, 7, int .i64 a1.Paper.Scale), (5, 8, pointer (some ⟨g5, 0, none⟩)), (6, 9, pointer (some ⟨g5, 5, none⟩)), (7, 10, int .i64 a1.Paper.Lang), (8, 11, agg [int .i64 y27, int .i64 a1.Paper.Scale, int .i64 a1.Paper.Lang].toArray)] D r ∧ Hp G' (bx g9 [int .i64 0, int .i64 0, int .i64 0] 77 :: bx g5 [int .i64 a1.Paper.Width, int .i64 a1.Paper.Height, int .i64 a1.Paper.Columns, int .i64 a1.Paper.Gap, int .i64 a1.Paper.Scale, int .i64 a1.Paper.Lang] 56 :: L) w) ∨ (D 9 = true ∧ ∃ (G' : Gh), G ≤ G' ∧ Regs [(1, pointer (some ⟨g5, 0, none⟩)), (2, pointer (some ⟨g9, 0, none⟩))] [] [(0, 3, agg [int .i64 a1.Paper.Width, int .i64 a1.Paper.Height, int .i64 a1.Paper.Columns, int .i64 a1.Paper.Gap, int .i64 a1.Paper.Scale, int .i64 a1.Paper.Lang].toArray), (1, 4, int .i64 y27), (2, 5, pointer (some ⟨g5, 0, none⟩)), (3, 6, pointer (some ⟨g5, 4, none⟩)), (4, 7, int .i64 a1.Paper.Scale), (5, 8, pointer (some ⟨g5, 0, none⟩)), (6, 9, pointer (some ⟨g5, 5, none⟩)), (7, 10, int .i64 a1.Paper.Lang), (8, 11, agg [int .i64 y27, int .i64 a1.Paper.Scale, int .i64 a1.Paper.Lang].toArray)] D r ∧ Hp G' (bx g9 [int .i64 y27, int .i64 a1.Paper.Scale, int .i64 a1.Paper.Lang] 77 :: bx g5 [int .i64 a1.Paper.Width, int .i64 a1.Paper.Height, int .i64 a1.Paper.Columns, int .i64 a1.Paper.Gap, int .i64 a1.Paper.Scale, int .i64 a1.Paper.Lang] 56 :: L) w)) mixo z z ?_ ?_ ?_
 exact (.inl ⟨z, _, Gh.le_refl _, Regs.start ⟨z, z, tv⟩ trivial, hI11.drew⟩)
 refine ⟨?_, ?_, ?_, ?_, ?_, ?_, ?_, ?_, ?_, ?_, tv⟩
 rintro D r wd229 (⟨hd2, G225, hG226, hReg228, hI227⟩ | ⟨hd1, G225, hG226, hReg228, hI227⟩) hDi hpre hpost
 obtain ⟨r0, rfl⟩ := Has.ex (cC (hReg228.ins.get 0 rfl) cN)
 exact lda hI227 1 ag56 z z z z<|nl ⟨z, (.inl ⟨hd2, _, hG226, (Regs.step hReg228 hDi z z z z), hI227⟩)⟩
 cases (hpost 9 rfl).symm.trans hd1
 rintro D r wd229 (⟨hd2, G225, hG226, hReg228, hI227⟩ | ⟨hd1, G225, hG226, hReg228, hI227⟩) hDi hpre hpost
 obtain ⟨r0, rfl⟩ := Has.ex (cC (hReg228.get 0 rfl (hpre 0 rfl)) cN)
 exact cv bo51 (pages_sheet_column_spec hy212 hI227) z z fun wd25 hI26=>nl ⟨z, (.inl ⟨hd2, _, hG226, (Regs.step hReg228 hDi z z z z), hI26⟩)⟩
 cases (hpost 9 rfl).symm.trans hd1
 rintro D r wd229 (⟨hd2, G225, hG226, hReg228, hI227⟩ | ⟨hd1, G225, hG226, hReg228, hI227⟩) hDi hpre hpost
 obtain ⟨r0, rfl⟩ := Has.ex (cC (hReg228.ins.get 0 rfl) cN)
 exact fa fl56_0 z<|nl ⟨z, (.inl ⟨hd2, _, hG226, (Regs.step hReg228 hDi z z z z), hI227⟩)⟩
 cases (hpost 9 rfl).symm.trans hd1
 rintro D r wd229 (⟨hd2, G225, hG226, hReg228, hI227⟩ | ⟨hd1, G225, hG226, hReg228, hI227⟩) hDi hpre hpost
 obtain ⟨r0, rfl⟩ := Has.ex (cC (hReg228.get 2 rfl (hpre 2 rfl)) cN)
 exact fa fl23_4 z<|nl ⟨z, (.inl ⟨hd2, _, hG226, (Regs.step hReg228 hDi z z z z), hI227⟩)⟩
 cases (hpost 9 rfl).symm.trans hd1
 rintro D r wd229 (⟨hd2, G225, hG226, hReg228, hI227⟩ | ⟨hd1, G225, hG226, hReg228, hI227⟩) hDi hpre hpost
 obtain ⟨r0, rfl⟩ := Has.ex (cC (hReg228.get 3 rfl (hpre 3 rfl)) cN)
 exact ld hI227 1 ag3 z z z<|nl ⟨z, (.inl ⟨hd2, _, hG226, (Regs.step hReg228 hDi z z z z), hI227⟩)⟩
 cases (hpost 9 rfl).symm.trans hd1
 rintro D r wd229 (⟨hd2, G225, hG226, hReg228, hI227⟩ | ⟨hd1, G225, hG226, hReg228, hI227⟩) hDi hpre hpost
 obtain ⟨r0, rfl⟩ := Has.ex (cC (hReg228.ins.get 0 rfl) cN)
 exact fa fl56_0 z<|nl ⟨z, (.inl ⟨hd2, _, hG226, (Regs.step hReg228 hDi z z z z), hI227⟩)⟩
 cases (hpost 9 rfl).symm.trans hd1
 rintro D r wd229 (⟨hd2, G225, hG226, hReg228, hI227⟩ | ⟨hd1, G225, hG226, hReg228, hI227⟩) hDi hpre hpost
 obtain ⟨r0, rfl⟩ := Has.ex (cC (hReg228.get 5 rfl (hpre 5 rfl)) cN)
 exact fa fl23_5 z<|nl ⟨z, (.inl ⟨hd2, _, hG226, (Regs.step hReg228 hDi z z z z), hI227⟩)⟩
 cases (hpost 9 rfl).symm.trans hd1
 rintro D r wd229 (⟨hd2, G225, hG226, hReg228, hI227⟩ | ⟨hd1, G225, hG226, hReg228, hI227⟩) hDi hpre hpost
 obtain ⟨r0, rfl⟩ := Has.ex (cC (hReg228.get 6 rfl (hpre 6 rfl)) cN)
 exact ld hI227 1 ag3 z z z<|nl ⟨z, (.inl ⟨hd2, _, hG226, (Regs.step hReg228 hDi z z z z), hI227⟩)⟩
 cases (hpost 9 rfl).symm.trans hd1
 rintro D r wd229 (⟨hd2, G225, hG226, hReg228, hI227⟩ | ⟨hd1, G225, hG226, hReg228, hI227⟩) hDi hpre hpost
 obtain ⟨r0, rfl⟩ := Has.ex (cC (hReg228.get 1 rfl (hpre 1 rfl)) (cC (hReg228.get 4 rfl (hpre 4 rfl)) (cC (hReg228.get 7 rfl (hpre 7 rfl)) cN)))
 exact q_build (vs := [(0, int .i64 y27), (1, int .i64 a1.Paper.Scale), (2, int .i64 a1.Paper.Lang)]) (cs := [int .i64 y27, int .i64 a1.Paper.Scale, int .i64 a1.Paper.Lang]) ze77 pl77 z z<|nl ⟨z, (.inl ⟨hd2, _, hG226, (Regs.step hReg228 hDi z z z z), hI227⟩)⟩
 cases (hpost 9 rfl).symm.trans hd1
 rintro D r wd229 (⟨hd2, G225, hG226, hReg228, hI227⟩ | ⟨hd1, G225, hG226, hReg228, hI227⟩) hDi hpre hpost
 obtain ⟨r0, rfl⟩ := Has.ex (cC (hReg228.ins.get 1 rfl) (cC (hReg228.get 8 rfl (hpre 8 rfl)) cN))
 exact stk hI227 0 ag77 z z z z z z z fun wd223 hI224=>nl ⟨z, (.inr ⟨z, _, hG226, (Regs.stepN hReg228 z z), hI224⟩)⟩
 cases hDi.symm.trans hd1
 intro D r wd229 hall hR
 rcases hR with ⟨hd2, G225, hG226, hReg228, hI227⟩ | ⟨hd1, G225, hG226, hReg228, hI227⟩
 cases (hall 9 (Nat.le_of_ble_eq_true rfl)).symm.trans hd2
 obtain ⟨r0, rfl⟩ := Has.ex (cC (hReg228.ins.get 1 rfl) cN)
 refine hK13 _ _ _<|wr<|have hr230:=res_cell (P := Try.prog) hI227 0 (cs := [int .i64 y27, int .i64 a1.Paper.Scale, int .i64 a1.Paper.Lang]) (g := g9) (o := 0) ag77 z z z;have hI231:=Hp.pick 2 [] hI227 z;?_
 cases H
 exact rt ⟨_, _, _, z, z, hr230, z⟩ (Hp.low hG226 hI231)
theorem pages_sheet_valid_spec {a1 : pages_sheet} {r1002 G L w} (H : pages_sheet_valid a1 = some r1002) (hI : Hp G L w) :
    Calls Try.prog 20 [agg [int .i64 a1.Paper.Width, int .i64 a1.Paper.Height, int .i64 a1.Paper.Columns, int .i64 a1.Paper.Gap, int .i64 a1.Paper.Scale, int .i64 a1.Paper.Lang].toArray].toArray w fun e w' => Hp G L w' ∧ e = .returned (bool r1002) := by
 refine calls_intro (N := 30) Try.func20 z z (Nat.le_of_ble_eq_true z)<|?_
 unfold pages_sheet_valid at H
 refine sr fun K2 hK3=>bxk hI z z fun g5 wd6 hI7=>asn z<|nl<|hK3 _ _ _<|sr fun K8 hK9=>fa fl56_0 z<|fa fl23_2 z<|ld hI7 0 ag3 z z z<|bK H fun y15 hy10 H=>cv bo36 (pages_within_spec hy10 hI7) z z fun wd13 hI14=>mv z<|bK H fun v16 hC H=>js 5 hI14 [(1, pointer (some ⟨g5, 0, none⟩)), (12, bool v16)] ?_ fun _ wd19 hI20=>?_
 refine have H:=hC;dC (y15 = true) (fun h22=>?_) fun h22=>?_
 refine yK h22 H fun H=>fa (hw:=gY z z z (vY h22)) fl56_0 z<|fa (hw:=gY z z z (vY h22)) fl23_3 z<|ld (hw:=gY z z z (vY h22)) hI14 0 ag3 z z z<|bK H fun y28 hy23 H=>cv (hw:=gY z z z (vY h22)) bo36 (pages_within_spec hy23 hI14) z z fun wd26 hI27=>pkt (vY h22) z<|nl<|?_
 cases H
 exact je ⟨z, z, tv⟩ hI27
 refine nK h22 H fun H=>Sk 4 z z (vN h22) z<|pkf (vN h22) z<|nl<|?_
 cases H
 exact je ⟨z, z, tv⟩ hI14
 refine mv z<|bK H fun v29 hC H=>js 5 hI20 [(1, pointer (some ⟨g5, 0, none⟩)), (18, bool v29)] ?_ fun _ wd32 hI33=>?_
 refine have H:=hC;dC (v16 = true) (fun h35=>?_) fun h35=>?_
 refine yK h35 H fun H=>fa (hw:=gY z z z (vY h35)) fl56_0 z<|fa (hw:=gY z z z (vY h35)) fl23_0 z<|ld (hw:=gY z z z (vY h35)) hI20 0 ag3 z z z<|bK H fun y41 hy36 H=>cv (hw:=gY z z z (vY h35)) bo36 (pages_within_spec hy36 hI20) z z fun wd39 hI40=>pkt (vY h35) z<|nl<|?_
 cases H
 exact je ⟨z, z, tv⟩ hI40
 refine nK h35 H fun H=>Sk 4 z z (vN h35) z<|pkf (vN h35) z<|nl<|?_
 cases H
 exact je ⟨z, z, tv⟩ hI20
 refine mv z<|bK H fun v42 hC H=>js 5 hI33 [(1, pointer (some ⟨g5, 0, none⟩)), (24, bool v42)] ?_ fun _ wd45 hI46=>?_
 refine have H:=hC;dC (v29 = true) (fun h48=>?_) fun h48=>?_
 refine yK h48 H fun H=>fa (hw:=gY z z z (vY h48)) fl56_0 z<|fa (hw:=gY z z z (vY h48)) fl23_1 z<|ld (hw:=gY z z z (vY h48)) hI33 0 ag3 z z z<|bK H fun y54 hy49 H=>cv (hw:=gY z z z (vY h48)) bo36 (pages_within_spec hy49 hI33) z z fun wd52 hI53=>pkt (vY h48) z<|nl<|?_
 cases H
 exact je ⟨z, z, tv⟩ hI53
 refine nK h48 H fun H=>Sk 4 z z (vN h48) z<|pkf (vN h48) z<|nl<|?_
 cases H
 exact je ⟨z, z, tv⟩ hI33
 refine mv z<|bK H fun v55 hC H=>js 4 hI46 [(29, bool v55)] ?_ fun _ wd58 hI59=>?_
 refine have H:=hC;dC (v42 = true) (fun h61=>?_) fun h61=>?_
 refine yK h61 H fun H=>lda (hw:=gY z z z (vY h61)) hI46 0 ag56 z z z z<|bK H fun y67 hy62 H=>cv (hw:=gY z z z (vY h61)) bo38 (pages_sheet_reader_spec hy62 hI46) z z fun wd65 hI66=>bK H fun y73 hy68 H=>cv (hw:=gY z z z (vY h61)) bo37 (pages_isReader_spec hy68 hI66) z z fun wd71 hI72=>pkt (vY h61) z<|nl<|?_
 cases H
 exact je ⟨z, tv⟩ hI72
 refine nK h61 H fun H=>Sk 3 z z (vN h61) z<|pkf (vN h61) z<|nl<|?_
 cases H
 exact je ⟨z, tv⟩ hI46
 refine asn z<|nl<|hK9 _ _ _<|wr<|have hI74:=Hp.pick 1 [] hI59 z;?_
 cases H
 exact rt ⟨_, _, z, z, z⟩ hI74
theorem pages_areCoords_1_spec {a1 r1002 G L w} (H : pages_areCoords_1 a1 = some r1002) (hI : Hp G L w) :
    Calls Try.prog 53 [int .i64 a1].toArray w fun e w' => Hp G L w' ∧ e = .returned (bool r1002) := by
 refine calls_intro (N := 6) Try.func53 z z (Nat.le_of_ble_eq_true z)<|?_
 unfold pages_areCoords_1 at H
 refine sr fun K2 hK3=>asn z<|nl<|hK3 _ _ _<|sr fun K4 hK5=>mv z<|bK H fun y11 hy6 H=>cv bo36 (pages_within_spec hy6 hI) z z fun wd9 hI10=>q_not z<|asn z<|nl<|hK5 _ _ _<|wr<|?_
 cases H
 exact rt ⟨_, _, z, z, z⟩ hI10
theorem slices_IndexFunc_int_k1_spec {a1 A2 c3 r1006 G L w} (H : slices_IndexFunc_int_k1 a1 = some r1006) (hI : Hp G L w) (hl4 : a1.length ≤ c3) (hD5 : Dat (Kd.int .i64) G A2 a1) :
    Calls Try.prog 61 [slice A2 a1.length c3, func (.func 53) [].toArray [].toArray].toArray w fun e w' => Hp G L w' ∧ e = .returned (int .i64 r1006) := by
 refine calls_intro (N := 19) Try.func61 z z (Nat.le_of_ble_eq_true z)<|?_
 unfold slices_IndexFunc_int_k1 at H
 refine sr fun K6 hK7=>asn z<|nl<|hK7 _ _ _<|sQ fun K8 hK9=>sr fun K10 hK11=>mv z<|q_len so65 z<|mv z<|nl<|hK11 _ _ _<|wb<|bK H fun o32 hC H=>wpc_mono (Q := fun e r ds w => match (generalizing := false) o32 with | (Sum.inl v23) => e = .ret ∧ ds = [] ∧ Has [(4, int .i64 v23)] r ∧ Hp G (L) w ∧ True | (Sum.inr _) => e = .exit 0 ∧ ds = [] ∧ Has [] r ∧ Hp G (L) w ∧ True) ?_ ?_
 refine wpc_loop fun I hLp=>?_
 refine slices_IndexFunc_int_k1_l22.partial_correctness a1 (fun v16 o => ∀ (r : Rg) (w : World), Has [(0, slice A2 a1.length c3), (1, func (.func 53) [].toArray [].toArray), (7, int .i64 (a1.length : Int)), (8, int .i64 v16)] r → Hp G (L) w → o = o32 → I r [] w) ?_ 0 _ hC _ _ ⟨rfl, rfl, rfl, rfl, tv⟩ hI rfl
 intro _ ih v16 o H r wd35 hHas hI36 ho
 rw [ho] at H; clear ho
 rw [hHas.eq]; clear hHas
 refine hLp _ _ _<|sr fun K37 hK38=>q_lss z z<|nl<|hK38 _ _ _<|sQ fun K39 hK40=>dC (v16 < (a1.length : Int)) (fun h41=>?_) fun h41=>?_
 refine yK h41 H fun H=>wt (bY h41)<|ws<|hK40 _ _ _<|sQ fun K42 hK43=>wb<|sr fun K44 hK45=>mv z<|asn z<|nl<|hK45 _ _ _<|sr fun K46 hK47=>mv z<|mv z<|?_
 refine mv z<|iK H fun⟨h48, h48'⟩H=>?_
 obtain ⟨ad49, cs50, hA51, hK52, hn53, hc54⟩ := Dat.get hD5 (0 : Int) (v16) h48 h48'
 obtain rfl := hK52
 refine q_ia el65 z hA51 z h48 h48'<|q_lf hI36 ag3 z (gR.cel _ _ (hc54 0 _ z))<|bK H fun y60 hy55 H=>cv bo53 (pages_areCoords_1_spec hy55 hI36) z z fun wd58 hI59=>nl<|hK47 _ _ _<|dC (y60 = true) (fun h61=>?_) fun h61=>?_
 refine yK h61 H fun H=>wt (vY h61)<|sr fun K62 hK63=>mv z<|asn z<|nl<|hK63 _ _ _<|wr<|?_
 cases H
 exact ⟨z, z, ⟨z, tv⟩, hI59, tv⟩
 exact nK h61 H fun H=>wf (vN h61)<|ws<|hK43 _ _ _<|wpc_region<|q_add z z<|mv z<|nl<|ih _ _ H _ _ ⟨z, z, z, z, tv⟩ hI59 z
 refine nK h41 H fun H=>wf (bN h41)<|wx<|?_
 cases H
 exact ⟨z, z, trivial, hI36, tv⟩
 rcases o32 with v23 | _
 rintro e r ds wd26 ⟨rfl, rfl, hHas, hI27, _⟩
 rw [hHas.eq]; clear hHas
 cases H
 exact rt ⟨_, _, z, z, z⟩ hI27
 rintro e r ds wd30 ⟨rfl, rfl, hHas, hI31, _⟩
 rw [hHas.eq]; clear hHas
 refine hK9 _ _ _<|sr fun K64 hK65=>asn z<|nl<|hK65 _ _ _<|wr<|?_
 cases H
 exact rt ⟨_, _, z, z, z⟩ hI31
theorem slices_ContainsFunc_int_k1_spec {a1 A2 c3 r1006 G L w} (H : slices_ContainsFunc_int_k1 a1 = some r1006) (hI : Hp G L w) (hl4 : a1.length ≤ c3) (hD5 : Dat (Kd.int .i64) G A2 a1) :
    Calls Try.prog 52 [slice A2 a1.length c3, func (.func 53) [].toArray [].toArray].toArray w fun e w' => Hp G L w' ∧ e = .returned (bool r1006) := by
 refine calls_intro (N := 9) Try.func52 z z (Nat.le_of_ble_eq_true z)<|?_
 unfold slices_ContainsFunc_int_k1 at H
 refine sr fun K6 hK7=>asn z<|nl<|hK7 _ _ _<|sr fun K8 hK9=>mv z<|mv z<|bK H fun y15 hy10 H=>cv bo61 (slices_IndexFunc_int_k1_spec hy10 hI hl4 hD5) z z fun wd13 hI14=>q_geq z z<|asn z<|nl<|hK9 _ _ _<|wr<|?_
 cases H
 exact rt ⟨_, _, z, z, z⟩ hI14
theorem pages_areCoords_spec {a1 A2 c3 r1006 G L w} (H : pages_areCoords a1 = some r1006) (hI : Hp G L w) (hl4 : a1.length ≤ c3) (hD5 : Dat (Kd.int .i64) G A2 a1) :
    Calls Try.prog 39 [slice A2 a1.length c3].toArray w fun e w' => Hp G L w' ∧ e = .returned (bool r1006) := by
 refine calls_intro (N := 6) Try.func39 z z (Nat.le_of_ble_eq_true z)<|?_
 unfold pages_areCoords at H
 refine sr fun K6 hK7=>asn z<|nl<|hK7 _ _ _<|sr fun K8 hK9=>mv z<|bK H fun y15 hy10 H=>cv bo52 (slices_ContainsFunc_int_k1_spec hy10 hI hl4 hD5) z z fun wd13 hI14=>q_not z<|asn z<|nl<|hK9 _ _ _<|wr<|?_
 cases H
 exact rt ⟨_, _, z, z, z⟩ hI14
theorem text_Class_spec {a1 r1002 G L w} (H : text_Class a1 = some r1002) (hI : Hp G L w) :
    Calls Try.prog 54 [int .u8 a1].toArray w fun e w' => Hp G L w' ∧ e = .returned (int .i64 r1002) := by
 refine calls_intro (N := 37) Try.func54 z z (Nat.le_of_ble_eq_true z)<|?_
 unfold text_Class at H
 refine sr fun K2 hK3=>asn z<|nl<|hK3 _ _ _<|sQ fun K4 hK5=>wb<|sr fun K6 hK7=>mv z<|q_eql z z<|asn z<|nl<|hK7 _ _ _<|dC (a1 = 32) (fun h8=>?_) fun h8=>?_
 refine yK h8 H fun H=>wt (bY h8)<|sr fun K9 hK10=>asn z<|nl<|hK10 _ _ _<|wr<|?_
 cases H
 exact rt ⟨_, _, z, z, z⟩ hI
 refine nK h8 H fun H=>wf (bN h8)<|sr fun K11 hK12=>mv z<|q_eql z z<|asn z<|nl<|hK12 _ _ _<|dC (a1 = 126) (fun h13=>?_) fun h13=>?_
 refine yK h13 H fun H=>wt (bY h13)<|sr fun K14 hK15=>asn z<|nl<|hK15 _ _ _<|wr<|?_
 cases H
 exact rt ⟨_, _, z, z, z⟩ hI
 refine nK h13 H fun H=>wf (bN h13)<|sr fun K16 hK17=>mv z<|q_lss z z<|mv z<|bK H fun v18 hC H=>js 3 hI [(0, int .u8 a1), (15, bool v18)] ?_ fun _ wd21 hI22=>?_
 refine have H:=hC;dC (a1 < 32) (fun h24=>?_) fun h24=>?_
 refine yK h24 H fun H=>Sk 2 z z (bY h24) z<|pkt (bY h24) z<|nl<|?_
 cases H
 exact je ⟨z, z, tv⟩ hI
 refine nK h24 H fun H=>mv (hw:=gY z z z (bN h24)) z<|q_gtr (hw:=gY z z z (bN h24)) z z<|pkf (bN h24) z<|nl<|?_
 cases H
 exact je ⟨z, z, tv⟩ hI
 refine asn z<|nl<|hK17 _ _ _<|dC (v18 = true) (fun h25=>?_) fun h25=>?_
 refine yK h25 H fun H=>wt (vY h25)<|sr fun K26 hK27=>asn z<|nl<|hK27 _ _ _<|wr<|?_
 cases H
 exact rt ⟨_, _, z, z, z⟩ hI22
 refine nK h25 H fun H=>wf (vN h25)<|sr fun K28 hK29=>mv z<|q_leq z z<|mv z<|bK H fun v30 hC H=>js 3 hI22 [(0, int .u8 a1), (22, bool v30)] ?_ fun _ wd33 hI34=>?_
 refine have H:=hC;dC (97 ≤ a1) (fun h36=>?_) fun h36=>?_
 refine yK h36 H fun H=>mv (hw:=gY z z z (bY h36)) z<|q_leq (hw:=gY z z z (bY h36)) z z<|pkt (bY h36) z<|nl<|?_
 cases H
 exact je ⟨z, z, tv⟩ hI22
 refine nK h36 H fun H=>Sk 2 z z (bN h36) z<|pkf (bN h36) z<|nl<|?_
 cases H
 exact je ⟨z, z, tv⟩ hI22
 refine asn z<|nl<|hK29 _ _ _<|dC (v30 = true) (fun h37=>?_) fun h37=>?_
 refine yK h37 H fun H=>wt (vY h37)<|sr fun K38 hK39=>asn z<|nl<|hK39 _ _ _<|wr<|?_
 cases H
 exact rt ⟨_, _, z, z, z⟩ hI34
 refine nK h37 H fun H=>wf (vN h37)<|sr fun K40 hK41=>mv z<|q_leq z z<|mv z<|bK H fun v42 hC H=>js 3 hI34 [(0, int .u8 a1), (29, bool v42)] ?_ fun _ wd45 hI46=>?_
 refine have H:=hC;dC (65 ≤ a1) (fun h48=>?_) fun h48=>?_
 refine yK h48 H fun H=>mv (hw:=gY z z z (bY h48)) z<|q_leq (hw:=gY z z z (bY h48)) z z<|pkt (bY h48) z<|nl<|?_
 cases H
 exact je ⟨z, z, tv⟩ hI34
 refine nK h48 H fun H=>Sk 2 z z (bN h48) z<|pkf (bN h48) z<|nl<|?_
 cases H
 exact je ⟨z, z, tv⟩ hI34
 refine asn z<|nl<|hK41 _ _ _<|dC (v42 = true) (fun h49=>?_) fun h49=>?_
 refine yK h49 H fun H=>wt (vY h49)<|sr fun K50 hK51=>asn z<|nl<|hK51 _ _ _<|wr<|?_
 cases H
 exact rt ⟨_, _, z, z, z⟩ hI46
 refine nK h49 H fun H=>wf (vN h49)<|sr fun K52 hK53=>mv z<|q_leq z z<|mv z<|bK H fun v54 hC H=>js 3 hI46 [(36, bool v54)] ?_ fun _ wd57 hI58=>?_
 refine have H:=hC;dC (48 ≤ a1) (fun h60=>?_) fun h60=>?_
 refine yK h60 H fun H=>mv (hw:=gY z z z (bY h60)) z<|q_leq (hw:=gY z z z (bY h60)) z z<|pkt (bY h60) z<|nl<|?_
 cases H
 exact je ⟨z, tv⟩ hI46
 refine nK h60 H fun H=>Sk 2 z z (bN h60) z<|pkf (bN h60) z<|nl<|?_
 cases H
 exact je ⟨z, tv⟩ hI46
 refine asn z<|nl<|hK53 _ _ _<|dC (v54 = true) (fun h61=>?_) fun h61=>?_
 refine yK h61 H fun H=>wt (vY h61)<|sr fun K62 hK63=>asn z<|nl<|hK63 _ _ _<|wr<|?_
 cases H
 exact rt ⟨_, _, z, z, z⟩ hI58
 refine nK h61 H fun H=>wf (vN h61)<|ws<|hK5 _ _ _<|sr fun K64 hK65=>asn z<|nl<|hK65 _ _ _<|wr<|?_
 cases H
 exact rt ⟨_, _, z, z, z⟩ hI58
theorem text_Valid_spec {a1 r1002 G L w} (H : text_Valid a1 = some r1002) (hI : Hp G L w) :
    Calls Try.prog 40 [string a1].toArray w fun e w' => Hp G L w' ∧ e = .returned (bool r1002) := by
 refine calls_intro (N := 21) Try.func40 z z (Nat.le_of_ble_eq_true z)<|?_
 unfold text_Valid at H
 refine sr fun K2 hK3=>asn z<|nl<|hK3 _ _ _<|sQ fun K4 hK5=>sr fun K6 hK7=>mv z<|q_rgs hI so9 z fun g9 wd10 hI11=>nl<|hK7 _ _ _<|wb<|bK H fun o33 hC H=>?_
 refine wpc_mono (Q := fun e r ds w => match (generalizing := false) o33 with | (Sum.inl v23) => e = .ret ∧ ds = [] ∧ Has [(2, bool false)] r ∧ Hp G (ob g9 (Obj.stringIter a1 v23) :: L) w ∧ True | (Sum.inr v24) => e = .exit 0 ∧ ds = [] ∧ Has [(0, string a1)] r ∧ Hp G (ob g9 (Obj.stringIter a1 v24) :: L) w ∧ True) ?_ ?_
 refine wpc_loop fun I hLp=>?_
 refine text_Valid_l22.partial_correctness a1 (fun v16 o => ∀ (r : Rg) (w : World), Has [(0, string a1), (6, pointer (some ⟨g9, 0, none⟩))] r → Hp G (ob g9 (Obj.stringIter a1 v16) :: L) w → o = o33 → I r [] w) ?_ 0 _ hC _ _ ⟨rfl, rfl, tv⟩ hI11 rfl
 intro _ ih v16 o H r wd36 hHas hI37 ho
 rw [ho] at H; clear ho
 rw [hHas.eq]; clear hHas
 refine hLp _ _ _<|sr fun K38 hK39=>dC (v16 < a1.size) (fun h40=>?_) fun h40=>?_
 refine yK h40 H fun H=>q_nxy hI37 0 z z h40 fun wd41 hI42=>exk z z<|nl<|hK39 _ _ _<|sQ fun K43 hK44=>wt z<|ws<|hK44 _ _ _<|wb<|sr fun K45 hK46=>exk z z<|asn z<|nl<|?_
 refine hK46 _ _ _<|sr fun K47 hK48=>mv z<|q_gtr z z<|mv z<|bK H fun v49 hC H=>js 5 hI42 [(0, string a1), (6, pointer (some ⟨g9, 0, none⟩)), (17, bool v49)] ?_ fun _ wd52 hI53=>?_
 refine have H:=hC;dC (126 < ((Utf8.decode a1 v16).1 : Int)) (fun h55=>?_) fun h55=>?_
 refine yK h55 H fun H=>Sk 4 z z (bY h55) z<|pkt (bY h55) z<|nl<|?_
 cases H
 exact je ⟨z, z, z, tv⟩ hI42
 refine nK h55 H fun H=>mv (hw:=gY z z z (bN h55)) z<|q_cvi (hw:=gY z z z (bN h55)) ik21 ik5 z<|bK H fun y61 hy56 H=>cv (hw:=gY z z z (bN h55)) bo54 (text_Class_spec hy56 hI42) z z fun wd59 hI60=>q_eql (hw:=gY z z z (bN h55)) z z<|pkf (bN h55) z<|nl<|?_
 cases H
 exact je ⟨z, z, z, tv⟩ hI60
 refine nl<|hK48 _ _ _<|dC (v49 = true) (fun h62=>?_) fun h62=>?_
 refine yK h62 H fun H=>wt (vY h62)<|sr fun K63 hK64=>asn z<|nl<|hK64 _ _ _<|wr<|?_
 cases H
 exact ⟨z, z, ⟨z, tv⟩, hI53, tv⟩
 exact nK h62 H fun H=>wf (vN h62)<|ws<|ih _ _ H _ _ ⟨z, z, tv⟩ hI53 z
 refine nK h40 H fun H=>q_nxn hI37 0 z z h40<|exk z z<|nl<|hK39 _ _ _<|sQ fun K65 hK66=>wf z<|wx<|?_
 cases H
 exact ⟨z, z, ⟨z, tv⟩, hI37, tv⟩
 rcases o33 with v23 | v24
 rintro e r ds wd27 ⟨rfl, rfl, hHas, hI28, _⟩
 rw [hHas.eq]; clear hHas
 refine have hI67:=Hp.pick 1 [] hI28 z;?_
 cases H
 exact rt ⟨_, _, z, z, z⟩ hI67
 rintro e r ds wd31 ⟨rfl, rfl, hHas, hI32, _⟩
 rw [hHas.eq]; clear hHas
 refine hK5 _ _ _<|sr fun K68 hK69=>mv z<|q_lens so9 z<|q_leq z z<|asn z<|nl<|hK69 _ _ _<|wr<|have hI70:=Hp.pick 1 [] hI32 z;?_
 cases H
 exact rt ⟨_, _, z, z, z⟩ hI70
end Go.Proofs.Ytlcfemplcaejgaa.LG
