/-
  The walks: each function computes its plain function: printed by a program out of the translation.
-/
import Derived.Test.YtokeiiakkfdmgaaGreatDoorSc
set_option linter.unusedVariables false
set_option linter.unusedSimpArgs false
set_option maxRecDepth 100000
namespace Go.Proofs.YtokeiiakkfdmgaaGreatDoor.LG
open Go Go.LG Go.RowKit Go.Value
set_option maxHeartbeats 1000000
open Go.Lib Go.Shelf Go.Proofs
theorem formeref07_Raw_spec {a1 a10 A2 c3 A6 c7 r1011 r1012 G L w} (H : formeref07_Raw a1 a10 = some (r1011, r1012)) (hI : Hp G L w) (hl4 : a1.Glyphs.length ≤ c3) (hD5 : Dat k_api_Glyph G A2 a1.Glyphs) (hl8 : a1.Kerns.length ≤ c7) (hD9 : Dat k_api_Kern G A6 a1.Kerns) :
    Calls Tryz.prog 76 [agg [slice A2 a1.Glyphs.length c3, slice A6 a1.Kerns.length c7].toArray, string a10].toArray w fun e w' => Hp G L w' ∧ e = .returned (tuple [int .i64 r1011, int .i64 r1012].toArray) := by
 refine calls_intro (N := 59) Tryz.func76 z z (Nat.le_of_ble_eq_true z)<|?_
 unfold formeref07_Raw at H
 refine sr fun K11 hK12=>bxk hI z z fun g14 wd15 hI16=>asn z<|asn z<|nl<|hK12 _ _ _<|sr fun K17 hK18=>lda hI16 0 ag25 z z z z<|mv z<|bK2 H fun y24 y25 hy19 H=>cv bo63 (formeref07_Has_spec hy19 hI16 hl4 hD5 hl8 hD9) z z fun wd22 hI23=>mv z<|exk z z<|exk z z<|?_
 refine asn z<|asn z<|nl<|hK18 _ _ _<|sQ fun K26 hK27=>sr fun K28 hK29=>mv z<|q_neq z z<|nl<|hK29 _ _ _<|dC (¬ y25 = 0) (fun h30=>?_) fun h30=>?_
 refine yK h30 H fun H=>wt (bY h30)<|sr fun K31 hK32=>mv z<|asn z<|asn z<|nl<|hK32 _ _ _<|wr<|have hI33:=Hp.sub hI23 (sd se);?_
 cases H
 exact rt ⟨_, _, z, z, ⟨_, _, z, z, z⟩⟩ hI33
 refine nK h30 H fun H=>wf (bN h30)<|ws<|hK27 _ _ _<|sQ fun K34 hK35=>sr fun K36 hK37=>mv z<|q_not z<|nl<|hK37 _ _ _<|dC ((!y24) = true) (fun h38=>?_) fun h38=>?_
 refine yK h38 H fun H=>wt (vY h38)<|sr fun K39 hK40=>asn z<|asn z<|nl<|hK40 _ _ _<|wr<|have hI41:=Hp.sub hI23 (sd se);?_
 cases H
 exact rt ⟨_, _, z, z, ⟨_, _, z, z, z⟩⟩ hI41
 refine nK h38 H fun H=>wf (vN h38)<|ws<|hK35 _ _ _<|sr fun K42 hK43=>mv z<|bK H fun y49 hy44 H=>q_cv (vs := [string a10]) bo87 z z (formeref07_Shown_spec hy44 hI23)<|?_
 rintro _ wd47 ⟨A50, c51, G45, hG46, hI48, hl52, hD53, ho54, rfl⟩
 refine ⟨_, rfl, ?_⟩
 refine asn z<|nl<|hK43 _ _ _<|sr fun K56 hK57=>asn z<|nl<|hK57 _ _ _<|sQ fun K58 hK59=>sr fun K60 hK61=>asn z<|nl<|hK61 _ _ _<|wb<|bK H fun v75 hC H=>?_
 refine wpc_mono (Q := fun e r ds w => e = .exit 0 ∧ ds = [] ∧ Has [(9, int .i64 v75)] r ∧ Hp G45 (bx g14 [slice A2 a1.Glyphs.length c3, slice A6 a1.Kerns.length c7] 25 :: tk (slice A50 y49.length c51) 1 5 :: L) w ∧ True) ?_ ?_
 refine have hI166:=Hp.front hI48 1 z;wpc_loop fun I hLp=>?_
 refine formeref07_Raw_l74.partial_correctness a1 y49 (fun v66 v67 o => ∀ (r : Rg) (w : World), Has [(2, pointer (some ⟨g14, 0, none⟩)), (8, slice A50 y49.length c51), (9, int .i64 v66), (10, int .i64 v67)] r → Hp G45 (bx g14 [slice A2 a1.Glyphs.length c3, slice A6 a1.Kerns.length c7] 25 :: tk (slice A50 y49.length c51) 1 5 :: L) w → o = v75 → I r [] w) ?_ 0 0 _ hC _ _ ⟨rfl, rfl, rfl, rfl, tv⟩ hI166 rfl
 intro _ ih v66 v67 o H r wd83 hHas hI84 ho
 rw [ho] at H; clear ho
 rw [hHas.eq]; clear hHas
 refine hLp _ _ _<|sQ fun K85 hK86=>sr fun K87 hK88=>mv z<|mv z<|q_len so124 z<|q_lss z z<|nl<|hK88 _ _ _<|dC (v67 < (y49.length : Int)) (fun h89=>?_) fun h89=>?_
 refine yK h89 H fun H=>wt (bY h89)<|ws<|hK86 _ _ _<|sQ fun K90 hK91=>bK H fun v92 hC H=>jc .normal hI84 [(2, pointer (some ⟨g14, 0, none⟩)), (8, slice A50 y49.length c51), (9, int .i64 v92), (10, int .i64 v67)] ?_ fun _ wd95 hI96=>?_
 refine have H:=hC;wb<|sQ fun K98 hK99=>?_
 refine wpc_class hI84 mixo (by kernel_rfl) ?_
 refine wq' (fun Gq w hGq Iq=>mv z wqd) z z<|wq' (fun Gq w hGq Iq=>fa fl25_0 z wqd) z z<|wq' (fun Gq w hGq Iq=>ld Iq 0 ag22 z z z wqd) z z<|wq' (fun Gq w hGq Iq=>lda Iq 0 ag25 z z z z wqd) z z<|wq' (fun Gq w hGq Iq=>mv z wqd) z z<|wq' (fun Gq w hGq Iq=>mv z wqd) z z<|iK H fun⟨h112, h112'⟩H=>?_
 obtain ⟨ad113, cs114, hA115, hK116, hn117, hc118⟩ := Dat.get hD53 (0 : Int) (v67) h112 h112'
 obtain rfl := hK116
 refine wq' (fun Gq w hGq Iq=>q_ia el124 z hA115 z h112 h112' wqd) z z<|wq' (fun Gq w hGq Iq=>q_lf Iq ag5 z (hGq.cel _ _ (hc118 0 _ z)) wqd) z z<|bK H fun y120 hy119 H=>wk (vs := [agg [slice A2 a1.Glyphs.length c3, slice A6 a1.Kerns.length c7].toArray, int .u8 (y49.getD (Int.toNat v67) (0 : Int))]) (v := int .i64 y120) bo74 z z (fun Gq w hGq Iq => ?_) ?_
 refine Calls.mono (formeref07_Glyph_spec hy119 Iq hl4 (Dat.mono (gT hG46 hGq) hD5) hl8 (Dat.mono (gT hG46 hGq) hD9))<|?_
 rintro _ w2 ⟨I2, rfl⟩
 exact ⟨z, _, hGq, I2⟩
 refine iK H fun⟨h121, h121'⟩H=>?_
 obtain ⟨ad122, cs123, hA124, hK125, hn126, hc127⟩ := Dat.get (Dat.mono hG46 hD5) z_api_Glyph (y120) h121 h121'
 obtain ⟨rfl⟩ := open_api_Glyph hK125
 refine wq' (fun Gq w hGq Iq=>q_ia el22 z hA124 z h121 h121' wqd) z z<|wq' (fun Gq w hGq Iq=>q_fa fl98_1 z z wqd) z z<|wq' (fun Gq w hGq Iq=>q_lf Iq ag3 z (hGq.cel _ _ (hc127 1 _ z)) wqd) z z<|wq' (fun Gq w hGq Iq=>q_add z z wqd) z z<|wq' (fun Gq w hGq Iq=>asn z wqd) z z<|wz fun wd110 G108 hG109 hI111=>hK99 _ _ _<|sr fun K128 hK129=>mv z<|q_gtr z z<|nl<|hK129 _ _ _<|dC (0 < v67) (fun h130=>?_) fun h130=>?_
 refine yK h130 H fun H=>wt (bY h130)<|?_
 refine wpc_class hI111 mixo (by kernel_rfl) ?_
 refine wq' (fun Gq w hGq Iq=>mv z wqd) z z<|wq' (fun Gq w hGq Iq=>lda Iq 0 ag25 z z z z wqd) z z<|wq' (fun Gq w hGq Iq=>mv z wqd) z z<|wq' (fun Gq w hGq Iq=>mv z wqd) z z<|wq' (fun Gq w hGq Iq=>q_sub z z wqd) z z<|iK H fun⟨h150, h150'⟩H=>?_
 obtain ⟨ad151, cs152, hA153, hK154, hn155, hc156⟩ := Dat.get (Dat.mono hG109 hD53) (0 : Int) (w64 (v67 - 1)) h150 h150'
 obtain rfl := hK154
 refine wq' (fun Gq w hGq Iq=>q_ia el124 z hA153 z h150 h150' wqd) z z<|wq' (fun Gq w hGq Iq=>q_lf Iq ag5 z (hGq.cel _ _ (hc156 0 _ z)) wqd) z z<|wq' (fun Gq w hGq Iq=>mv z wqd) z z<|wq' (fun Gq w hGq Iq=>mv z wqd) z z<|iK H fun⟨h157, h157'⟩H=>?_
 obtain ⟨ad158, cs159, hA160, hK161, hn162, hc163⟩ := Dat.get (Dat.mono hG109 hD53) (0 : Int) (v67) h157 h157'
 obtain rfl := hK161
 refine wq' (fun Gq w hGq Iq=>q_ia el124 z hA160 z h157 h157' wqd) z z<|wq' (fun Gq w hGq Iq=>q_lf Iq ag5 z (hGq.cel _ _ (hc163 0 _ z)) wqd) z z<|bK H fun y165 hy164 H=>wk (vs := [agg [slice A2 a1.Glyphs.length c3, slice A6 a1.Kerns.length c7].toArray, int .u8 (y49.getD (Int.toNat (w64 (v67 - 1))) (0 : Int)), int .u8 (y49.getD (Int.toNat v67) (0 : Int))]) (v := int .i64 y165) bo102 z z (fun Gq w hGq Iq => ?_) ?_
 refine Calls.mono (formeref07_Kern_spec hy164 Iq hl4 (Dat.mono (gT (gT hG46 hG109) hGq) hD5) hl8 (Dat.mono (gT (gT hG46 hG109) hGq) hD9))<|?_
 rintro _ w2 ⟨I2, rfl⟩
 exact ⟨z, _, hGq, I2⟩
 refine wq' (fun Gq w hGq Iq=>q_add z z wqd) z z<|wq' (fun Gq w hGq Iq=>asn z wqd) z z<|wz fun wd148 G146 hG147 hI149=>?_
 cases H
 exact je ⟨z, z, z, z, tv⟩ (Hp.low (gT hG109 hG147) hI149)
 refine nK h130 H fun H=>wf (bN h130)<|ws<|?_
 cases H
 exact je ⟨z, z, z, z, tv⟩ (Hp.low hG109 hI111)
 exact hK91 _ _ _<|wpc_region<|mv z<|q_add z z<|asn z<|nl<|ih _ _ _ H _ _ ⟨z, z, z, z, tv⟩ hI96 z
 refine nK h89 H fun H=>wf (bN h89)<|wx<|?_
 cases H
 exact ⟨z, z, ⟨z, tv⟩, hI84, tv⟩
 rintro e r ds wd78 ⟨rfl, rfl, hHas, hI79, _⟩
 rw [hHas.eq]; clear hHas
 refine hK59 _ _ _<|sr fun K167 hK168=>mv z<|asn z<|asn z<|nl<|hK168 _ _ _<|wr<|have hI169:=Hp.sub hI79 (sd (sd se));?_
 cases H
 exact rt ⟨_, _, z, z, ⟨_, _, z, z, z⟩⟩ (Hp.low hG46 hI169)
theorem formeref07_Width_spec {a1 a10 a11 A2 c3 A6 c7 r1012 r1013 G L w} (H : formeref07_Width a1 a10 a11 = some (r1012, r1013)) (hI : Hp G L w) (hl4 : a1.Glyphs.length ≤ c3) (hD5 : Dat k_api_Glyph G A2 a1.Glyphs) (hl8 : a1.Kerns.length ≤ c7) (hD9 : Dat k_api_Kern G A6 a1.Kerns) :
    Calls Tryz.prog 43 [agg [slice A2 a1.Glyphs.length c3, slice A6 a1.Kerns.length c7].toArray, string a10, int .i64 a11].toArray w fun e w' => Hp G L w' ∧ e = .returned (tuple [int .i64 r1012, int .i64 r1013].toArray) := by
 refine calls_intro (N := 41) Tryz.func43 z z (Nat.le_of_ble_eq_true z)<|?_
 unfold formeref07_Width at H
 refine sr fun K12 hK13=>bxk hI z z fun g15 wd16 hI17=>asn z<|asn z<|nl<|hK13 _ _ _<|sr fun K18 hK19=>lda hI17 0 ag25 z z z z<|mv z<|bK2 H fun y25 y26 hy20 H=>cv bo63 (formeref07_Has_spec hy20 hI17 hl4 hD5 hl8 hD9) z z fun wd23 hI24=>mv z<|exk z z<|exk z z<|?_
 refine asn z<|asn z<|nl<|hK19 _ _ _<|sQ fun K27 hK28=>sr fun K29 hK30=>mv z<|q_neq z z<|mv z<|bK H fun v31 hC H=>js 3 hI24 [(1, string a10), (2, int .i64 a11), (3, pointer (some ⟨g15, 0, none⟩)), (8, bool y25), (23, bool v31)] ?_ fun _ wd34 hI35=>?_
 refine have H:=hC;dC (¬ y26 = 0) (fun h37=>?_) fun h37=>?_
 refine yK h37 H fun H=>Sk 2 z z (bY h37) z<|pkt (bY h37) z<|nl<|?_
 cases H
 exact je ⟨z, z, z, z, z, tv⟩ hI24
 refine nK h37 H fun H=>mv (hw:=gY z z z (bN h37)) z<|q_lss (hw:=gY z z z (bN h37)) z z<|pkf (bN h37) z<|nl<|?_
 cases H
 exact je ⟨z, z, z, z, z, tv⟩ hI24
 refine mv z<|bK H fun v38 hC H=>js 3 hI35 [(1, string a10), (2, int .i64 a11), (3, pointer (some ⟨g15, 0, none⟩)), (8, bool y25), (27, bool v38)] ?_ fun _ wd41 hI42=>?_
 refine have H:=hC;dC (v31 = true) (fun h44=>?_) fun h44=>?_
 refine yK h44 H fun H=>Sk 2 z z (vY h44) z<|pkt (vY h44) z<|nl<|?_
 cases H
 exact je ⟨z, z, z, z, z, tv⟩ hI35
 refine nK h44 H fun H=>mv (hw:=gY z z z (vN h44)) z<|q_gtr (hw:=gY z z z (vN h44)) z z<|pkf (vN h44) z<|nl<|?_
 cases H
 exact je ⟨z, z, z, z, z, tv⟩ hI35
 refine nl<|hK30 _ _ _<|dC (v38 = true) (fun h45=>?_) fun h45=>?_
 refine yK h45 H fun H=>wt (vY h45)<|sr fun K46 hK47=>asn z<|asn z<|nl<|hK47 _ _ _<|wr<|have hI48:=Hp.sub hI42 (sd se);?_
 cases H
 exact rt ⟨_, _, z, z, ⟨_, _, z, z, z⟩⟩ hI48
 refine nK h45 H fun H=>wf (vN h45)<|ws<|hK28 _ _ _<|sQ fun K49 hK50=>sr fun K51 hK52=>mv z<|q_not z<|nl<|hK52 _ _ _<|dC ((!y25) = true) (fun h53=>?_) fun h53=>?_
 refine yK h53 H fun H=>wt (vY h53)<|sr fun K54 hK55=>asn z<|asn z<|nl<|hK55 _ _ _<|wr<|have hI56:=Hp.sub hI42 (sd se);?_
 cases H
 exact rt ⟨_, _, z, z, ⟨_, _, z, z, z⟩⟩ hI56
 refine nK h53 H fun H=>wf (vN h53)<|ws<|hK50 _ _ _<|sr fun K57 hK58=>lda hI42 0 ag25 z z z z<|mv z<|bK2 H fun y64 y65 hy59 H=>cv bo76 (formeref07_Raw_spec hy59 hI42 hl4 hD5 hl8 hD9) z z fun wd62 hI63=>mv z<|exk z z<|exk z z<|asn z<|asn z<|?_
 refine nl<|hK58 _ _ _<|sr fun K66 hK67=>mv z<|mv z<|q_mul z z<|q_add z z<|?_
 refine q_quo rfl rfl (by decide) ?_
 refine asn z<|asn z<|nl<|hK67 _ _ _<|wr<|have hI68:=Hp.sub hI63 (sd se);?_
 cases H
 exact rt ⟨_, _, z, z, ⟨_, _, z, z, z⟩⟩ hI68
theorem formeref17_Line_spec {a1 a10 a11 a12 a13 a14 A2 c3 A6 c7 r1015 G L w} (H : formeref17_Line a1 a10 a11 a12 a13 a14 = some r1015) (hI : Hp G L w) (hl4 : a1.Glyphs.length ≤ c3) (hD5 : Dat k_api_Glyph G A2 a1.Glyphs) (hl8 : a1.Kerns.length ≤ c7) (hD9 : Dat k_api_Kern G A6 a1.Kerns) :
    Calls Tryz.prog 64 [agg [slice A2 a1.Glyphs.length c3, slice A6 a1.Kerns.length c7].toArray, string a10, int .i64 a11, int .i64 a12, bool a13, int .i64 a14].toArray w fun e w' => Hp G L w' ∧ e = .returned (agg [int .i64 r1015.From, int .i64 r1015.Until, int .i64 r1015.Width, bool r1015.Hyphen].toArray) := by
 refine calls_intro (N := 31) Tryz.func64 z z (Nat.le_of_ble_eq_true z)<|?_
 unfold formeref17_Line at H
 refine sr fun K15 hK16=>bxk hI z z fun g18 wd19 hI20=>q_alloc hI20 ze31 fun g22 wd23 hI24=>nl<|hK16 _ _ _<|sQ fun K25 hK26=>?_
 refine wpc_class hI24 mixo (by kernel_rfl) ?_
 refine wq' (fun Gq w hGq Iq=>lda Iq 1 ag25 z z z z wqd) z z<|wq' (fun Gq w hGq Iq=>mv z wqd) z z<|wq' (fun Gq w hGq Iq=>mv z wqd) z z<|wq' (fun Gq w hGq Iq=>mv z wqd) z z<|wq' (fun Gq w hGq Iq=>mv z wqd) z z<|bK H fun y33 hy32 H=>wk (vs := [string a10, int .i64 a11, int .i64 a12, bool a13]) (v := string y33) bo22 z z (fun Gq w hGq Iq => ?_) ?_
 refine Calls.mono (formeref08_Part_spec hy32 Iq)<|?_
 rintro _ w2 ⟨I2, rfl⟩
 exact ⟨z, _, hGq, I2⟩
 refine wq' (fun Gq w hGq Iq=>mv z wqd) z z<|bK2 H fun y35 y36 hy34 H=>wk (vs := [agg [slice A2 a1.Glyphs.length c3, slice A6 a1.Kerns.length c7].toArray, string y33, int .i64 a14]) (v := tuple [int .i64 y35, int .i64 y36].toArray) bo43 z z (fun Gq w hGq Iq => ?_) ?_
 refine Calls.mono (formeref07_Width_spec hy34 Iq hl4 (Dat.mono hGq hD5) hl8 (Dat.mono hGq hD9))<|?_
 rintro _ w2 ⟨I2, rfl⟩
 exact ⟨z, _, hGq, I2⟩
 refine wq' (fun Gq w hGq Iq=>mv z wqd) z z<|wq' (fun Gq w hGq Iq=>exk z z wqd) z z<|wq' (fun Gq w hGq Iq=>exk z z wqd) z z<|wq' (fun Gq w hGq Iq=>asn z wqd) z z<|wq' (fun Gq w hGq Iq=>asn z wqd) z z<|wz fun wd30 G28 hG29 hI31=>hK26 _ _ _<|sr fun K37 hK38=>mv z<|mv z<|mv z<|mv z<|q_build (vs := [(0, int .i64 a11), (1, int .i64 a12), (2, int .i64 y35), (3, bool a13)]) (cs := [int .i64 a11, int .i64 a12, int .i64 y35, bool a13]) ze31 pl31 z z<|stk hI31 0 ag31 z z z z z z z fun wd39 hI40=>?_
 refine nl<|hK38 _ _ _<|wr<|have hr41:=res_cell (P := Tryz.prog) hI40 0 (cs := [int .i64 a11, int .i64 a12, int .i64 y35, bool a13]) (g := g22) (o := 0) ag31 z z z;have hI42:=Hp.sub hI40 (sd (sd se));?_
 cases H
 exact rt ⟨_, _, _, z, z, hr41, z⟩ (Hp.low hG29 hI42)
theorem formeref17_next_spec {a1 a10 a15 a16 a17 a18 A2 c3 A6 c7 A11 c12 r1019 G L w} (H : formeref17_next a1 a10 a15 a16 a17 a18 = some r1019) (hI : Hp G L w) (hl4 : a1.Glyphs.length ≤ c3) (hD5 : Dat k_api_Glyph G A2 a1.Glyphs) (hl8 : a1.Kerns.length ≤ c7) (hD9 : Dat k_api_Kern G A6 a1.Kerns) (hl13 : a10.length ≤ c12) (hD14 : Dat k_api_Break G A11 a10) :
    Calls Tryz.prog 30 [agg [slice A2 a1.Glyphs.length c3, slice A6 a1.Kerns.length c7].toArray, slice A11 a10.length c12, string a15, int .i64 a16, int .i64 a17, int .i64 a18].toArray w fun e w' => Hp G L w' ∧ e = .returned (agg [int .i64 r1019.From, int .i64 r1019.Until, int .i64 r1019.Width, bool r1019.Hyphen].toArray) := by
 refine calls_intro (N := 71) Tryz.func30 z z (Nat.le_of_ble_eq_true z)<|?_
 unfold formeref17_next at H
 refine sr fun K19 hK20=>bxk hI z z fun g22 wd23 hI24=>q_alloc hI24 ze31 fun g26 wd27 hI28=>nl<|hK20 _ _ _<|sr fun K29 hK30=>lda hI28 1 ag25 z z z z<|mv z<|mv z<|mv z<|q_lens so9 z<|mv z<|bK H fun y36 hy31 H=>cv bo64 (formeref17_Line_spec hy31 hI28 hl4 hD5 hl8 hD9) z z fun wd34 hI35=>?_
 refine q_alloc hI35 ze31 fun g38 wd39 hI40=>stk hI40 0 ag31 z z z z z z z fun wd41 hI42=>nl<|hK30 _ _ _<|sr fun K43 hK44=>lda hI42 0 ag31 z z z z<|q_alloc hI42 ze31 fun g46 wd47 hI48=>stk hI48 0 ag31 z z z z z z z fun wd49 hI50=>nl<|hK44 _ _ _<|sr fun K51 hK52=>fa fl31_2 z<|ld hI50 1 ag3 z z z<|mv z<|?_
 refine q_leq z z<|asn z<|nl<|hK52 _ _ _<|sQ fun K53 hK54=>sr fun K55 hK56=>mv z<|q_len so45 z<|q_sub z z<|asn z<|nl<|hK56 _ _ _<|wb<|bK9 H fun v86 v87 v88 v89 v90 v91 v92 v93 v94 hC H=>?_
 refine wpc_mono (Q := fun e r ds w => e = .exit 0 ∧ ds = [] ∧ Has [(12, pointer (some ⟨g26, 0, none⟩)), (13, pointer (some ⟨g38, 0, none⟩)), (14, pointer (some ⟨g46, 0, none⟩)), (15, bool v86)] r ∧ Hp G (bx g46 [int .i64 v87, int .i64 v88, int .i64 v89, bool v90] 31 :: bx g38 [int .i64 v91, int .i64 v92, int .i64 v93, bool v94] 31 :: bx g26 [int .i64 0, int .i64 0, int .i64 0, bool false] 31 :: bx g22 [slice A2 a1.Glyphs.length c3, slice A6 a1.Kerns.length c7] 25 :: L) w ∧ True) ?_ ?_
 refine wpc_loop fun I hLp=>?_
 refine formeref17_next_l85.partial_correctness a1 a10 a15 a16 a17 a18 (fun v61 v62 v63 v64 v65 v66 v67 v68 v69 v70 o => ∀ (r : Rg) (w : World), Has [(1, slice A11 a10.length c12), (2, string a15), (3, int .i64 a16), (4, int .i64 a17), (5, int .i64 a18), (6, pointer (some ⟨g22, 0, none⟩)), (12, pointer (some ⟨g26, 0, none⟩)), (13, pointer (some ⟨g38, 0, none⟩)), (14, pointer (some ⟨g46, 0, none⟩)), (15, bool v61), (16, int .i64 v62)] r → Hp G (bx g46 [int .i64 v63, int .i64 v64, int .i64 v65, bool v66] 31 :: bx g38 [int .i64 v67, int .i64 v68, int .i64 v69, bool v70] 31 :: bx g26 [int .i64 0, int .i64 0, int .i64 0, bool false] 31 :: bx g22 [slice A2 a1.Glyphs.length c3, slice A6 a1.Kerns.length c7] 25 :: L) w → o = (v86, v87, v88, v89, v90, v91, v92, v93, v94) → I r [] w) ?_ (decide (y36.Width ≤ a18)) (w64 ((a10.length : Int) - 1)) y36.From y36.Until y36.Width y36.Hyphen y36.From y36.Until y36.Width y36.Hyphen _ hC _ _ ⟨rfl, rfl, rfl, rfl, rfl, rfl, rfl, rfl, rfl, rfl, rfl, tv⟩ hI50 rfl
 intro _ ih v61 v62 v63 v64 v65 v66 v67 v68 v69 v70 o H r wd102 hHas hI103 ho
 rw [ho] at H; clear ho
 rw [hHas.eq]; clear hHas
 refine hLp _ _ _<|sQ fun K104 hK105=>sr fun K106 hK107=>mv z<|q_geq z z<|nl<|hK107 _ _ _<|dC (0 ≤ v62) (fun h108=>?_) fun h108=>?_
 refine yK h108 H fun H=>wt (bY h108)<|ws<|hK105 _ _ _<|sQ fun K109 hK110=>bK H fun o128 hC H=>?_
 refine wpc_mono (Q := fun e r ds w => match (generalizing := false) o128 with | (Sum.inl _) => e = .exit 0 ∧ ds = [] ∧ Has [(12, pointer (some ⟨g26, 0, none⟩)), (13, pointer (some ⟨g38, 0, none⟩)), (14, pointer (some ⟨g46, 0, none⟩)), (15, bool v61)] r ∧ Hp G (bx g46 [int .i64 v63, int .i64 v64, int .i64 v65, bool v66] 31 :: bx g38 [int .i64 v67, int .i64 v68, int .i64 v69, bool v70] 31 :: bx g26 [int .i64 0, int .i64 0, int .i64 0, bool false] 31 :: bx g22 [slice A2 a1.Glyphs.length c3, slice A6 a1.Kerns.length c7] 25 :: L) w ∧ True | (Sum.inr (v111, v112, v113, v114, v115, v116, v117, v118, v119)) => e = .normal ∧ ds = [] ∧ Has [(1, slice A11 a10.length c12), (2, string a15), (3, int .i64 a16), (4, int .i64 a17), (5, int .i64 a18), (6, pointer (some ⟨g22, 0, none⟩)), (12, pointer (some ⟨g26, 0, none⟩)), (13, pointer (some ⟨g38, 0, none⟩)), (14, pointer (some ⟨g46, 0, none⟩)), (15, bool v111), (16, int .i64 v62)] r ∧ Hp G (bx g46 [int .i64 v112, int .i64 v113, int .i64 v114, bool v115] 31 :: bx g38 [int .i64 v116, int .i64 v117, int .i64 v118, bool v119] 31 :: bx g26 [int .i64 0, int .i64 0, int .i64 0, bool false] 31 :: bx g22 [slice A2 a1.Glyphs.length c3, slice A6 a1.Kerns.length c7] 25 :: L) w ∧ True) ?_ ?_
 refine have H:=hC;wb<|sQ fun K129 hK130=>sr fun K131 hK132=>mv z<|mv z<|iK H fun⟨h133, h133'⟩H=>?_
 obtain ⟨ad134, cs135, hA136, hK137, hn138, hc139⟩ := Dat.get hD14 z_api_Break (v62) h133 h133'
 obtain ⟨rfl⟩ := open_api_Break hK137
 refine q_ia el45 z hA136 z h133 h133'<|q_fa fl51_0 z z<|q_lf hI103 ag3 z (gR.cel _ _ (hc139 0 _ z))<|mv z<|q_leq z z<|nl<|hK132 _ _ _<|dC (((a10.getD (Int.toNat v62) z_api_Break).At) ≤ a16) (fun h140=>?_) fun h140=>?_
 refine yK h140 H fun H=>wt (bY h140)<|wx<|?_
 cases H
 exact ⟨z, z, ⟨z, z, z, z, tv⟩, hI103, tv⟩
 refine nK h140 H fun H=>wf (bN h140)<|ws<|hK130 _ _ _<|sQ fun K141 hK142=>iK H fun⟨h180, h180'⟩H=>?_
 obtain ⟨ad181, cs182, hA183, hK184, hn185, hc186⟩ := Dat.get hD14 z_api_Break (v62) h180 h180'
 obtain ⟨rfl⟩ := open_api_Break hK184
 refine iK H fun⟨h187, h187'⟩H=>?_
 obtain ⟨ad188, cs189, hA190, hK191, hn192, hc193⟩ := Dat.get hD14 z_api_Break (v62) h187 h187'
 obtain ⟨rfl⟩ := open_api_Break hK191
 refine bK H fun y198 hy383 H=>?_
 refine wpc_drawL [0, 0, 0, 0, 0, 24, 56, 120, 0, 0, 768, 1792, 3840, 0, 16383, 32767] (fun D r w => (D 15 = false ∧ ∃ (G' : Gh), G ≤ G' ∧ Regs [(1, slice A11 a10.length c12), (2, string a15), (3, int .i64 a16), (4, int .i64 a17), (5, int .i64 a18), (6, pointer (some ⟨g22, 0, none⟩)), (12, pointer (some ⟨g26, 0, none⟩)), (13, pointer (some ⟨g38, 0, none⟩)), (14, pointer (some ⟨g46, 0, none⟩)), (15, bool v61), (16, int .i64 v62)] [] [(0, 43, agg [slice A2 a1.Glyphs.length c3, slice A6 a1.Kerns.length c7].toArray), (1, 44, string a15), (2, 45, int .i64 a16), (3, 46, slice A11 a10.length c12), (4, 47, int .i64 v62), (5, 48, pointer (some (ad181.add (Int.toNat v62 * 2)))), (6, 49, pointer (some ((ad181.add (Int.toNat v62 * 2)).add 0))), (7, 50, int .i64 ((a10.getD (Int.toNat v62) z_api_Break).At)), (8, 51, slice A11 a10.length c12), (9, 52, int .i64 v62), (10, 53, pointer (some (ad188.add (Int.toNat v62 * 2)))), (11, 54, pointer (some ((ad188.add (Int.toNat v62 * 2)).add 1))), (12, 55, bool ((a10.getD (Int.toNat v62) z_api_Break).Hyphen)), (13, 56, int .i64 a17), (14, 57, agg [int .i64 y198.From, int .i64 y198.Until, int .i64 y198.Width, bool y198.Hyphen].toArray)] D r ∧ Hp G' (bx g46 [int .i64 v63, int .i64 v64, int .i64 v65, bool v66] 31 :: bx g38 [int .i64 v67, int .i64 v68, int .i64 v69, bool v70] 31 :: bx g26 [int .i64 0, int .i64 0, int .i64 0, bool false] 31 :: bx g22 [slice A2 a1.Glyphs.length c3, slice A6 a1.Kerns.length c7] 25 :: L) w) ∨ (D 15 = true ∧ ∃ (G' : Gh), G ≤ G' ∧ Regs [(1, slice A11 a10.length c12), (2, string a15), (3, int .i64 a16), (4, int .i64 a17), (5, int .i64 a18), (6, pointer (some ⟨g22, 0, none⟩)), (12, pointer (some ⟨g26, 0, none⟩)), (13, pointer (some ⟨g38, 0, none⟩)), (14, pointer (some ⟨g46, 0, none⟩)), (15, bool v61), (16, int .i64 v62)] [] [(0, 43, agg [slice A2 a1.Glyphs.length c3, slice A6 a1.Kerns.length c7].toArray), (1, 44, string a15), (2, 45, int .i64 a16), (3, 46, slice A11 a10.length c12), (4, 47, int .i64 v62), (5, 48, pointer (some (ad181.add (Int.toNat v62 * 2)))), (6, 49, pointer (some ((ad181.add (Int.toNat v62 * 2)).add 0))), (7, 50, int .i64 ((a10.getD (Int.toNat v62) z_api_Break).At)), (8, 51, slice A11 a10.length c12), (9, 52, int .i64 v62), (10, 53, pointer (some (ad188.add (Int.toNat v62 * 2)))), (11, 54, pointer (some ((ad188.add (Int.toNat v62 * 2)).add 1))), (12, 55, bool ((a10.getD (Int.toNat v62) z_api_Break).Hyphen)), (13, 56, int .i64 a17), (14, 57, agg [int .i64 y198.From, int .i64 y198.Until, int .i64 y198.Width, bool y198.Hyphen].toArray)] D r ∧ Hp G' (bx g46 [int .i64 v63, int .i64 v64, int .i64 v65, bool v66] 31 :: bx g38 [int .i64 y198.From, int .i64 y198.Until, int .i64 y198.Width, bool y198.Hyphen] 31 :: bx g26 [int .i64 0, int .i64 0, int .i64 0, bool false] 31 :: bx g22 [slice A2 a1.Glyphs.length c3, slice A6 a1.Kerns.length c7] 25 :: L) w)) mixo z z ?_ ?_ ?_
 exact (.inl ⟨z, _, Gh.le_refl _, Regs.start ⟨z, z, z, z, z, z, z, z, z, z, z, tv⟩ trivial, hI103.drew⟩)
 refine ⟨?_, ?_, ?_, ?_, ?_, ?_, ?_, ?_, ?_, ?_, ?_, ?_, ?_, ?_, ?_, ?_, tv⟩
 rintro D r wd400 (⟨hd2, G396, hG397, hReg399, hI398⟩ | ⟨hd1, G396, hG397, hReg399, hI398⟩) hDi hpre hpost
 obtain ⟨r0, rfl⟩ := Has.ex (cC (hReg399.ins.get 5 rfl) cN)
 exact lda hI398 3 ag25 z z z z<|nl ⟨z, (.inl ⟨hd2, _, hG397, (Regs.step hReg399 hDi z z z z), hI398⟩)⟩
 cases (hpost 15 rfl).symm.trans hd1
 rintro D r wd400 (⟨hd2, G396, hG397, hReg399, hI398⟩ | ⟨hd1, G396, hG397, hReg399, hI398⟩) hDi hpre hpost
 obtain ⟨r0, rfl⟩ := Has.ex (cC (hReg399.ins.get 1 rfl) cN)
 exact mv z<|nl ⟨z, (.inl ⟨hd2, _, hG397, (Regs.step hReg399 hDi z z z z), hI398⟩)⟩
 cases (hpost 15 rfl).symm.trans hd1
 rintro D r wd400 (⟨hd2, G396, hG397, hReg399, hI398⟩ | ⟨hd1, G396, hG397, hReg399, hI398⟩) hDi hpre hpost
 obtain ⟨r0, rfl⟩ := Has.ex (cC (hReg399.ins.get 2 rfl) cN)
 exact mv z<|nl ⟨z, (.inl ⟨hd2, _, hG397, (Regs.step hReg399 hDi z z z z), hI398⟩)⟩
 cases (hpost 15 rfl).symm.trans hd1
 rintro D r wd400 (⟨hd2, G396, hG397, hReg399, hI398⟩ | ⟨hd1, G396, hG397, hReg399, hI398⟩) hDi hpre hpost
 obtain ⟨r0, rfl⟩ := Has.ex (cC (hReg399.ins.get 0 rfl) cN)
 exact mv z<|nl ⟨z, (.inl ⟨hd2, _, hG397, (Regs.step hReg399 hDi z z z z), hI398⟩)⟩
 cases (hpost 15 rfl).symm.trans hd1
 rintro D r wd400 (⟨hd2, G396, hG397, hReg399, hI398⟩ | ⟨hd1, G396, hG397, hReg399, hI398⟩) hDi hpre hpost
 obtain ⟨r0, rfl⟩ := Has.ex (cC (hReg399.ins.get 10 rfl) cN)
 exact mv z<|nl ⟨z, (.inl ⟨hd2, _, hG397, (Regs.step hReg399 hDi z z z z), hI398⟩)⟩
 cases (hpost 15 rfl).symm.trans hd1
 rintro D r wd400 (⟨hd2, G396, hG397, hReg399, hI398⟩ | ⟨hd1, G396, hG397, hReg399, hI398⟩) hDi hpre hpost
 obtain ⟨r0, rfl⟩ := Has.ex (cC (hReg399.get 3 rfl (hpre 3 rfl)) (cC (hReg399.get 4 rfl (hpre 4 rfl)) cN))
 exact q_ia el45 z hA183 z h180 h180'<|nl ⟨z, (.inl ⟨hd2, _, hG397, (Regs.step hReg399 hDi z z z z), hI398⟩)⟩
 cases (hpost 15 rfl).symm.trans hd1
 rintro D r wd400 (⟨hd2, G396, hG397, hReg399, hI398⟩ | ⟨hd1, G396, hG397, hReg399, hI398⟩) hDi hpre hpost
 obtain ⟨r0, rfl⟩ := Has.ex (cC (hReg399.get 5 rfl (hpre 5 rfl)) cN)
 exact q_fa fl51_0 z z<|nl ⟨z, (.inl ⟨hd2, _, hG397, (Regs.step hReg399 hDi z z z z), hI398⟩)⟩
 cases (hpost 15 rfl).symm.trans hd1
 rintro D r wd400 (⟨hd2, G396, hG397, hReg399, hI398⟩ | ⟨hd1, G396, hG397, hReg399, hI398⟩) hDi hpre hpost
 obtain ⟨r0, rfl⟩ := Has.ex (cC (hReg399.get 6 rfl (hpre 6 rfl)) cN)
 exact q_lf hI398 ag3 z (hG397.cel _ _ (hc186 0 _ z))<|nl ⟨z, (.inl ⟨hd2, _, hG397, (Regs.step hReg399 hDi z z z z), hI398⟩)⟩
 cases (hpost 15 rfl).symm.trans hd1
 rintro D r wd400 (⟨hd2, G396, hG397, hReg399, hI398⟩ | ⟨hd1, G396, hG397, hReg399, hI398⟩) hDi hpre hpost
 obtain ⟨r0, rfl⟩ := Has.ex (cC (hReg399.ins.get 0 rfl) cN)
 exact mv z<|nl ⟨z, (.inl ⟨hd2, _, hG397, (Regs.step hReg399 hDi z z z z), hI398⟩)⟩
 cases (hpost 15 rfl).symm.trans hd1
 rintro D r wd400 (⟨hd2, G396, hG397, hReg399, hI398⟩ | ⟨hd1, G396, hG397, hReg399, hI398⟩) hDi hpre hpost
 obtain ⟨r0, rfl⟩ := Has.ex (cC (hReg399.ins.get 10 rfl) cN)
 exact mv z<|nl ⟨z, (.inl ⟨hd2, _, hG397, (Regs.step hReg399 hDi z z z z), hI398⟩)⟩
 cases (hpost 15 rfl).symm.trans hd1
 rintro D r wd400 (⟨hd2, G396, hG397, hReg399, hI398⟩ | ⟨hd1, G396, hG397, hReg399, hI398⟩) hDi hpre hpost
 obtain ⟨r0, rfl⟩ := Has.ex (cC (hReg399.get 8 rfl (hpre 8 rfl)) (cC (hReg399.get 9 rfl (hpre 9 rfl)) cN))
 exact q_ia el45 z hA190 z h187 h187'<|nl ⟨z, (.inl ⟨hd2, _, hG397, (Regs.step hReg399 hDi z z z z), hI398⟩)⟩
 cases (hpost 15 rfl).symm.trans hd1
 rintro D r wd400 (⟨hd2, G396, hG397, hReg399, hI398⟩ | ⟨hd1, G396, hG397, hReg399, hI398⟩) hDi hpre hpost
 obtain ⟨r0, rfl⟩ := Has.ex (cC (hReg399.get 10 rfl (hpre 10 rfl)) cN)
 exact q_fa fl51_1 z z<|nl ⟨z, (.inl ⟨hd2, _, hG397, (Regs.step hReg399 hDi z z z z), hI398⟩)⟩
 cases (hpost 15 rfl).symm.trans hd1
 rintro D r wd400 (⟨hd2, G396, hG397, hReg399, hI398⟩ | ⟨hd1, G396, hG397, hReg399, hI398⟩) hDi hpre hpost
 obtain ⟨r0, rfl⟩ := Has.ex (cC (hReg399.get 11 rfl (hpre 11 rfl)) cN)
 exact q_lf hI398 ag4 z (hG397.cel _ _ (hc193 1 _ z))<|nl ⟨z, (.inl ⟨hd2, _, hG397, (Regs.step hReg399 hDi z z z z), hI398⟩)⟩
 cases (hpost 15 rfl).symm.trans hd1
 rintro D r wd400 (⟨hd2, G396, hG397, hReg399, hI398⟩ | ⟨hd1, G396, hG397, hReg399, hI398⟩) hDi hpre hpost
 obtain ⟨r0, rfl⟩ := Has.ex (cC (hReg399.ins.get 3 rfl) cN)
 exact mv z<|nl ⟨z, (.inl ⟨hd2, _, hG397, (Regs.step hReg399 hDi z z z z), hI398⟩)⟩
 cases (hpost 15 rfl).symm.trans hd1
 rintro D r wd400 (⟨hd2, G396, hG397, hReg399, hI398⟩ | ⟨hd1, G396, hG397, hReg399, hI398⟩) hDi hpre hpost
 obtain ⟨r0, rfl⟩ := Has.ex (cC (hReg399.get 0 rfl (hpre 0 rfl)) (cC (hReg399.get 1 rfl (hpre 1 rfl)) (cC (hReg399.get 2 rfl (hpre 2 rfl)) (cC (hReg399.get 7 rfl (hpre 7 rfl)) (cC (hReg399.get 12 rfl (hpre 12 rfl)) (cC (hReg399.get 13 rfl (hpre 13 rfl)) cN))))))
 exact cv bo64 (formeref17_Line_spec hy383 hI398 hl4 (Dat.mono hG397 hD5) hl8 (Dat.mono hG397 hD9)) z z fun wd196 hI197=>nl ⟨z, (.inl ⟨hd2, _, hG397, (Regs.step hReg399 hDi z z z z), hI197⟩)⟩
 cases (hpost 15 rfl).symm.trans hd1
 rintro D r wd400 (⟨hd2, G396, hG397, hReg399, hI398⟩ | ⟨hd1, G396, hG397, hReg399, hI398⟩) hDi hpre hpost
 obtain ⟨r0, rfl⟩ := Has.ex (cC (hReg399.ins.get 7 rfl) (cC (hReg399.get 14 rfl (hpre 14 rfl)) cN))
 exact stk hI398 1 ag31 z z z z z z z fun wd394 hI395=>nl ⟨z, (.inr ⟨z, _, hG397, (Regs.stepN hReg399 z z), hI395⟩)⟩
 cases hDi.symm.trans hd1
 intro D r wd400 hall hR
 rcases hR with ⟨hd2, G396, hG397, hReg399, hI398⟩ | ⟨hd1, G396, hG397, hReg399, hI398⟩
 cases (hall 15 (Nat.le_of_ble_eq_true rfl)).symm.trans hd2
 obtain ⟨r0, rfl⟩ := Has.ex (cC (hReg399.ins.get 0 rfl) (cC (hReg399.ins.get 1 rfl) (cC (hReg399.ins.get 2 rfl) (cC (hReg399.ins.get 3 rfl) (cC (hReg399.ins.get 4 rfl) (cC (hReg399.ins.get 5 rfl) (cC (hReg399.ins.get 6 rfl) (cC (hReg399.ins.get 7 rfl) (cC (hReg399.ins.get 8 rfl) (cC (hReg399.ins.get 9 rfl) (cC (hReg399.ins.get 10 rfl) cN)))))))))))
 refine hK142 _ _ _<|sr fun K401 hK402=>mv z<|q_not z<|mv z<|bK H fun v403 hC H=>?_
 refine js 5 hI398 [(1, slice A11 a10.length c12), (2, string a15), (3, int .i64 a16), (4, int .i64 a17), (5, int .i64 a18), (6, pointer (some ⟨g22, 0, none⟩)), (12, pointer (some ⟨g26, 0, none⟩)), (13, pointer (some ⟨g38, 0, none⟩)), (14, pointer (some ⟨g46, 0, none⟩)), (15, bool v61), (16, int .i64 v62), (65, bool v403)] ?_ fun _ wd406 hI407=>?_
 refine have H:=hC;dC ((!v61) = true) (fun h409=>?_) fun h409=>?_
 refine yK h409 H fun H=>fa (hw:=gY z z z (vY h409)) fl31_2 z<|ld (hw:=gY z z z (vY h409)) hI398 1 ag3 z z z<|mv (hw:=gY z z z (vY h409)) z<|q_leq (hw:=gY z z z (vY h409)) z z<|pkt (vY h409) z<|nl<|?_
 cases H
 exact je ⟨z, z, z, z, z, z, z, z, z, z, z, z, tv⟩ hI398
 refine nK h409 H fun H=>Sk 4 z z (vN h409) z<|pkf (vN h409) z<|nl<|?_
 cases H
 exact je ⟨z, z, z, z, z, z, z, z, z, z, z, z, tv⟩ hI398
 refine nl<|hK402 _ _ _<|dC (v403 = true) (fun h410=>?_) fun h410=>?_
 refine yK h410 H fun H=>wt (vY h410)<|sr fun K411 hK412=>lda hI407 1 ag31 z z z z<|stk hI407 0 ag31 z z z z z z z fun wd413 hI414=>nl<|hK412 _ _ _<|wpc_region<|asn z<|nl<|?_
 cases H
 exact ⟨z, z, ⟨z, z, z, z, z, z, z, z, z, z, z, tv⟩, (Hp.low hG397 hI414), tv⟩
 refine nK h410 H fun H=>wf (vN h410)<|ws<|?_
 cases H
 exact ⟨z, z, ⟨z, z, z, z, z, z, z, z, z, z, z, tv⟩, (Hp.low hG397 hI407), tv⟩
 rcases o128 with _ | ⟨v111, v112, v113, v114, v115, v116, v117, v118, v119⟩
 rintro e r ds wd122 ⟨rfl, rfl, hHas, hI123, _⟩
 rw [hHas.eq]; clear hHas
 cases H
 exact ⟨z, z, ⟨z, z, z, z, tv⟩, hI123, tv⟩
 rintro e r ds wd126 ⟨rfl, rfl, hHas, hI127, _⟩
 rw [hHas.eq]; clear hHas
 exact hK110 _ _ _<|wpc_region<|mv z<|q_sub z z<|asn z<|nl<|ih _ _ _ _ _ _ _ _ _ _ _ H _ _ ⟨z, z, z, z, z, z, z, z, z, z, z, tv⟩ hI127 z
 refine nK h108 H fun H=>wf (bN h108)<|wx<|?_
 cases H
 exact ⟨z, z, ⟨z, z, z, z, tv⟩, hI103, tv⟩
 rintro e r ds wd97 ⟨rfl, rfl, hHas, hI98, _⟩
 rw [hHas.eq]; clear hHas
 refine hK54 _ _ _<|sQ fun K415 hK416=>sr fun K417 hK418=>mv z<|q_not z<|nl<|hK418 _ _ _<|dC ((!v86) = true) (fun h419=>?_) fun h419=>?_
 refine yK h419 H fun H=>wt (vY h419)<|sr fun K420 hK421=>lda hI98 1 ag31 z z z z<|stk hI98 2 ag31 z z z z z z z fun wd422 hI423=>nl<|hK421 _ _ _<|wr<|have hr424:=res_cell (P := Tryz.prog) hI423 2 (cs := [int .i64 v91, int .i64 v92, int .i64 v93, bool v94]) (g := g26) (o := 0) ag31 z z z;have hI425:=Hp.sub hI423 (sd (sd (sd (sd se))));?_
 cases H
 exact rt ⟨_, _, _, z, z, hr424, z⟩ hI425
 refine nK h419 H fun H=>wf (vN h419)<|ws<|hK416 _ _ _<|sr fun K426 hK427=>lda hI98 0 ag31 z z z z<|stk hI98 2 ag31 z z z z z z z fun wd428 hI429=>nl<|hK427 _ _ _<|wr<|have hr430:=res_cell (P := Tryz.prog) hI429 2 (cs := [int .i64 v87, int .i64 v88, int .i64 v89, bool v90]) (g := g26) (o := 0) ag31 z z z;have hI431:=Hp.sub hI429 (sd (sd (sd (sd se))));?_
 cases H
 exact rt ⟨_, _, _, z, z, hr430, z⟩ hI431
theorem formeref17_Next_spec {a1 a10 a15 a16 a17 a18 A2 c3 A6 c7 A11 c12 r1019 r1020 G L w} (H : formeref17_Next a1 a10 a15 a16 a17 a18 = some (r1019, r1020)) (hI : Hp G L w) (hl4 : a1.Glyphs.length ≤ c3) (hD5 : Dat k_api_Glyph G A2 a1.Glyphs) (hl8 : a1.Kerns.length ≤ c7) (hD9 : Dat k_api_Kern G A6 a1.Kerns) (hl13 : a10.Keep.length ≤ c12) (hD14 : Dat Kd.str G A11 a10.Keep) :
    Calls Tryz.prog 12 [agg [slice A2 a1.Glyphs.length c3, slice A6 a1.Kerns.length c7].toArray, agg [int .i64 a10.Before, int .i64 a10.Behind, slice A11 a10.Keep.length c12].toArray, string a15, int .i64 a16, int .i64 a17, int .i64 a18].toArray w fun e w' => Hp G L w' ∧ e = .returned (tuple [agg [int .i64 r1019.From, int .i64 r1019.Until, int .i64 r1019.Width, bool r1019.Hyphen].toArray, int .i64 r1020].toArray) := by
 refine calls_intro (N := 51) Tryz.func12 z z (Nat.le_of_ble_eq_true z)<|?_
 unfold formeref17_Next at H
 refine sr fun K19 hK20=>bxk hI z z fun g22 wd23 hI24=>bxk hI24 z z fun g26 wd27 hI28=>q_alloc hI28 ze31 fun g30 wd31 hI32=>asn z<|nl<|hK20 _ _ _<|sr fun K33 hK34=>mv z<|bK H fun y40 hy35 H=>cv bo28 (formeref17_room_spec hy35 hI32) z z fun wd38 hI39=>asn z<|nl<|hK34 _ _ _<|?_
 refine sQ fun K41 hK42=>sr fun K43 hK44=>mv z<|q_not z<|mv z<|bK H fun v45 hC H=>js 3 hI39 [(2, string a15), (3, int .i64 a16), (4, int .i64 a17), (5, int .i64 a18), (6, pointer (some ⟨g22, 0, none⟩)), (7, pointer (some ⟨g26, 0, none⟩)), (12, pointer (some ⟨g30, 0, none⟩)), (24, bool v45)] ?_ fun _ wd48 hI49=>?_
 refine have H:=hC;dC ((!y40) = true) (fun h51=>?_) fun h51=>?_
 refine yK h51 H fun H=>Sk 2 z z (vY h51) z<|pkt (vY h51) z<|nl<|?_
 cases H
 exact je ⟨z, z, z, z, z, z, z, z, tv⟩ hI39
 refine nK h51 H fun H=>mv (hw:=gY z z z (vN h51)) z<|q_lss (hw:=gY z z z (vN h51)) z z<|pkf (vN h51) z<|nl<|?_
 cases H
 exact je ⟨z, z, z, z, z, z, z, z, tv⟩ hI39
 refine mv z<|bK H fun v52 hC H=>js 5 hI49 [(2, string a15), (3, int .i64 a16), (4, int .i64 a17), (5, int .i64 a18), (6, pointer (some ⟨g22, 0, none⟩)), (7, pointer (some ⟨g26, 0, none⟩)), (12, pointer (some ⟨g30, 0, none⟩)), (30, bool v52)] ?_ fun _ wd55 hI56=>?_
 refine have H:=hC;dC (v45 = true) (fun h58=>?_) fun h58=>?_
 refine yK h58 H fun H=>Sk 4 z z (vY h58) z<|pkt (vY h58) z<|nl<|?_
 cases H
 exact je ⟨z, z, z, z, z, z, z, z, tv⟩ hI49
 refine nK h58 H fun H=>mv (hw:=gY z z z (vN h58)) z<|mv (hw:=gY z z z (vN h58)) z<|q_lens (hw:=gY z z z (vN h58)) so9 z<|q_geq (hw:=gY z z z (vN h58)) z z<|pkf (vN h58) z<|nl<|?_
 cases H
 exact je ⟨z, z, z, z, z, z, z, z, tv⟩ hI49
 refine nl<|hK44 _ _ _<|dC (v52 = true) (fun h59=>?_) fun h59=>?_
 refine yK h59 H fun H=>wt (vY h59)<|sr fun K60 hK61=>q_build (vs := []) (cs := [int .i64 0, int .i64 0, int .i64 0, bool false]) ze31 pl31 z z<|stk hI56 0 ag31 z z z z z z z fun wd62 hI63=>asn z<|nl<|hK61 _ _ _<|wr<|have hr64:=res_cell (P := Tryz.prog) hI63 0 (cs := [int .i64 0, int .i64 0, int .i64 0, bool false]) (g := g30) (o := 0) ag31 z z z;have hI65:=Hp.sub hI63 (sd (sd (sd se)));?_
 cases H
 exact rt ⟨_, _, _, z, z, hr64, ⟨_, _, z, z, z⟩⟩ hI65
 refine nK h59 H fun H=>wf (vN h59)<|ws<|hK42 _ _ _<|sr fun K66 hK67=>lda hI56 2 ag25 z z z z<|lda hI56 1 ag28 z z z z<|mv z<|mv z<|bK2 H fun y73 y80 hy68 H=>q_cv (vs := [agg [slice A2 a1.Glyphs.length c3, slice A6 a1.Kerns.length c7].toArray, agg [int .i64 a10.Before, int .i64 a10.Behind, slice A11 a10.Keep.length c12].toArray, string a15, int .i64 a17]) bo29 z z (formeref17_check_spec hy68 hI56 hl4 hD5 hl8 hD9 hl13 hD14)<|?_
 rintro _ wd71 ⟨A74, c75, G69, hG70, hI72, hl76, hD77, ho78, rfl⟩
 refine ⟨_, rfl, ?_⟩
 refine mv z<|exk z z<|exk z z<|asn z<|asn z<|nl<|hK67 _ _ _<|sQ fun K81 hK82=>sr fun K83 hK84=>mv z<|q_neq z z<|nl<|hK84 _ _ _<|dC (¬ y80 = 0) (fun h85=>?_) fun h85=>?_
 refine yK h85 H fun H=>wt (bY h85)<|sr fun K86 hK87=>q_build (vs := []) (cs := [int .i64 0, int .i64 0, int .i64 0, bool false]) ze31 pl31 z z<|mv z<|stk hI72 1 ag31 z z z z z z z fun wd88 hI89=>asn z<|nl<|hK87 _ _ _<|wr<|have hr90:=res_cell (P := Tryz.prog) hI89 1 (cs := [int .i64 0, int .i64 0, int .i64 0, bool false]) (g := g30) (o := 0) ag31 z z z;have hI91:=Hp.sub hI89 (sd (sd (sd (sd se))));?_
 cases H
 exact rt ⟨_, _, _, z, z, hr90, ⟨_, _, z, z, z⟩⟩ (Hp.low hG70 hI91)
 refine nK h85 H fun H=>wf (bN h85)<|ws<|hK82 _ _ _<|sr fun K92 hK93=>lda hI72 3 ag25 z z z z<|mv z<|mv z<|mv z<|mv z<|mv z<|bK H fun y99 hy94 H=>cv bo30 (formeref17_next_spec hy94 hI72 hl4 (Dat.mono hG70 hD5) hl8 (Dat.mono hG70 hD9) hl76 hD77) z z fun wd97 hI98=>stk hI98 1 ag31 z z z z z z z fun wd100 hI101=>?_
 refine asn z<|nl<|hK93 _ _ _<|wr<|have hr102:=res_cell (P := Tryz.prog) hI101 1 (cs := [int .i64 y99.From, int .i64 y99.Until, int .i64 y99.Width, bool y99.Hyphen]) (g := g30) (o := 0) ag31 z z z;have hI103:=Hp.sub hI101 (sd (sd (sd (sd se))));?_
 cases H
 exact rt ⟨_, _, _, z, z, hr102, ⟨_, _, z, z, z⟩⟩ (Hp.low hG70 hI103)
theorem formeref06_Words_spec {a1 r1002 r1003 G L w} (H : formeref06_Words a1 = some (r1002, r1003)) (hI : Hp G L w) :
    Calls Tryz.prog 35 [string a1].toArray w fun e w' => Hp G L w' ∧ e = .returned (tuple [int .i64 r1002, int .i64 r1003].toArray) := by
 refine calls_intro (N := 36) Tryz.func35 z z (Nat.le_of_ble_eq_true z)<|?_
 unfold formeref06_Words at H
 refine sr fun K2 hK3=>asn z<|asn z<|nl<|hK3 _ _ _<|sQ fun K4 hK5=>sr fun K6 hK7=>mv z<|bK H fun y13 hy8 H=>cv bo41 (formeref06_Valid_spec hy8 hI) z z fun wd11 hI12=>q_not z<|nl<|hK7 _ _ _<|dC ((!y13) = true) (fun h14=>?_) fun h14=>?_
 refine yK h14 H fun H=>wt (vY h14)<|sr fun K15 hK16=>asn z<|asn z<|nl<|hK16 _ _ _<|wr<|?_
 cases H
 exact rt ⟨_, _, z, z, ⟨_, _, z, z, z⟩⟩ hI12
 refine nK h14 H fun H=>wf (vN h14)<|ws<|hK5 _ _ _<|sr fun K17 hK18=>mv z<|bK H fun y24 hy19 H=>cv bo68 (formeref06_shown_spec hy19 hI12) z z fun wd22 hI23=>asn z<|nl<|hK18 _ _ _<|sr fun K25 hK26=>asn z<|nl<|?_
 refine hK26 _ _ _<|sQ fun K27 hK28=>sr fun K29 hK30=>asn z<|nl<|hK30 _ _ _<|wb<|bK H fun v44 hC H=>wpc_mono (Q := fun e r ds w => e = .exit 0 ∧ ds = [] ∧ Has [(5, int .i64 v44)] r ∧ Hp G (L) w ∧ True) ?_ ?_
 refine wpc_loop fun I hLp=>?_
 refine formeref06_Words_l43.partial_correctness y24 (fun v35 v36 o => ∀ (r : Rg) (w : World), Has [(4, string y24), (5, int .i64 v35), (6, int .i64 v36)] r → Hp G (L) w → o = v44 → I r [] w) ?_ 0 0 _ hC _ _ ⟨rfl, rfl, rfl, tv⟩ hI23 rfl
 intro _ ih v35 v36 o H r wd52 hHas hI53 ho
 rw [ho] at H; clear ho
 rw [hHas.eq]; clear hHas
 refine hLp _ _ _<|sQ fun K54 hK55=>sr fun K56 hK57=>mv z<|mv z<|q_lens so9 z<|q_lss z z<|nl<|hK57 _ _ _<|dC (v36 < (y24.size : Int)) (fun h58=>?_) fun h58=>?_
 refine yK h58 H fun H=>wt (bY h58)<|ws<|hK55 _ _ _<|sQ fun K59 hK60=>bK H fun v61 hC H=>jc .normal hI53 [(4, string y24), (5, int .i64 v61), (6, int .i64 v36)] ?_ fun _ wd64 hI65=>?_
 refine have H:=hC;wb<|sr fun K67 hK68=>mv z<|mv z<|iK H fun⟨h69, h69'⟩H=>q_is so9 z z h69 h69' z<|q_neq z z<|mv z<|bK H fun v70 hC H=>js 10 hI53 [(4, string y24), (5, int .i64 v35), (6, int .i64 v36), (32, bool v70)] ?_ fun _ wd73 hI74=>?_
 refine have H:=hC;dC (¬ (bt y24 v36) = 32) (fun h76=>?_) fun h76=>?_
 refine yK h76 H fun H=>mv (hw:=gY z z z (bY h76)) z<|q_eql (hw:=gY z z z (bY h76)) z z<|mv (hw:=gY z z z (bY h76)) z<|bK H fun v77 hC H=>js 6 hI53 [(4, string y24), (5, int .i64 v35), (6, int .i64 v36), (22, bool (decide (¬ (bt y24 v36) = 32))), (23, int .i64 v36), (24, bool (decide (v36 = 0))), (25, bool (decide (v36 = 0))), (31, bool v77)] ?_ fun _ wd80 hI81=>?_
 refine have H:=hC;dC (v36 = 0) (fun h83=>?_) fun h83=>?_
 refine yK h83 H fun H=>Sk 5 z z (bY h83) z<|pkt (hw:=gY z z z (bY h76)) (bY h83) z<|nl<|?_
 cases H
 exact je ⟨z, z, z, z, z, z, z, z, tv⟩ hI53
 refine nK h83 H fun H=>mv (hw:=gY z z z (bN h83)) z<|mv (hw:=gY z z z (bN h83)) z<|q_sub (hw:=gY z z z (bN h83)) z z<|iK H fun⟨h84, h84'⟩H=>q_is (hw:=gY z z z (bN h83)) so9 z z h84 h84' z<|q_eql (hw:=gY z z z (bN h83)) z z<|pkf (hw:=gY z z z (bY h76)) (bN h83) z<|nl<|?_
 cases H
 exact je ⟨z, z, z, z, z, z, z, z, tv⟩ hI53
 refine pkt (bY h76) z<|nl<|?_
 cases H
 exact je ⟨z, z, z, z, tv⟩ hI81
 refine nK h76 H fun H=>Sk 3 z z (bN h76) z<|Su 5 z<|wN (gN z z z (bN h76) z)<|pkf (bN h76) z<|nl<|?_
 cases H
 exact je ⟨z, z, z, z, tv⟩ hI53
 refine nl<|hK68 _ _ _<|dC (v70 = true) (fun h85=>?_) fun h85=>?_
 refine yK h85 H fun H=>wt (vY h85)<|wpc_region<|mv z<|q_add z z<|asn z<|nl<|?_
 cases H
 exact je ⟨z, z, z, tv⟩ hI74
 refine nK h85 H fun H=>wf (vN h85)<|ws<|?_
 cases H
 exact je ⟨z, z, z, tv⟩ hI74
 exact hK60 _ _ _<|wpc_region<|mv z<|q_add z z<|asn z<|nl<|ih _ _ _ H _ _ ⟨z, z, z, tv⟩ hI65 z
 refine nK h58 H fun H=>wf (bN h58)<|wx<|?_
 cases H
 exact ⟨z, z, ⟨z, tv⟩, hI53, tv⟩
 rintro e r ds wd47 ⟨rfl, rfl, hHas, hI48, _⟩
 rw [hHas.eq]; clear hHas
 refine hK28 _ _ _<|sr fun K86 hK87=>mv z<|asn z<|asn z<|nl<|hK87 _ _ _<|wr<|?_
 cases H
 exact rt ⟨_, _, z, z, ⟨_, _, z, z, z⟩⟩ hI48
theorem formeref17_Lines_spec {a1 a10 a15 a16 a17 A2 c3 A6 c7 A11 c12 A18 c19 r1022 r1029 G L w} (H : formeref17_Lines a1 a10 a15 a16 a17 = some (r1022, r1029)) (hI : Hp G L w) (hl4 : a1.Glyphs.length ≤ c3) (hD5 : Dat k_api_Glyph G A2 a1.Glyphs) (hl8 : a1.Kerns.length ≤ c7) (hD9 : Dat k_api_Kern G A6 a1.Kerns) (hl13 : a10.Keep.length ≤ c12) (hD14 : Dat Kd.str G A11 a10.Keep) (hl20 : a17.length ≤ c19) (hD21 : Dat (Kd.int .i64) G A18 a17) :
    Calls Tryz.prog 14 [agg [slice A2 a1.Glyphs.length c3, slice A6 a1.Kerns.length c7].toArray, agg [int .i64 a10.Before, int .i64 a10.Behind, slice A11 a10.Keep.length c12].toArray, string a15, int .i64 a16, slice A18 a17.length c19].toArray w fun e w' => ∃ (A1023 : Option Addr) (c1024 : Nat) (G' : Gh), G ≤ G' ∧ Hp G' (tk (slice A1023 r1022.length c1024) 4 31 :: L) w' ∧ r1022.length ≤ c1024 ∧ Dat k_api_Line G' A1023 r1022 ∧ Own A1023 c1024 ∧ e = .returned (tuple [slice A1023 r1022.length c1024, int .i64 r1029].toArray) := by
 refine calls_intro (N := 83) Tryz.func14 z z (Nat.le_of_ble_eq_true z)<|?_
 unfold formeref17_Lines at H
 refine sr fun K22 hK23=>bxk hI z z fun g25 wd26 hI27=>bxk hI27 z z fun g29 wd30 hI31=>asn z<|asn z<|nl<|hK23 _ _ _<|sQ fun K32 hK33=>sr fun K34 hK35=>asn z<|nl<|hK35 _ _ _<|wb<|bK H fun o55 hC H=>?_
 refine wpc_mono (Q := fun e r ds w => match (generalizing := false) o55 with | (Sum.inl _) => e = .ret ∧ ds = [] ∧ Has [(10, slice none 0 0), (11, int .i64 1)] r ∧ Hp G (bx g29 [int .i64 a10.Before, int .i64 a10.Behind, slice A11 a10.Keep.length c12] 28 :: bx g25 [slice A2 a1.Glyphs.length c3, slice A6 a1.Kerns.length c7] 25 :: L) w ∧ True | (Sum.inr _) => e = .exit 0 ∧ ds = [] ∧ Has [(2, string a15), (3, int .i64 a16), (4, slice A18 a17.length c19), (5, pointer (some ⟨g25, 0, none⟩)), (6, pointer (some ⟨g29, 0, none⟩))] r ∧ Hp G (bx g29 [int .i64 a10.Before, int .i64 a10.Behind, slice A11 a10.Keep.length c12] 28 :: bx g25 [slice A2 a1.Glyphs.length c3, slice A6 a1.Kerns.length c7] 25 :: L) w ∧ True) ?_ ?_
 refine wpc_loop fun I hLp=>?_
 refine formeref17_Lines_l46.partial_correctness a17 (fun v40 o => ∀ (r : Rg) (w : World), Has [(2, string a15), (3, int .i64 a16), (4, slice A18 a17.length c19), (5, pointer (some ⟨g25, 0, none⟩)), (6, pointer (some ⟨g29, 0, none⟩)), (12, int .i64 v40)] r → Hp G (bx g29 [int .i64 a10.Before, int .i64 a10.Behind, slice A11 a10.Keep.length c12] 28 :: bx g25 [slice A2 a1.Glyphs.length c3, slice A6 a1.Kerns.length c7] 25 :: L) w → o = o55 → I r [] w) ?_ 0 _ hC _ _ ⟨rfl, rfl, rfl, rfl, rfl, rfl, tv⟩ hI31 rfl
 intro _ ih v40 o H r wd58 hHas hI59 ho
 rw [ho] at H; clear ho
 rw [hHas.eq]; clear hHas
 refine hLp _ _ _<|sQ fun K60 hK61=>sr fun K62 hK63=>mv z<|mv z<|q_len so29 z<|q_lss z z<|nl<|hK63 _ _ _<|dC (v40 < (a17.length : Int)) (fun h64=>?_) fun h64=>?_
 refine yK h64 H fun H=>wt (bY h64)<|ws<|hK61 _ _ _<|sQ fun K65 hK66=>wb<|sr fun K67 hK68=>mv z<|mv z<|iK H fun⟨h69, h69'⟩H=>?_
 obtain ⟨ad70, cs71, hA72, hK73, hn74, hc75⟩ := Dat.get hD21 (0 : Int) (v40) h69 h69'
 obtain rfl := hK73
 refine q_ia el29 z hA72 z h69 h69'<|q_lf hI59 ag3 z (gR.cel _ _ (hc75 0 _ z))<|bK H fun y81 hy76 H=>cv bo28 (formeref17_room_spec hy76 hI59) z z fun wd79 hI80=>asn z<|nl<|hK68 _ _ _<|sr fun K82 hK83=>mv z<|q_not z<|nl<|hK83 _ _ _<|dC ((!y81) = true) (fun h84=>?_) fun h84=>?_
 refine yK h84 H fun H=>wt (vY h84)<|sr fun K85 hK86=>asn z<|asn z<|nl<|hK86 _ _ _<|wr<|?_
 cases H
 exact ⟨z, z, ⟨z, z, tv⟩, hI80, tv⟩
 exact nK h84 H fun H=>wf (vN h84)<|ws<|hK66 _ _ _<|wpc_region<|mv z<|q_add z z<|asn z<|nl<|ih _ _ H _ _ ⟨z, z, z, z, z, z, tv⟩ hI80 z
 refine nK h64 H fun H=>wf (bN h64)<|wx<|?_
 cases H
 exact ⟨z, z, ⟨z, z, z, z, z, tv⟩, hI59, tv⟩
 rcases o55 with _ | _
 rintro e r ds wd49 ⟨rfl, rfl, hHas, hI50, _⟩
 rw [hHas.eq]; clear hHas
 refine have hI87:=Hp.emp hI50;have hI89:=Hp.sub hI87 (sk (sd (sd se)));?_
 cases H
 exact ⟨.inr z, z, _, ⟨_, _, z, z, ⟨_, _, z, z, z⟩⟩, none, 0, _, gR, hI89, (show ([] : List api_Line).length ≤ 0 from Nat.le_refl 0), (Dat.nil _ _ _), Own.nil, z⟩
 rintro e r ds wd53 ⟨rfl, rfl, hHas, hI54, _⟩
 rw [hHas.eq]; clear hHas
 refine hK33 _ _ _<|sQ fun K90 hK91=>sr fun K92 hK93=>mv z<|q_len so29 z<|q_eql z z<|nl<|hK93 _ _ _<|dC ((a17.length : Int) = 0) (fun h94=>?_) fun h94=>?_
 refine yK h94 H fun H=>wt (bY h94)<|sr fun K95 hK96=>asn z<|asn z<|nl<|hK96 _ _ _<|wr<|have hI97:=Hp.emp hI54;have hI99:=Hp.sub hI97 (sk (sd (sd se)));?_
 cases H
 exact ⟨.inr z, z, _, ⟨_, _, z, z, ⟨_, _, z, z, z⟩⟩, none, 0, _, gR, hI99, (show ([] : List api_Line).length ≤ 0 from Nat.le_refl 0), (Dat.nil _ _ _), Own.nil, z⟩
 refine nK h94 H fun H=>wf (bN h94)<|ws<|hK91 _ _ _<|sr fun K100 hK101=>lda hI54 1 ag25 z z z z<|lda hI54 0 ag28 z z z z<|mv z<|mv z<|bK2 H fun y107 y114 hy102 H=>q_cv (vs := [agg [slice A2 a1.Glyphs.length c3, slice A6 a1.Kerns.length c7].toArray, agg [int .i64 a10.Before, int .i64 a10.Behind, slice A11 a10.Keep.length c12].toArray, string a15, int .i64 a16]) bo29 z z (formeref17_check_spec hy102 hI54 hl4 hD5 hl8 hD9 hl13 hD14)<|?_
 rintro _ wd105 ⟨A108, c109, G103, hG104, hI106, hl110, hD111, ho112, rfl⟩
 refine ⟨_, rfl, ?_⟩
 refine mv z<|exk z z<|exk z z<|asn z<|asn z<|nl<|hK101 _ _ _<|sQ fun K115 hK116=>sr fun K117 hK118=>mv z<|q_neq z z<|nl<|hK118 _ _ _<|dC (¬ y114 = 0) (fun h119=>?_) fun h119=>?_
 refine yK h119 H fun H=>wt (bY h119)<|sr fun K120 hK121=>mv z<|asn z<|asn z<|nl<|hK121 _ _ _<|wr<|have hI122:=Hp.emp hI106;have hI124:=Hp.sub hI122 (sk (sd (sd (sd se))));?_
 cases H
 exact ⟨.inr z, z, _, ⟨_, _, z, z, ⟨_, _, z, z, z⟩⟩, none, 0, _, hG104, hI124, (show ([] : List api_Line).length ≤ 0 from Nat.le_refl 0), (Dat.nil _ _ _), Own.nil, z⟩
 refine nK h119 H fun H=>wf (bN h119)<|ws<|hK116 _ _ _<|sr fun K125 hK126=>asn z<|nl<|hK126 _ _ _<|sr fun K127 hK128=>asn z<|nl<|hK128 _ _ _<|sQ fun K129 hK130=>wb<|?_
 refine bK H fun v156 hC H=>?_
 refine wpc_mono (Q := fun e r ds w => e = .exit 2 ∧ ∃ (A157 : Option Addr) (c158 : Nat) (G163 : Gh), ds = [] ∧ G103 ≤ G163 ∧ Has [(16, slice A157 v156.length c158)] r ∧ Hp G163 (bx g29 [int .i64 a10.Before, int .i64 a10.Behind, slice A11 a10.Keep.length c12] 28 :: bx g25 [slice A2 a1.Glyphs.length c3, slice A6 a1.Kerns.length c7] 25 :: tk (slice A108 y107.length c109) 2 51 :: tk (slice A157 v156.length c158) 4 31 :: L) w ∧ v156.length ≤ c158 ∧ Dat k_api_Line G163 A157 v156 ∧ Own A157 c158 ∧ True) ?_ ?_
 refine have hI460:=Hp.emp hI106;have hI462:=Hp.front hI460 1 z;have hI463:=Hp.front hI462 3 z;have hI464:=Hp.front hI463 3 z;wpc_loop fun I hLp=>?_
 refine formeref17_Lines_l155.partial_correctness a1 a15 a16 a17 y107 (fun v135 v142 o => ∀ (A136 : Option Addr) (c137 : Nat) (G168 : Gh) (r : Rg) (w : World), G103 ≤ G168 → Has [(2, string a15), (3, int .i64 a16), (4, slice A18 a17.length c19), (5, pointer (some ⟨g25, 0, none⟩)), (14, slice A108 y107.length c109), (16, slice A136 v135.length c137), (17, int .i64 v142)] r → Hp G168 (bx g29 [int .i64 a10.Before, int .i64 a10.Behind, slice A11 a10.Keep.length c12] 28 :: bx g25 [slice A2 a1.Glyphs.length c3, slice A6 a1.Kerns.length c7] 25 :: tk (slice A108 y107.length c109) 2 51 :: tk (slice A136 v135.length c137) 4 31 :: L) w → v135.length ≤ c137 → Dat k_api_Line G168 A136 v135 → Own A136 c137 → o = v156 → I r [] w) ?_ ([] : List api_Line) 0 _ hC none 0 _ _ _ gR ⟨rfl, rfl, rfl, rfl, rfl, rfl, rfl, tv⟩ hI464 (show ([] : List api_Line).length ≤ 0 from Nat.le_refl 0) (Dat.nil _ _ _) Own.nil rfl
 intro _ ih v135 v142 o H A136 c137 G168 r wd170 hG169 hHas hI171 hl138 hD139 ho140 ho
 rw [ho] at H; clear ho
 rw [hHas.eq]; clear hHas
 refine hLp _ _ _<|sQ fun K172 hK173=>sr fun K174 hK175=>mv z<|mv z<|q_lens so9 z<|q_lss z z<|nl<|hK175 _ _ _<|dC (v142 < (a15.size : Int)) (fun h176=>?_) fun h176=>?_
 refine yK h176 H fun H=>wt (bY h176)<|ws<|hK173 _ _ _<|wb<|sr fun K177 hK178=>mv z<|mv z<|iK H fun⟨h179, h180⟩H=>q_ss (l := v142) (h := (a15.size : Int)) so9 z (.inr ⟨_, z, z⟩) (.inl ⟨z, z⟩) h179 h180 (Int.le_refl _)<|bK2 H fun y187 y188 hy182 H=>cv bo35 (formeref06_Words_spec hy182 hI171) z z fun wd185 hI186=>mv z<|exk z z<|?_
 refine exk z z<|asn z<|asn z<|nl<|hK178 _ _ _<|sQ fun K189 hK190=>sr fun K191 hK192=>mv z<|q_eql z z<|nl<|hK192 _ _ _<|dC (y187 = 0) (fun h193=>?_) fun h193=>?_
 refine yK h193 H fun H=>wt (bY h193)<|wx<|?_
 cases H
 exact ⟨z, A136, c137, _, z, hG169, ⟨z, tv⟩, hI186, hl138, hD139, ho140, tv⟩
 refine nK h193 H fun H=>wf (bN h193)<|ws<|hK190 _ _ _<|sQ fun K194 hK195=>iK H fun⟨h221, h221'⟩H=>?_
 obtain ⟨ad222, cs223, hA224, hK225, hn226, hc227⟩ := Dat.get (Dat.mono (gT hG104 hG169) hD21) (0 : Int) (min (v135.length : Int) (w64 ((a17.length : Int) - 1))) h221 h221'
 obtain rfl := hK225
 refine bK H fun y232 hy417 H=>?_
 refine wpc_drawL [0, 0, 0, 0, 0, 0, 0, 64, 0, 256, 768, 1984, 4064, 8160, 16383, 0, 65535] (fun D r w => (D 15 = false ∧ ∃ (G' : Gh), G168 ≤ G' ∧ Regs [(2, string a15), (3, int .i64 a16), (4, slice A18 a17.length c19), (5, pointer (some ⟨g25, 0, none⟩)), (14, slice A108 y107.length c109), (16, slice A136 v135.length c137), (17, int .i64 v142)] [] [(0, 61, agg [slice A2 a1.Glyphs.length c3, slice A6 a1.Kerns.length c7].toArray), (1, 62, slice A108 y107.length c109), (2, 63, string a15), (3, 64, int .i64 v142), (4, 65, int .i64 a16), (5, 66, slice A18 a17.length c19), (6, 67, slice A136 v135.length c137), (7, 68, int .i64 (v135.length : Int)), (8, 69, slice A18 a17.length c19), (9, 70, int .i64 (a17.length : Int)), (10, 71, int .i64 (w64 ((a17.length : Int) - 1))), (11, 72, int .i64 (min (v135.length : Int) (w64 ((a17.length : Int) - 1)))), (12, 73, pointer (some (ad222.add (Int.toNat (min (v135.length : Int) (w64 ((a17.length : Int) - 1))) * 1)))), (13, 74, int .i64 (a17.getD (Int.toNat (min (v135.length : Int) (w64 ((a17.length : Int) - 1)))) (0 : Int))), (14, 75, agg [int .i64 y232.From, int .i64 y232.Until, int .i64 y232.Width, bool y232.Hyphen].toArray)] D r ∧ Hp G' (bx g29 [int .i64 a10.Before, int .i64 a10.Behind, slice A11 a10.Keep.length c12] 28 :: bx g25 [slice A2 a1.Glyphs.length c3, slice A6 a1.Kerns.length c7] 25 :: tk (slice A108 y107.length c109) 2 51 :: tk (slice A136 v135.length c137) 4 31 :: L) w) ∨ (D 15 = true ∧ D 16 = false ∧ ∃ (g429 : Nat) (G' : Gh), G168 ≤ G' ∧ Regs [(2, string a15), (3, int .i64 a16), (4, slice A18 a17.length c19), (5, pointer (some ⟨g25, 0, none⟩)), (14, slice A108 y107.length c109), (16, slice A136 v135.length c137), (17, int .i64 v142)] [] [(0, 61, agg [slice A2 a1.Glyphs.length c3, slice A6 a1.Kerns.length c7].toArray), (1, 62, slice A108 y107.length c109), (2, 63, string a15), (3, 64, int .i64 v142), (4, 65, int .i64 a16), (5, 66, slice A18 a17.length c19), (6, 67, slice A136 v135.length c137), (7, 68, int .i64 (v135.length : Int)), (8, 69, slice A18 a17.length c19), (9, 70, int .i64 (a17.length : Int)), (10, 71, int .i64 (w64 ((a17.length : Int) - 1))), (11, 72, int .i64 (min (v135.length : Int) (w64 ((a17.length : Int) - 1)))), (12, 73, pointer (some (ad222.add (Int.toNat (min (v135.length : Int) (w64 ((a17.length : Int) - 1))) * 1)))), (13, 74, int .i64 (a17.getD (Int.toNat (min (v135.length : Int) (w64 ((a17.length : Int) - 1)))) (0 : Int))), (14, 75, agg [int .i64 y232.From, int .i64 y232.Until, int .i64 y232.Width, bool y232.Hyphen].toArray), (15, 20, pointer (some ⟨g429, 0, none⟩))] D r ∧ Hp G' (bx g429 [int .i64 0, int .i64 0, int .i64 0, bool false] 31 :: bx g29 [int .i64 a10.Before, int .i64 a10.Behind, slice A11 a10.Keep.length c12] 28 :: bx g25 [slice A2 a1.Glyphs.length c3, slice A6 a1.Kerns.length c7] 25 :: tk (slice A108 y107.length c109) 2 51 :: tk (slice A136 v135.length c137) 4 31 :: L) w) ∨ (D 16 = true ∧ ∃ (g429 : Nat) (G' : Gh), G168 ≤ G' ∧ Regs [(2, string a15), (3, int .i64 a16), (4, slice A18 a17.length c19), (5, pointer (some ⟨g25, 0, none⟩)), (14, slice A108 y107.length c109), (16, slice A136 v135.length c137), (17, int .i64 v142)] [] [(0, 61, agg [slice A2 a1.Glyphs.length c3, slice A6 a1.Kerns.length c7].toArray), (1, 62, slice A108 y107.length c109), (2, 63, string a15), (3, 64, int .i64 v142), (4, 65, int .i64 a16), (5, 66, slice A18 a17.length c19), (6, 67, slice A136 v135.length c137), (7, 68, int .i64 (v135.length : Int)), (8, 69, slice A18 a17.length c19), (9, 70, int .i64 (a17.length : Int)), (10, 71, int .i64 (w64 ((a17.length : Int) - 1))), (11, 72, int .i64 (min (v135.length : Int) (w64 ((a17.length : Int) - 1)))), (12, 73, pointer (some (ad222.add (Int.toNat (min (v135.length : Int) (w64 ((a17.length : Int) - 1))) * 1)))), (13, 74, int .i64 (a17.getD (Int.toNat (min (v135.length : Int) (w64 ((a17.length : Int) - 1)))) (0 : Int))), (14, 75, agg [int .i64 y232.From, int .i64 y232.Until, int .i64 y232.Width, bool y232.Hyphen].toArray), (15, 20, pointer (some ⟨g429, 0, none⟩))] D r ∧ Hp G' (bx g429 [int .i64 y232.From, int .i64 y232.Until, int .i64 y232.Width, bool y232.Hyphen] 31 :: bx g29 [int .i64 a10.Before, int .i64 a10.Behind, slice A11 a10.Keep.length c12] 28 :: bx g25 [slice A2 a1.Glyphs.length c3, slice A6 a1.Kerns.length c7] 25 :: tk (slice A108 y107.length c109) 2 51 :: tk (slice A136 v135.length c137) 4 31 :: L) w)) mixo z z ?_ ?_ ?_
 exact (.inl ⟨z, _, Gh.le_refl _, Regs.start ⟨z, z, z, z, z, z, z, tv⟩ trivial, hI186.drew⟩)
 refine ⟨?_, ?_, ?_, ?_, ?_, ?_, ?_, ?_, ?_, ?_, ?_, ?_, ?_, ?_, ?_, ?_, ?_, tv⟩
 rintro D r wd438 (⟨hd2, G434, hG435, hReg437, hI436⟩ | ⟨hd1, hd2, g429, G434, hG435, hReg437, hI436⟩ | ⟨hd1, g429, G434, hG435, hReg437, hI436⟩) hDi hpre hpost
 obtain ⟨r0, rfl⟩ := Has.ex (cC (hReg437.ins.get 3 rfl) cN)
 exact lda hI436 1 ag25 z z z z<|nl ⟨z, (.inl ⟨hd2, _, hG435, (Regs.step hReg437 hDi z z z z), hI436⟩)⟩
 obtain ⟨r0, rfl⟩ := Has.ex (cC (hReg437.ins.get 3 rfl) cN)
 exact lda hI436 2 ag25 z z z z<|nl ⟨z, (.inr (.inl ⟨hd1, hd2, g429, _, hG435, (Regs.step hReg437 hDi z z z z), hI436⟩))⟩
 cases (hpost 16 rfl).symm.trans hd1
 rintro D r wd438 (⟨hd2, G434, hG435, hReg437, hI436⟩ | ⟨hd1, hd2, g429, G434, hG435, hReg437, hI436⟩ | ⟨hd1, g429, G434, hG435, hReg437, hI436⟩) hDi hpre hpost
 obtain ⟨r0, rfl⟩ := Has.ex (cC (hReg437.ins.get 4 rfl) cN)
 exact mv z<|nl ⟨z, (.inl ⟨hd2, _, hG435, (Regs.step hReg437 hDi z z z z), hI436⟩)⟩
 obtain ⟨r0, rfl⟩ := Has.ex (cC (hReg437.ins.get 4 rfl) cN)
 exact mv z<|nl ⟨z, (.inr (.inl ⟨hd1, hd2, g429, _, hG435, (Regs.step hReg437 hDi z z z z), hI436⟩))⟩
 cases (hpost 16 rfl).symm.trans hd1
 rintro D r wd438 (⟨hd2, G434, hG435, hReg437, hI436⟩ | ⟨hd1, hd2, g429, G434, hG435, hReg437, hI436⟩ | ⟨hd1, g429, G434, hG435, hReg437, hI436⟩) hDi hpre hpost
 obtain ⟨r0, rfl⟩ := Has.ex (cC (hReg437.ins.get 0 rfl) cN)
 exact mv z<|nl ⟨z, (.inl ⟨hd2, _, hG435, (Regs.step hReg437 hDi z z z z), hI436⟩)⟩
 obtain ⟨r0, rfl⟩ := Has.ex (cC (hReg437.ins.get 0 rfl) cN)
 exact mv z<|nl ⟨z, (.inr (.inl ⟨hd1, hd2, g429, _, hG435, (Regs.step hReg437 hDi z z z z), hI436⟩))⟩
 cases (hpost 16 rfl).symm.trans hd1
 rintro D r wd438 (⟨hd2, G434, hG435, hReg437, hI436⟩ | ⟨hd1, hd2, g429, G434, hG435, hReg437, hI436⟩ | ⟨hd1, g429, G434, hG435, hReg437, hI436⟩) hDi hpre hpost
 obtain ⟨r0, rfl⟩ := Has.ex (cC (hReg437.ins.get 6 rfl) cN)
 exact mv z<|nl ⟨z, (.inl ⟨hd2, _, hG435, (Regs.step hReg437 hDi z z z z), hI436⟩)⟩
 obtain ⟨r0, rfl⟩ := Has.ex (cC (hReg437.ins.get 6 rfl) cN)
 exact mv z<|nl ⟨z, (.inr (.inl ⟨hd1, hd2, g429, _, hG435, (Regs.step hReg437 hDi z z z z), hI436⟩))⟩
 cases (hpost 16 rfl).symm.trans hd1
 rintro D r wd438 (⟨hd2, G434, hG435, hReg437, hI436⟩ | ⟨hd1, hd2, g429, G434, hG435, hReg437, hI436⟩ | ⟨hd1, g429, G434, hG435, hReg437, hI436⟩) hDi hpre hpost
 obtain ⟨r0, rfl⟩ := Has.ex (cC (hReg437.ins.get 1 rfl) cN)
 exact mv z<|nl ⟨z, (.inl ⟨hd2, _, hG435, (Regs.step hReg437 hDi z z z z), hI436⟩)⟩
 obtain ⟨r0, rfl⟩ := Has.ex (cC (hReg437.ins.get 1 rfl) cN)
 exact mv z<|nl ⟨z, (.inr (.inl ⟨hd1, hd2, g429, _, hG435, (Regs.step hReg437 hDi z z z z), hI436⟩))⟩
 cases (hpost 16 rfl).symm.trans hd1
 rintro D r wd438 (⟨hd2, G434, hG435, hReg437, hI436⟩ | ⟨hd1, hd2, g429, G434, hG435, hReg437, hI436⟩ | ⟨hd1, g429, G434, hG435, hReg437, hI436⟩) hDi hpre hpost
 obtain ⟨r0, rfl⟩ := Has.ex (cC (hReg437.ins.get 2 rfl) cN)
 exact mv z<|nl ⟨z, (.inl ⟨hd2, _, hG435, (Regs.step hReg437 hDi z z z z), hI436⟩)⟩
 obtain ⟨r0, rfl⟩ := Has.ex (cC (hReg437.ins.get 2 rfl) cN)
 exact mv z<|nl ⟨z, (.inr (.inl ⟨hd1, hd2, g429, _, hG435, (Regs.step hReg437 hDi z z z z), hI436⟩))⟩
 cases (hpost 16 rfl).symm.trans hd1
 rintro D r wd438 (⟨hd2, G434, hG435, hReg437, hI436⟩ | ⟨hd1, hd2, g429, G434, hG435, hReg437, hI436⟩ | ⟨hd1, g429, G434, hG435, hReg437, hI436⟩) hDi hpre hpost
 obtain ⟨r0, rfl⟩ := Has.ex (cC (hReg437.ins.get 5 rfl) cN)
 exact mv z<|nl ⟨z, (.inl ⟨hd2, _, hG435, (Regs.step hReg437 hDi z z z z), hI436⟩)⟩
 obtain ⟨r0, rfl⟩ := Has.ex (cC (hReg437.ins.get 5 rfl) cN)
 exact mv z<|nl ⟨z, (.inr (.inl ⟨hd1, hd2, g429, _, hG435, (Regs.step hReg437 hDi z z z z), hI436⟩))⟩
 cases (hpost 16 rfl).symm.trans hd1
 rintro D r wd438 (⟨hd2, G434, hG435, hReg437, hI436⟩ | ⟨hd1, hd2, g429, G434, hG435, hReg437, hI436⟩ | ⟨hd1, g429, G434, hG435, hReg437, hI436⟩) hDi hpre hpost
 obtain ⟨r0, rfl⟩ := Has.ex (cC (hReg437.get 6 rfl (hpre 6 rfl)) cN)
 exact q_len so37 z<|nl ⟨z, (.inl ⟨hd2, _, hG435, (Regs.step hReg437 hDi z z z z), hI436⟩)⟩
 obtain ⟨r0, rfl⟩ := Has.ex (cC (hReg437.get 6 rfl (hpre 6 rfl)) cN)
 exact q_len so37 z<|nl ⟨z, (.inr (.inl ⟨hd1, hd2, g429, _, hG435, (Regs.step hReg437 hDi z z z z), hI436⟩))⟩
 cases (hpost 16 rfl).symm.trans hd1
 rintro D r wd438 (⟨hd2, G434, hG435, hReg437, hI436⟩ | ⟨hd1, hd2, g429, G434, hG435, hReg437, hI436⟩ | ⟨hd1, g429, G434, hG435, hReg437, hI436⟩) hDi hpre hpost
 obtain ⟨r0, rfl⟩ := Has.ex (cC (hReg437.ins.get 2 rfl) cN)
 exact mv z<|nl ⟨z, (.inl ⟨hd2, _, hG435, (Regs.step hReg437 hDi z z z z), hI436⟩)⟩
 obtain ⟨r0, rfl⟩ := Has.ex (cC (hReg437.ins.get 2 rfl) cN)
 exact mv z<|nl ⟨z, (.inr (.inl ⟨hd1, hd2, g429, _, hG435, (Regs.step hReg437 hDi z z z z), hI436⟩))⟩
 cases (hpost 16 rfl).symm.trans hd1
 rintro D r wd438 (⟨hd2, G434, hG435, hReg437, hI436⟩ | ⟨hd1, hd2, g429, G434, hG435, hReg437, hI436⟩ | ⟨hd1, g429, G434, hG435, hReg437, hI436⟩) hDi hpre hpost
 obtain ⟨r0, rfl⟩ := Has.ex (cC (hReg437.get 8 rfl (hpre 8 rfl)) cN)
 exact q_len so29 z<|nl ⟨z, (.inl ⟨hd2, _, hG435, (Regs.step hReg437 hDi z z z z), hI436⟩)⟩
 obtain ⟨r0, rfl⟩ := Has.ex (cC (hReg437.get 8 rfl (hpre 8 rfl)) cN)
 exact q_len so29 z<|nl ⟨z, (.inr (.inl ⟨hd1, hd2, g429, _, hG435, (Regs.step hReg437 hDi z z z z), hI436⟩))⟩
 cases (hpost 16 rfl).symm.trans hd1
 rintro D r wd438 (⟨hd2, G434, hG435, hReg437, hI436⟩ | ⟨hd1, hd2, g429, G434, hG435, hReg437, hI436⟩ | ⟨hd1, g429, G434, hG435, hReg437, hI436⟩) hDi hpre hpost
 obtain ⟨r0, rfl⟩ := Has.ex (cC (hReg437.get 9 rfl (hpre 9 rfl)) cN)
 exact q_sub z z<|nl ⟨z, (.inl ⟨hd2, _, hG435, (Regs.step hReg437 hDi z z z z), hI436⟩)⟩
 obtain ⟨r0, rfl⟩ := Has.ex (cC (hReg437.get 9 rfl (hpre 9 rfl)) cN)
 exact q_sub z z<|nl ⟨z, (.inr (.inl ⟨hd1, hd2, g429, _, hG435, (Regs.step hReg437 hDi z z z z), hI436⟩))⟩
 cases (hpost 16 rfl).symm.trans hd1
 rintro D r wd438 (⟨hd2, G434, hG435, hReg437, hI436⟩ | ⟨hd1, hd2, g429, G434, hG435, hReg437, hI436⟩ | ⟨hd1, g429, G434, hG435, hReg437, hI436⟩) hDi hpre hpost
 obtain ⟨r0, rfl⟩ := Has.ex (cC (hReg437.get 7 rfl (hpre 7 rfl)) (cC (hReg437.get 10 rfl (hpre 10 rfl)) cN))
 exact q_min z z<|nl ⟨z, (.inl ⟨hd2, _, hG435, (Regs.step hReg437 hDi z z z z), hI436⟩)⟩
 obtain ⟨r0, rfl⟩ := Has.ex (cC (hReg437.get 7 rfl (hpre 7 rfl)) (cC (hReg437.get 10 rfl (hpre 10 rfl)) cN))
 exact q_min z z<|nl ⟨z, (.inr (.inl ⟨hd1, hd2, g429, _, hG435, (Regs.step hReg437 hDi z z z z), hI436⟩))⟩
 cases (hpost 16 rfl).symm.trans hd1
 rintro D r wd438 (⟨hd2, G434, hG435, hReg437, hI436⟩ | ⟨hd1, hd2, g429, G434, hG435, hReg437, hI436⟩ | ⟨hd1, g429, G434, hG435, hReg437, hI436⟩) hDi hpre hpost
 obtain ⟨r0, rfl⟩ := Has.ex (cC (hReg437.get 5 rfl (hpre 5 rfl)) (cC (hReg437.get 11 rfl (hpre 11 rfl)) cN))
 exact q_ia el29 z hA224 z h221 h221'<|nl ⟨z, (.inl ⟨hd2, _, hG435, (Regs.step hReg437 hDi z z z z), hI436⟩)⟩
 obtain ⟨r0, rfl⟩ := Has.ex (cC (hReg437.get 5 rfl (hpre 5 rfl)) (cC (hReg437.get 11 rfl (hpre 11 rfl)) cN))
 exact q_ia el29 z hA224 z h221 h221'<|nl ⟨z, (.inr (.inl ⟨hd1, hd2, g429, _, hG435, (Regs.step hReg437 hDi z z z z), hI436⟩))⟩
 cases (hpost 16 rfl).symm.trans hd1
 rintro D r wd438 (⟨hd2, G434, hG435, hReg437, hI436⟩ | ⟨hd1, hd2, g429, G434, hG435, hReg437, hI436⟩ | ⟨hd1, g429, G434, hG435, hReg437, hI436⟩) hDi hpre hpost
 obtain ⟨r0, rfl⟩ := Has.ex (cC (hReg437.get 12 rfl (hpre 12 rfl)) cN)
 exact q_lf hI436 ag3 z (hG435.cel _ _ (hc227 0 _ z))<|nl ⟨z, (.inl ⟨hd2, _, hG435, (Regs.step hReg437 hDi z z z z), hI436⟩)⟩
 obtain ⟨r0, rfl⟩ := Has.ex (cC (hReg437.get 12 rfl (hpre 12 rfl)) cN)
 exact q_lf hI436 ag3 z (hG435.cel _ _ (hc227 0 _ z))<|nl ⟨z, (.inr (.inl ⟨hd1, hd2, g429, _, hG435, (Regs.step hReg437 hDi z z z z), hI436⟩))⟩
 cases (hpost 16 rfl).symm.trans hd1
 rintro D r wd438 (⟨hd2, G434, hG435, hReg437, hI436⟩ | ⟨hd1, hd2, g429, G434, hG435, hReg437, hI436⟩ | ⟨hd1, g429, G434, hG435, hReg437, hI436⟩) hDi hpre hpost
 obtain ⟨r0, rfl⟩ := Has.ex (cC (hReg437.get 0 rfl (hpre 0 rfl)) (cC (hReg437.get 1 rfl (hpre 1 rfl)) (cC (hReg437.get 2 rfl (hpre 2 rfl)) (cC (hReg437.get 3 rfl (hpre 3 rfl)) (cC (hReg437.get 4 rfl (hpre 4 rfl)) (cC (hReg437.get 13 rfl (hpre 13 rfl)) cN))))))
 exact cv bo30 (formeref17_next_spec hy417 hI436 hl4 (Dat.mono (gT (gT hG104 hG169) hG435) hD5) hl8 (Dat.mono (gT (gT hG104 hG169) hG435) hD9) hl110 (Dat.mono (gT hG169 hG435) hD111)) z z fun wd230 hI231=>nl ⟨z, (.inl ⟨hd2, _, hG435, (Regs.step hReg437 hDi z z z z), hI231⟩)⟩
 obtain ⟨r0, rfl⟩ := Has.ex (cC (hReg437.get 0 rfl (hpre 0 rfl)) (cC (hReg437.get 1 rfl (hpre 1 rfl)) (cC (hReg437.get 2 rfl (hpre 2 rfl)) (cC (hReg437.get 3 rfl (hpre 3 rfl)) (cC (hReg437.get 4 rfl (hpre 4 rfl)) (cC (hReg437.get 13 rfl (hpre 13 rfl)) cN))))))
 exact cv bo30 (formeref17_next_spec hy417 hI436 hl4 (Dat.mono (gT (gT hG104 hG169) hG435) hD5) hl8 (Dat.mono (gT (gT hG104 hG169) hG435) hD9) hl110 (Dat.mono (gT hG169 hG435) hD111)) z z fun wd230 hI231=>nl ⟨z, (.inr (.inl ⟨hd1, hd2, g429, _, hG435, (Regs.step hReg437 hDi z z z z), hI231⟩))⟩
 cases (hpost 16 rfl).symm.trans hd1
 rintro D r wd438 (⟨hd2, G434, hG435, hReg437, hI436⟩ | ⟨hd1, hd2, g429, G434, hG435, hReg437, hI436⟩ | ⟨hd1, g429, G434, hG435, hReg437, hI436⟩) hDi hpre hpost
 obtain ⟨r0, rfl⟩ := Has.ex (r := r) cN
 exact q_alloc hI436 ze31 fun g429 wd430 hI431=>nl ⟨z, (.inr (.inl ⟨z, (hpost 16 z), g429, _, hG435, (Regs.step (Regs.more (new := [(15, 20, pointer (some ⟨g429, 0, none⟩))]) hReg437 (List.forall_mem_cons.2 ⟨hDi, (fun _ h => nomatch h)⟩)) hDi z z z z), hI431⟩))⟩
 cases hDi.symm.trans hd1
 cases (hpost 16 rfl).symm.trans hd1
 rintro D r wd438 (⟨hd2, G434, hG435, hReg437, hI436⟩ | ⟨hd1, hd2, g429, G434, hG435, hReg437, hI436⟩ | ⟨hd1, g429, G434, hG435, hReg437, hI436⟩) hDi hpre hpost
 cases (hpre 15 rfl).symm.trans hd2
 obtain ⟨r0, rfl⟩ := Has.ex (cC (hReg437.get 15 rfl (hpre 15 rfl)) (cC (hReg437.get 14 rfl (hpre 14 rfl)) cN))
 exact stk hI436 0 ag31 z z z z z z z fun wd432 hI433=>nl ⟨z, (.inr (.inr ⟨z, g429, _, hG435, (Regs.stepN hReg437 z z), hI433⟩))⟩
 cases hDi.symm.trans hd1
 intro D r wd438 hall hR
 rcases hR with ⟨hd2, G434, hG435, hReg437, hI436⟩ | ⟨hd1, hd2, g429, G434, hG435, hReg437, hI436⟩ | ⟨hd1, g429, G434, hG435, hReg437, hI436⟩
 cases (hall 15 (Nat.le_of_ble_eq_true rfl)).symm.trans hd2
 cases (hall 16 (Nat.le_of_ble_eq_true rfl)).symm.trans hd2
 obtain ⟨r0, rfl⟩ := Has.ex (cC (hReg437.ins.get 0 rfl) (cC (hReg437.ins.get 1 rfl) (cC (hReg437.ins.get 2 rfl) (cC (hReg437.ins.get 3 rfl) (cC (hReg437.ins.get 4 rfl) (cC (hReg437.ins.get 5 rfl) (cC (hReg437.get 15 rfl (hall 15 (Nat.le_of_ble_eq_true rfl))) cN)))))))
 refine hK195 _ _ _<|sr fun K439 hK440=>mv z<|lda hI436 0 ag31 z z z z<|?_
 refine q_bs hI436 (vs := [(0, agg [int .i64 y232.From, int .i64 y232.Until, int .i64 y232.Width, bool y232.Hyphen].toArray)]) (cs := [int .i64 y232.From, int .i64 y232.Until, int .i64 y232.Width, bool y232.Hyphen]) el37 ze31 rfl (by decide) rfl rfl (fun g442 wd443 hI444 => ?_)
 refine iK H fun h454 H=>?_
 refine q_app (xs := v135) (ys := [y232]) k_api_Line hI444 5 el37 ze31 rfl rfl rfl rfl ho140 hl138 (Dat.mono hG435 hD139) (src_bx hI444 0 so37 rfl rfl) ⟨[int .i64 y232.From, int .i64 y232.Until, int .i64 y232.Width, bool y232.Hyphen], _, rfl, (mk_api_Line (x := y232)), rfl⟩ rfl (by simp only [List.length_cons, List.length_nil]; omega) (by simp only [List.length_cons, List.length_nil]; omega) (fun A445 c446 G447 wd448 hG449 ho450 hl451 hD452 hI453 => ?_)
 exact asn z<|nl<|hK440 _ _ _<|wpc_region<|fa fl31_1 z<|ld hI453 1 ag3 z z z<|asn z<|nl<|have hI455:=Hp.front hI453 5 z;have hI456:=Hp.front hI455 5 z;have hI457:=Hp.front hI456 5 z;have hI458:=Hp.front hI457 5 z;have hI459:=Hp.sub hI458 (sk (sk (sk (sk (sd (sd se))))));ih _ _ _ H A445 c446 _ _ _ (gT (gT hG169 hG435) hG449) ⟨z, z, z, z, z, z, z, tv⟩ hI459 hl451 hD452 ho450 z
 refine nK h176 H fun H=>wf (bN h176)<|wx<|?_
 cases H
 exact ⟨z, A136, c137, _, z, hG169, ⟨z, tv⟩, hI171, hl138, hD139, ho140, tv⟩
 rintro e r ds wd165 ⟨rfl, A157, c158, G163, rfl, hG164, hHas, hI166, hl159, hD160, ho161, _⟩
 rw [hHas.eq]; clear hHas
 refine hK130 _ _ _<|sr fun K465 hK466=>mv z<|asn z<|asn z<|nl<|hK466 _ _ _<|wr<|have hI467:=Hp.front hI166 3 z;have hI468:=Hp.sub hI467 (sk (sd (sd (sd se))));?_
 cases H
 exact ⟨.inr z, z, _, ⟨_, _, z, z, ⟨_, _, z, z, z⟩⟩, A157, c158, _, (gT hG104 hG164), hI468, hl159, hD160, ho161, z⟩
theorem formeref09_Line_spec {a1 a2 r1003 G L w} (H : formeref09_Line a1 a2 = some r1003) (hI : Hp G L w) :
    Calls Tryz.prog 133 [string a1, int .i64 a2].toArray w fun e w' => Hp G L w' ∧ e = .returned (bool r1003) := by
 refine calls_intro (N := 15) Tryz.func133 z z (Nat.le_of_ble_eq_true z)<|?_
 unfold formeref09_Line at H
 refine sr fun K3 hK4=>asn z<|nl<|hK4 _ _ _<|sr fun K5 hK6=>mv z<|bK H fun y12 hy7 H=>cv bo41 (formeref06_Valid_spec hy7 hI) z z fun wd10 hI11=>mv z<|bK H fun v13 hC H=>js 7 hI11 [(14, bool v13)] ?_ fun _ wd16 hI17=>?_
 refine have H:=hC;dC (y12 = true) (fun h19=>?_) fun h19=>?_
 refine yK h19 H fun H=>mv (hw:=gY z z z (vY h19)) z<|q_eql (hw:=gY z z z (vY h19)) z z<|mv (hw:=gY z z z (vY h19)) z<|bK H fun v20 hC H=>js 3 hI11 [(7, bool y12), (13, bool v20)] ?_ fun _ wd23 hI24=>?_
 refine have H:=hC;dC (a2 = 0) (fun h26=>?_) fun h26=>?_
 refine yK h26 H fun H=>Sk 2 z z (bY h26) z<|pkt (hw:=gY z z z (vY h19)) (bY h26) z<|nl<|?_
 cases H
 exact je ⟨z, z, tv⟩ hI11
 refine nK h26 H fun H=>mv (hw:=gY z z z (bN h26)) z<|q_eql (hw:=gY z z z (bN h26)) z z<|pkf (hw:=gY z z z (vY h19)) (bN h26) z<|nl<|?_
 cases H
 exact je ⟨z, z, tv⟩ hI11
 refine pkt (vY h19) z<|nl<|?_
 cases H
 exact je ⟨z, tv⟩ hI24
 refine nK h19 H fun H=>Sk 3 z z (vN h19) z<|Su 2 z<|wN (gN z z z (vN h19) z)<|pkf (vN h19) z<|nl<|?_
 cases H
 exact je ⟨z, tv⟩ hI11
 refine asn z<|nl<|hK6 _ _ _<|wr<|?_
 cases H
 exact rt ⟨_, _, z, z, z⟩ hI17
theorem formeref09_Neutral_spec {a1 r1002 G L w} (H : formeref09_Neutral a1 = some r1002) (hI : Hp G L w) :
    Calls Tryz.prog 149 [int .u8 a1].toArray w fun e w' => Hp G L w' ∧ e = .returned (bool r1002) := by
 refine calls_intro (N := 6) Tryz.func149 z z (Nat.le_of_ble_eq_true z)<|?_
 unfold formeref09_Neutral at H
 refine sr fun K2 hK3=>asn z<|nl<|hK3 _ _ _<|sr fun K4 hK5=>mv z<|bK H fun y11 hy6 H=>cv bo75 (formeref06_Class_spec hy6 hI) z z fun wd9 hI10=>q_gtr z z<|asn z<|nl<|hK5 _ _ _<|wr<|?_
 cases H
 exact rt ⟨_, _, z, z, z⟩ hI10
theorem formeref09_directions_spec {a1 a2 r1003 G L w} (H : formeref09_directions a1 a2 = some r1003) (hI : Hp G L w) :
    Calls Tryz.prog 134 [string a1, int .i64 a2].toArray w fun e w' => ∃ (A1004 : Option Addr) (n1005 : Nat) (c1006 : Nat) (G' : Gh), G ≤ G' ∧ Hp G' (rwI G' (Kd.int .i64) A1004 [] r1003 [] c1006 3 :: L) w' ∧ r1003.length = n1005 ∧ Mw A1004 A1004 ([] : List Int).length n1005 c1006 c1006 1 ∧ e = .returned (slice A1004 n1005 c1006) := by
 refine calls_intro (N := 105) Tryz.func134 z z (Nat.le_of_ble_eq_true z)<|?_
 unfold formeref09_directions at H
 refine sr fun K3 hK4=>asn z<|nl<|hK4 _ _ _<|sr fun K5 hK6=>mv z<|q_lens so9 z<|iK H fun⟨h7, h7', h7''⟩H=>q_mks (kd := (Kd.int .i64)) (z := (0 : Int)) hI el29 ze3 z z z z h7 h7' h7'' fun g9 n10 wd11 hn13 hI12=>asn z<|nl<|hK6 _ _ _<|sr fun K14 hK15=>mv z<|?_
 refine asn z<|nl<|hK15 _ _ _<|sQ fun K16 hK17=>sr fun K18 hK19=>asn z<|nl<|hK19 _ _ _<|wb<|bK H fun v41 hC H=>wpc_mono (Q := fun e r ds w => e = .exit 0 ∧ ∃ (Gr43 : Gh) (G45 : Gh), ds = [] ∧ G ≤ G45 ∧ Has [(0, string a1), (1, int .i64 a2), (5, slice (some ⟨g9, 0, none⟩) n10 n10)] r ∧ Hp G45 (rwI Gr43 (Kd.int .i64) (some ⟨g9, 0, none⟩) [] v41 [] n10 3 :: L) w ∧ v41.length = n10 ∧ Gr43 ≤ G45 ∧ True) ?_ ?_
 refine wpc_loop fun I hLp=>?_
 refine formeref09_directions_l40.partial_correctness a1 (fun v24 v26 v27 o => ∀ (Gr28 : Gh) (G50 : Gh) (r : Rg) (w : World), G ≤ G50 → Has [(0, string a1), (1, int .i64 a2), (5, slice (some ⟨g9, 0, none⟩) n10 n10), (6, int .i64 v26), (7, int .i64 v27)] r → Hp G50 (rwI Gr28 (Kd.int .i64) (some ⟨g9, 0, none⟩) [] v24 [] n10 3 :: L) w → v24.length = n10 → Gr28 ≤ G50 → o = v41 → I r [] w) ?_ (List.replicate (Int.toNat (a1.size : Int)) (0 : Int)) a2 0 _ hC G _ _ _ gR ⟨rfl, rfl, rfl, rfl, rfl, tv⟩ hI12 hn13 gR rfl
 intro _ ih v24 v26 v27 o H Gr28 G50 r wd52 hG51 hHas hI53 hn25 hGr29 ho
 rw [ho] at H; clear ho
 rw [hHas.eq]; clear hHas
 refine hLp _ _ _<|sQ fun K54 hK55=>sr fun K56 hK57=>mv z<|mv z<|q_lens so9 z<|q_lss z z<|nl<|hK57 _ _ _<|dC (v27 < (a1.size : Int)) (fun h58=>?_) fun h58=>?_
 refine yK h58 H fun H=>wt (bY h58)<|ws<|hK55 _ _ _<|sQ fun K59 hK60=>bK2 H fun v61 v63 hC H=>?_
 refine wpc_mono (Q := fun e r ds w => e = .normal ∧ ∃ (Gr64 : Gh) (G66 : Gh), ds = [] ∧ G50 ≤ G66 ∧ Has [(0, string a1), (1, int .i64 a2), (5, slice (some ⟨g9, 0, none⟩) n10 n10), (6, int .i64 v63), (7, int .i64 v27)] r ∧ Hp G66 (rwI Gr64 (Kd.int .i64) (some ⟨g9, 0, none⟩) [] v61 [] n10 3 :: L) w ∧ v61.length = n10 ∧ Gr64 ≤ G66 ∧ True) ?_ ?_
 refine have H:=hC;wb<|sQ fun K71 hK72=>sr fun K73 hK74=>mv z<|mv z<|iK H fun⟨h75, h75'⟩H=>q_is so9 z z h75 h75' z<|bK H fun y81 hy76 H=>cv bo75 (formeref06_Class_spec hy76 hI53) z z fun wd79 hI80=>nl<|hK74 _ _ _<|wb<|sr fun K82 hK83=>?_
 refine q_eql z z<|asn z<|nl<|hK83 _ _ _<|dC (y81 = 1) (fun h84=>?_) fun h84=>?_
 refine yK h84 H fun H=>wt (bY h84)<|wpc_region<|asn z<|nl<|hK72 _ _ _<|wpc_region<|mv z<|mv z<|mv z<|iK H fun⟨h85, h85'⟩H=>have hb86:=lt_n hn13 h85';?_
 obtain ⟨ad87, hA88⟩ := Mw.ad (Mw.new (α := Int) g9 n10 1) h85 hb86
 refine q_ia el29 z hA88 z h85 hb86<|q_stm (kd := (Kd.int .i64)) hI80 0 (v := int .i64 0) (news := [int .i64 0]) (0 : Int) 0 ag3 z (Mw.new (α := Int) g9 n10 1) hn25 hA88 h85 hb86 (add_zero' _) z z z z z (Nat.le_of_ble_eq_true z) gR (fun _ ho => setAll_K ho z z) fun wd89 hI90=>nl<|have hI91:=Hp.rwUp hI90 0 z hGr29;?_
 cases H
 exact ⟨z, G50, _, z, gR, ⟨z, z, z, z, z, tv⟩, hI91, (set_len hn25), gR, tv⟩
 refine nK h84 H fun H=>wf (bN h84)<|sr fun K92 hK93=>q_eql z z<|asn z<|nl<|hK93 _ _ _<|dC (y81 = 2) (fun h94=>?_) fun h94=>?_
 refine yK h94 H fun H=>wt (bY h94)<|wpc_region<|asn z<|nl<|hK72 _ _ _<|wpc_region<|mv z<|mv z<|mv z<|iK H fun⟨h95, h95'⟩H=>have hb96:=lt_n hn13 h95';?_
 obtain ⟨ad97, hA98⟩ := Mw.ad (Mw.new (α := Int) g9 n10 1) h95 hb96
 refine q_ia el29 z hA98 z h95 hb96<|q_stm (kd := (Kd.int .i64)) hI80 0 (v := int .i64 1) (news := [int .i64 1]) (0 : Int) 1 ag3 z (Mw.new (α := Int) g9 n10 1) hn25 hA98 h95 hb96 (add_zero' _) z z z z z (Nat.le_of_ble_eq_true z) gR (fun _ ho => setAll_K ho z z) fun wd99 hI100=>nl<|have hI101:=Hp.rwUp hI100 0 z hGr29;?_
 cases H
 exact ⟨z, G50, _, z, gR, ⟨z, z, z, z, z, tv⟩, hI101, (set_len hn25), gR, tv⟩
 refine nK h94 H fun H=>wf (bN h94)<|ws<|hK72 _ _ _<|wpc_region<|mv z<|mv z<|mv z<|iK H fun⟨h102, h102'⟩H=>have hb103:=lt_n hn13 h102';?_
 obtain ⟨ad104, hA105⟩ := Mw.ad (Mw.new (α := Int) g9 n10 1) h102 hb103
 refine q_ia el29 z hA105 z h102 hb103<|q_stm (kd := (Kd.int .i64)) hI80 0 (v := int .i64 v26) (news := [int .i64 v26]) (0 : Int) v26 ag3 z (Mw.new (α := Int) g9 n10 1) hn25 hA105 h102 hb103 (add_zero' _) z z z z z (Nat.le_of_ble_eq_true z) gR (fun _ ho => setAll_K ho z z) fun wd106 hI107=>nl<|have hI108:=Hp.rwUp hI107 0 z hGr29;?_
 cases H
 exact ⟨z, G50, _, z, gR, ⟨z, z, z, z, z, tv⟩, hI108, (set_len hn25), gR, tv⟩
 rintro e r ds wd68 ⟨rfl, Gr64, G66, rfl, hG67, hHas, hI69, hn62, hGr65, _⟩
 rw [hHas.eq]; clear hHas
 exact hK60 _ _ _<|wpc_region<|mv z<|q_add z z<|asn z<|nl<|have hI109:=Hp.rwUp hI69 0 z hGr65;ih _ _ _ _ H G66 _ _ _ (gT hG51 hG67) ⟨z, z, z, z, z, tv⟩ hI109 hn62 gR z
 refine nK h58 H fun H=>wf (bN h58)<|wx<|have hI110:=Hp.rwUp hI53 0 z hGr29;?_
 cases H
 exact ⟨z, G50, _, z, hG51, ⟨z, z, z, tv⟩, hI110, hn25, gR, tv⟩
 rintro e r ds wd47 ⟨rfl, Gr43, G45, rfl, hG46, hHas, hI48, hn42, hGr44, _⟩
 rw [hHas.eq]; clear hHas
 refine hK17 _ _ _<|sQ fun K111 hK112=>sr fun K113 hK114=>asn z<|nl<|hK114 _ _ _<|wb<|bK H fun v134 hC H=>wpc_mono (Q := fun e r ds w => e = .exit 3 ∧ ∃ (Gr136 : Gh) (G138 : Gh), ds = [] ∧ G45 ≤ G138 ∧ Has [(5, slice (some ⟨g9, 0, none⟩) n10 n10)] r ∧ Hp G138 (rwI Gr136 (Kd.int .i64) (some ⟨g9, 0, none⟩) [] v134 [] n10 3 :: L) w ∧ v134.length = n10 ∧ Gr136 ≤ G138 ∧ True) ?_ ?_
 refine have hI618:=Hp.rwUp hI48 0 z hGr44;wpc_loop fun I hLp=>?_
 refine formeref09_directions_l133.partial_correctness a1 a2 (fun v119 v121 o => ∀ (Gr122 : Gh) (G143 : Gh) (r : Rg) (w : World), G45 ≤ G143 → Has [(0, string a1), (1, int .i64 a2), (5, slice (some ⟨g9, 0, none⟩) n10 n10), (8, int .i64 v121)] r → Hp G143 (rwI Gr122 (Kd.int .i64) (some ⟨g9, 0, none⟩) [] v119 [] n10 3 :: L) w → v119.length = n10 → Gr122 ≤ G143 → o = v134 → I r [] w) ?_ v41 0 _ hC G45 _ _ _ gR ⟨rfl, rfl, rfl, rfl, tv⟩ hI618 hn42 gR rfl
 intro _ ih v119 v121 o H Gr122 G143 r wd145 hG144 hHas hI146 hn120 hGr123 ho
 rw [ho] at H; clear ho
 rw [hHas.eq]; clear hHas
 refine hLp _ _ _<|sQ fun K147 hK148=>sr fun K149 hK150=>mv z<|mv z<|q_lens so9 z<|q_lss z z<|nl<|hK150 _ _ _<|dC (v121 < (a1.size : Int)) (fun h151=>?_) fun h151=>?_
 refine yK h151 H fun H=>wt (bY h151)<|ws<|hK148 _ _ _<|sQ fun K152 hK153=>bK H fun v154 hC H=>?_
 refine wpc_mono (Q := fun e r ds w => e = .normal ∧ ∃ (Gr156 : Gh) (G158 : Gh), ds = [] ∧ G143 ≤ G158 ∧ Has [(0, string a1), (1, int .i64 a2), (5, slice (some ⟨g9, 0, none⟩) n10 n10), (8, int .i64 v121)] r ∧ Hp G158 (rwI Gr156 (Kd.int .i64) (some ⟨g9, 0, none⟩) [] v154 [] n10 3 :: L) w ∧ v154.length = n10 ∧ Gr156 ≤ G158 ∧ True) ?_ ?_
 refine have H:=hC;wb<|sQ fun K163 hK164=>sr fun K165 hK166=>mv z<|mv z<|iK H fun⟨h167, h167'⟩H=>q_is so9 z z h167 h167' z<|bK H fun y173 hy168 H=>cv bo149 (formeref09_Neutral_spec hy168 hI146) z z fun wd171 hI172=>q_not z<|mv z<|bK H fun v174 hC H=>js 10 hI172 [(0, string a1), (1, int .i64 a2), (5, slice (some ⟨g9, 0, none⟩) n10 n10), (8, int .i64 v121), (56, bool v174)] ?_ fun _ wd177 hI178=>?_
 refine have H:=hC;dC ((!y173) = true) (fun h180=>?_) fun h180=>?_
 refine yK h180 H fun H=>Sk 3 z z (vY h180) z<|Su 5 z<|wN (gN z z z (vY h180) z)<|pkt (vY h180) z<|nl<|?_
 cases H
 exact je ⟨z, z, z, z, z, tv⟩ hI172
 refine nK h180 H fun H=>mv (hw:=gY z z z (vN h180)) z<|q_gtr (hw:=gY z z z (vN h180)) z z<|mv (hw:=gY z z z (vN h180)) z<|bK H fun v181 hC H=>js 6 hI172 [(0, string a1), (1, int .i64 a2), (5, slice (some ⟨g9, 0, none⟩) n10 n10), (8, int .i64 v121), (46, bool (!y173)), (47, int .i64 v121), (48, bool (decide (0 < v121))), (49, bool (decide (0 < v121))), (55, bool v181)] ?_ fun _ wd184 hI185=>?_
 refine have H:=hC;dC (0 < v121) (fun h187=>?_) fun h187=>?_
 refine yK h187 H fun H=>mv (hw:=gY z z z (bY h187)) z<|mv (hw:=gY z z z (bY h187)) z<|q_sub (hw:=gY z z z (bY h187)) z z<|iK H fun⟨h188, h188'⟩H=>q_is (hw:=gY z z z (bY h187)) so9 z z h188 h188' z<|bK H fun y194 hy189 H=>cv (hw:=gY z z z (bY h187)) bo149 (formeref09_Neutral_spec hy189 hI172) z z fun wd192 hI193=>pkt (hw:=gY z z z (vN h180)) (bY h187) z<|nl<|?_
 cases H
 exact je ⟨z, z, z, z, z, z, z, z, z, tv⟩ hI193
 refine nK h187 H fun H=>Sk 5 z z (bN h187) z<|pkf (hw:=gY z z z (vN h180)) (bN h187) z<|nl<|?_
 cases H
 exact je ⟨z, z, z, z, z, z, z, z, z, tv⟩ hI172
 refine pkf (vN h180) z<|nl<|?_
 cases H
 exact je ⟨z, z, z, z, z, tv⟩ hI185
 refine nl<|hK166 _ _ _<|dC (v174 = true) (fun h195=>?_) fun h195=>?_
 refine yK h195 H fun H=>wt (vY h195)<|wx<|have hI196:=Hp.rwUp hI178 0 z hGr123;?_
 cases H
 exact ⟨z, G143, _, z, gR, ⟨z, z, z, z, tv⟩, hI196, hn120, gR, tv⟩
 refine nK h195 H fun H=>wf (vN h195)<|ws<|hK164 _ _ _<|sr fun K197 hK198=>mv z<|asn z<|nl<|hK198 _ _ _<|sQ fun K199 hK200=>sr fun K201 hK202=>mv z<|q_gtr z z<|nl<|?_
 refine hK202 _ _ _<|dC (0 < v121) (fun h203=>?_) fun h203=>?_
 refine yK h203 H fun H=>wt (bY h203)<|wpc_region<|mv z<|mv z<|q_sub z z<|iK H fun⟨h204, h204'⟩H=>have hb205:=lt_n hn13 h204';?_
 obtain ⟨ad206, hA207⟩ := Mw.ad (Mw.new (α := Int) g9 n10 1) h204 hb205
 refine q_ia el29 z hA207 z h204 hb205<|?_
 obtain ⟨_, rfl, _, hc209⟩ := Hp.rwGet hI178 0 rfl (Mw.new (α := Int) g9 n10 1) hn120 hA207 (0 : Int) h204 hb205
 refine q_load1 (v := int .i64 (v119.getD (Int.toNat (w64 (v121 - 1))) (0 : Int))) ag3 z (cell0 (hc209 0 _ z))<|asn z<|nl<|hK200 _ _ _<|sr fun K210 hK211=>mv z<|asn z<|nl<|hK211 _ _ _<|sQ fun K212 hK213=>wb<|bK H fun v225 hC H=>?_
 refine wpc_mono (Q := fun e r ds w => e = .exit 5 ∧ ds = [] ∧ Has [(0, string a1), (1, int .i64 a2), (5, slice (some ⟨g9, 0, none⟩) n10 n10), (8, int .i64 v121), (9, int .i64 (v119.getD (Int.toNat (w64 (v121 - 1))) (0 : Int))), (10, int .i64 v225)] r ∧ Hp G143 (rwI Gr122 (Kd.int .i64) (some ⟨g9, 0, none⟩) [] v119 [] n10 3 :: L) w ∧ True) ?_ ?_
 refine wpc_loop fun I hLp=>?_
 refine formeref09_directions_l224.partial_correctness a1 (fun v218 o => ∀ (r : Rg) (w : World), Has [(0, string a1), (1, int .i64 a2), (5, slice (some ⟨g9, 0, none⟩) n10 n10), (8, int .i64 v121), (9, int .i64 (v119.getD (Int.toNat (w64 (v121 - 1))) (0 : Int))), (10, int .i64 v218)] r → Hp G143 (rwI Gr122 (Kd.int .i64) (some ⟨g9, 0, none⟩) [] v119 [] n10 3 :: L) w → o = v225 → I r [] w) ?_ v121 _ hC _ _ ⟨rfl, rfl, rfl, rfl, rfl, rfl, tv⟩ hI178 rfl
 intro _ ih v218 o H r wd233 hHas hI234 ho
 rw [ho] at H; clear ho
 rw [hHas.eq]; clear hHas
 refine hLp _ _ _<|sQ fun K235 hK236=>sr fun K237 hK238=>mv z<|mv z<|q_lens so9 z<|q_lss z z<|mv z<|bK H fun v239 hC H=>js 5 hI234 [(0, string a1), (1, int .i64 a2), (5, slice (some ⟨g9, 0, none⟩) n10 n10), (8, int .i64 v121), (9, int .i64 (v119.getD (Int.toNat (w64 (v121 - 1))) (0 : Int))), (10, int .i64 v218), (75, bool v239)] ?_ fun _ wd242 hI243=>?_
 refine have H:=hC;dC (v218 < (a1.size : Int)) (fun h245=>?_) fun h245=>?_
 refine yK h245 H fun H=>mv (hw:=gY z z z (bY h245)) z<|mv (hw:=gY z z z (bY h245)) z<|iK H fun⟨h246, h246'⟩H=>q_is (hw:=gY z z z (bY h245)) so9 z z h246 h246' z<|bK H fun y252 hy247 H=>cv (hw:=gY z z z (bY h245)) bo149 (formeref09_Neutral_spec hy247 hI234) z z fun wd250 hI251=>pkt (bY h245) z<|nl<|?_
 cases H
 exact je ⟨z, z, z, z, z, z, z, tv⟩ hI251
 refine nK h245 H fun H=>Sk 4 z z (bN h245) z<|pkf (bN h245) z<|nl<|?_
 cases H
 exact je ⟨z, z, z, z, z, z, z, tv⟩ hI234
 refine nl<|hK238 _ _ _<|dC (v239 = true) (fun h253=>?_) fun h253=>?_
 exact yK h253 H fun H=>wt (vY h253)<|ws<|hK236 _ _ _<|wb<|wpc_region<|mv z<|q_add z z<|asn z<|nl<|ih _ _ H _ _ ⟨z, z, z, z, z, z, tv⟩ hI243 z
 refine nK h253 H fun H=>wf (vN h253)<|wx<|?_
 cases H
 exact ⟨z, z, ⟨z, z, z, z, z, z, tv⟩, hI243, tv⟩
 rintro e r ds wd228 ⟨rfl, rfl, hHas, hI229, _⟩
 rw [hHas.eq]; clear hHas
 refine hK213 _ _ _<|sr fun K254 hK255=>mv z<|asn z<|nl<|hK255 _ _ _<|sQ fun K256 hK257=>sr fun K258 hK259=>mv z<|mv z<|q_lens so9 z<|q_lss z z<|nl<|hK259 _ _ _<|?_
 refine dC (v225 < (a1.size : Int)) (fun h260=>?_) fun h260=>?_
 refine yK h260 H fun H=>wt (bY h260)<|wpc_region<|mv z<|mv z<|iK H fun⟨h261, h261'⟩H=>have hb262:=lt_n hn13 h261';?_
 obtain ⟨ad263, hA264⟩ := Mw.ad (Mw.new (α := Int) g9 n10 1) h261 hb262
 refine q_ia el29 z hA264 z h261 hb262<|?_
 obtain ⟨_, rfl, _, hc266⟩ := Hp.rwGet hI229 0 rfl (Mw.new (α := Int) g9 n10 1) hn120 hA264 (0 : Int) h261 hb262
 refine q_load1 (v := int .i64 (v119.getD (Int.toNat v225) (0 : Int))) ag3 z (cell0 (hc266 0 _ z))<|asn z<|nl<|hK257 _ _ _<|sr fun K267 hK268=>mv z<|asn z<|nl<|hK268 _ _ _<|wb<|bK H fun v288 hC H=>?_
 refine wpc_mono (Q := fun e r ds w => e = .exit 7 ∧ ∃ (Gr290 : Gh) (G292 : Gh), ds = [] ∧ G143 ≤ G292 ∧ Has [(0, string a1), (1, int .i64 a2), (5, slice (some ⟨g9, 0, none⟩) n10 n10), (8, int .i64 v121)] r ∧ Hp G292 (rwI Gr290 (Kd.int .i64) (some ⟨g9, 0, none⟩) [] v288 [] n10 3 :: L) w ∧ v288.length = n10 ∧ Gr290 ≤ G292 ∧ True) ?_ ?_
 refine have hI338:=Hp.rwUp hI229 0 z hGr123;wpc_loop fun I hLp=>?_
 refine formeref09_directions_l287.partial_correctness a1 a2 v119 v121 v225 (fun v273 v275 o => ∀ (Gr276 : Gh) (G297 : Gh) (r : Rg) (w : World), G143 ≤ G297 → Has [(0, string a1), (1, int .i64 a2), (5, slice (some ⟨g9, 0, none⟩) n10 n10), (8, int .i64 v121), (9, int .i64 (v119.getD (Int.toNat (w64 (v121 - 1))) (0 : Int))), (10, int .i64 v225), (11, int .i64 (v119.getD (Int.toNat v225) (0 : Int))), (12, int .i64 v275)] r → Hp G297 (rwI Gr276 (Kd.int .i64) (some ⟨g9, 0, none⟩) [] v273 [] n10 3 :: L) w → v273.length = n10 → Gr276 ≤ G297 → o = v288 → I r [] w) ?_ v119 v121 _ hC G143 _ _ _ gR ⟨rfl, rfl, rfl, rfl, rfl, rfl, rfl, rfl, tv⟩ hI338 hn120 gR rfl
 intro _ ih v273 v275 o H Gr276 G297 r wd299 hG298 hHas hI300 hn274 hGr277 ho
 rw [ho] at H; clear ho
 rw [hHas.eq]; clear hHas
 refine hLp _ _ _<|sQ fun K301 hK302=>sr fun K303 hK304=>mv z<|mv z<|q_lss z z<|nl<|hK304 _ _ _<|dC (v275 < v225) (fun h305=>?_) fun h305=>?_
 refine yK h305 H fun H=>wt (bY h305)<|ws<|hK302 _ _ _<|sQ fun K306 hK307=>bK H fun v308 hC H=>?_
 refine wpc_mono (Q := fun e r ds w => e = .normal ∧ ∃ (Gr310 : Gh) (G312 : Gh), ds = [] ∧ G297 ≤ G312 ∧ Has [(0, string a1), (1, int .i64 a2), (5, slice (some ⟨g9, 0, none⟩) n10 n10), (8, int .i64 v121), (9, int .i64 (v119.getD (Int.toNat (w64 (v121 - 1))) (0 : Int))), (10, int .i64 v225), (11, int .i64 (v119.getD (Int.toNat v225) (0 : Int))), (12, int .i64 v275)] r ∧ Hp G312 (rwI Gr310 (Kd.int .i64) (some ⟨g9, 0, none⟩) [] v308 [] n10 3 :: L) w ∧ v308.length = n10 ∧ Gr310 ≤ G312 ∧ True) ?_ ?_
 refine have H:=hC;wb<|sr fun K317 hK318=>mv z<|mv z<|mv z<|iK H fun⟨h319, h319'⟩H=>have hb320:=lt_n hn13 h319';?_
 obtain ⟨ad321, hA322⟩ := Mw.ad (Mw.new (α := Int) g9 n10 1) h319 hb320
 refine q_ia el29 z hA322 z h319 hb320<|q_stm (kd := (Kd.int .i64)) hI300 0 (v := int .i64 a2) (news := [int .i64 a2]) (0 : Int) a2 ag3 z (Mw.new (α := Int) g9 n10 1) hn274 hA322 h319 hb320 (add_zero' _) z z z z z (Nat.le_of_ble_eq_true z) gR (fun _ ho => setAll_K ho z z) fun wd323 hI324=>nl<|hK318 _ _ _<|sr fun K325 hK326=>mv z<|mv z<|q_eql z z<|nl<|hK326 _ _ _<|dC ((v119.getD (Int.toNat (w64 (v121 - 1))) (0 : Int)) = (v119.getD (Int.toNat v225) (0 : Int))) (fun h327=>?_) fun h327=>?_
 refine yK h327 H fun H=>wt (bY h327)<|wpc_region<|mv z<|mv z<|mv z<|iK H fun⟨h328, h328'⟩H=>have hb329:=lt_n hn13 h328';?_
 obtain ⟨ad330, hA331⟩ := Mw.ad (Mw.new (α := Int) g9 n10 1) h328 hb329
 refine q_ia el29 z hA331 z h328 hb329<|q_stm (kd := (Kd.int .i64)) hI324 0 (v := int .i64 (v119.getD (Int.toNat (w64 (v121 - 1))) (0 : Int))) (news := [int .i64 (v119.getD (Int.toNat (w64 (v121 - 1))) (0 : Int))]) (0 : Int) (v119.getD (Int.toNat (w64 (v121 - 1))) (0 : Int)) ag3 z (Mw.new (α := Int) g9 n10 1) (set_len hn274) hA331 h328 hb329 (add_zero' _) z z z z z (Nat.le_of_ble_eq_true z) gR (fun _ ho => setAll_K ho z z) fun wd332 hI333=>nl<|have hI334:=Hp.rwUp hI333 0 z hGr277;?_
 cases H
 exact ⟨z, G297, _, z, gR, ⟨z, z, z, z, z, z, z, z, tv⟩, hI334, (set_len (set_len hn274)), gR, tv⟩
 refine nK h327 H fun H=>wf (bN h327)<|ws<|have hI335:=Hp.rwUp hI324 0 z hGr277;?_
 cases H
 exact ⟨z, G297, _, z, gR, ⟨z, z, z, z, z, z, z, z, tv⟩, hI335, (set_len hn274), gR, tv⟩
 rintro e r ds wd314 ⟨rfl, Gr310, G312, rfl, hG313, hHas, hI315, hn309, hGr311, _⟩
 rw [hHas.eq]; clear hHas
 exact hK307 _ _ _<|wpc_region<|mv z<|q_add z z<|asn z<|nl<|have hI336:=Hp.rwUp hI315 0 z hGr311;ih _ _ _ H G312 _ _ _ (gT hG298 hG313) ⟨z, z, z, z, z, z, z, z, tv⟩ hI336 hn309 gR z
 refine nK h305 H fun H=>wf (bN h305)<|wx<|have hI337:=Hp.rwUp hI300 0 z hGr277;?_
 cases H
 exact ⟨z, G297, _, z, hG298, ⟨z, z, z, z, tv⟩, hI337, hn274, gR, tv⟩
 rintro e r ds wd294 ⟨rfl, Gr290, G292, rfl, hG293, hHas, hI295, hn289, hGr291, _⟩
 rw [hHas.eq]; clear hHas
 refine have hI339:=Hp.rwUp hI295 0 z hGr291;?_
 cases H
 exact ⟨z, G292, _, z, hG293, ⟨z, z, z, z, tv⟩, hI339, hn289, gR, tv⟩
 refine nK h260 H fun H=>wf (bN h260)<|ws<|hK257 _ _ _<|sr fun K340 hK341=>mv z<|asn z<|nl<|hK341 _ _ _<|wb<|bK H fun v361 hC H=>?_
 refine wpc_mono (Q := fun e r ds w => e = .exit 7 ∧ ∃ (Gr363 : Gh) (G365 : Gh), ds = [] ∧ G143 ≤ G365 ∧ Has [(0, string a1), (1, int .i64 a2), (5, slice (some ⟨g9, 0, none⟩) n10 n10), (8, int .i64 v121)] r ∧ Hp G365 (rwI Gr363 (Kd.int .i64) (some ⟨g9, 0, none⟩) [] v361 [] n10 3 :: L) w ∧ v361.length = n10 ∧ Gr363 ≤ G365 ∧ True) ?_ ?_
 refine have hI411:=Hp.rwUp hI229 0 z hGr123;wpc_loop fun I hLp=>?_
 refine formeref09_directions_l360.partial_correctness a1 a2 v119 v121 v225 (fun v346 v348 o => ∀ (Gr349 : Gh) (G370 : Gh) (r : Rg) (w : World), G143 ≤ G370 → Has [(0, string a1), (1, int .i64 a2), (5, slice (some ⟨g9, 0, none⟩) n10 n10), (8, int .i64 v121), (9, int .i64 (v119.getD (Int.toNat (w64 (v121 - 1))) (0 : Int))), (10, int .i64 v225), (11, int .i64 a2), (12, int .i64 v348)] r → Hp G370 (rwI Gr349 (Kd.int .i64) (some ⟨g9, 0, none⟩) [] v346 [] n10 3 :: L) w → v346.length = n10 → Gr349 ≤ G370 → o = v361 → I r [] w) ?_ v119 v121 _ hC G143 _ _ _ gR ⟨rfl, rfl, rfl, rfl, rfl, rfl, rfl, rfl, tv⟩ hI411 hn120 gR rfl
 intro _ ih v346 v348 o H Gr349 G370 r wd372 hG371 hHas hI373 hn347 hGr350 ho
 rw [ho] at H; clear ho
 rw [hHas.eq]; clear hHas
 refine hLp _ _ _<|sQ fun K374 hK375=>sr fun K376 hK377=>mv z<|mv z<|q_lss z z<|nl<|hK377 _ _ _<|dC (v348 < v225) (fun h378=>?_) fun h378=>?_
 refine yK h378 H fun H=>wt (bY h378)<|ws<|hK375 _ _ _<|sQ fun K379 hK380=>bK H fun v381 hC H=>?_
 refine wpc_mono (Q := fun e r ds w => e = .normal ∧ ∃ (Gr383 : Gh) (G385 : Gh), ds = [] ∧ G370 ≤ G385 ∧ Has [(0, string a1), (1, int .i64 a2), (5, slice (some ⟨g9, 0, none⟩) n10 n10), (8, int .i64 v121), (9, int .i64 (v119.getD (Int.toNat (w64 (v121 - 1))) (0 : Int))), (10, int .i64 v225), (11, int .i64 a2), (12, int .i64 v348)] r ∧ Hp G385 (rwI Gr383 (Kd.int .i64) (some ⟨g9, 0, none⟩) [] v381 [] n10 3 :: L) w ∧ v381.length = n10 ∧ Gr383 ≤ G385 ∧ True) ?_ ?_
 refine have H:=hC;wb<|sr fun K390 hK391=>mv z<|mv z<|mv z<|iK H fun⟨h392, h392'⟩H=>have hb393:=lt_n hn13 h392';?_
 obtain ⟨ad394, hA395⟩ := Mw.ad (Mw.new (α := Int) g9 n10 1) h392 hb393
 refine q_ia el29 z hA395 z h392 hb393<|q_stm (kd := (Kd.int .i64)) hI373 0 (v := int .i64 a2) (news := [int .i64 a2]) (0 : Int) a2 ag3 z (Mw.new (α := Int) g9 n10 1) hn347 hA395 h392 hb393 (add_zero' _) z z z z z (Nat.le_of_ble_eq_true z) gR (fun _ ho => setAll_K ho z z) fun wd396 hI397=>nl<|hK391 _ _ _<|sr fun K398 hK399=>mv z<|mv z<|q_eql z z<|nl<|hK399 _ _ _<|dC ((v119.getD (Int.toNat (w64 (v121 - 1))) (0 : Int)) = a2) (fun h400=>?_) fun h400=>?_
 refine yK h400 H fun H=>wt (bY h400)<|wpc_region<|mv z<|mv z<|mv z<|iK H fun⟨h401, h401'⟩H=>have hb402:=lt_n hn13 h401';?_
 obtain ⟨ad403, hA404⟩ := Mw.ad (Mw.new (α := Int) g9 n10 1) h401 hb402
 refine q_ia el29 z hA404 z h401 hb402<|q_stm (kd := (Kd.int .i64)) hI397 0 (v := int .i64 (v119.getD (Int.toNat (w64 (v121 - 1))) (0 : Int))) (news := [int .i64 (v119.getD (Int.toNat (w64 (v121 - 1))) (0 : Int))]) (0 : Int) (v119.getD (Int.toNat (w64 (v121 - 1))) (0 : Int)) ag3 z (Mw.new (α := Int) g9 n10 1) (set_len hn347) hA404 h401 hb402 (add_zero' _) z z z z z (Nat.le_of_ble_eq_true z) gR (fun _ ho => setAll_K ho z z) fun wd405 hI406=>nl<|have hI407:=Hp.rwUp hI406 0 z hGr350;?_
 cases H
 exact ⟨z, G370, _, z, gR, ⟨z, z, z, z, z, z, z, z, tv⟩, hI407, (set_len (set_len hn347)), gR, tv⟩
 refine nK h400 H fun H=>wf (bN h400)<|ws<|have hI408:=Hp.rwUp hI397 0 z hGr350;?_
 cases H
 exact ⟨z, G370, _, z, gR, ⟨z, z, z, z, z, z, z, z, tv⟩, hI408, (set_len hn347), gR, tv⟩
 rintro e r ds wd387 ⟨rfl, Gr383, G385, rfl, hG386, hHas, hI388, hn382, hGr384, _⟩
 rw [hHas.eq]; clear hHas
 exact hK380 _ _ _<|wpc_region<|mv z<|q_add z z<|asn z<|nl<|have hI409:=Hp.rwUp hI388 0 z hGr384;ih _ _ _ H G385 _ _ _ (gT hG371 hG386) ⟨z, z, z, z, z, z, z, z, tv⟩ hI409 hn382 gR z
 refine nK h378 H fun H=>wf (bN h378)<|wx<|have hI410:=Hp.rwUp hI373 0 z hGr350;?_
 cases H
 exact ⟨z, G370, _, z, hG371, ⟨z, z, z, z, tv⟩, hI410, hn347, gR, tv⟩
 rintro e r ds wd367 ⟨rfl, Gr363, G365, rfl, hG366, hHas, hI368, hn362, hGr364, _⟩
 rw [hHas.eq]; clear hHas
 refine have hI412:=Hp.rwUp hI368 0 z hGr364;?_
 cases H
 exact ⟨z, G365, _, z, hG366, ⟨z, z, z, z, tv⟩, hI412, hn362, gR, tv⟩
 refine nK h203 H fun H=>wf (bN h203)<|ws<|hK200 _ _ _<|sr fun K413 hK414=>mv z<|asn z<|nl<|hK414 _ _ _<|sQ fun K415 hK416=>wb<|bK H fun v428 hC H=>wpc_mono (Q := fun e r ds w => e = .exit 5 ∧ ds = [] ∧ Has [(0, string a1), (1, int .i64 a2), (5, slice (some ⟨g9, 0, none⟩) n10 n10), (8, int .i64 v121), (9, int .i64 a2), (10, int .i64 v428)] r ∧ Hp G143 (rwI Gr122 (Kd.int .i64) (some ⟨g9, 0, none⟩) [] v119 [] n10 3 :: L) w ∧ True) ?_ ?_
 refine wpc_loop fun I hLp=>?_
 refine formeref09_directions_l427.partial_correctness a1 (fun v421 o => ∀ (r : Rg) (w : World), Has [(0, string a1), (1, int .i64 a2), (5, slice (some ⟨g9, 0, none⟩) n10 n10), (8, int .i64 v121), (9, int .i64 a2), (10, int .i64 v421)] r → Hp G143 (rwI Gr122 (Kd.int .i64) (some ⟨g9, 0, none⟩) [] v119 [] n10 3 :: L) w → o = v428 → I r [] w) ?_ v121 _ hC _ _ ⟨rfl, rfl, rfl, rfl, rfl, rfl, tv⟩ hI178 rfl
 intro _ ih v421 o H r wd436 hHas hI437 ho
 rw [ho] at H; clear ho
 rw [hHas.eq]; clear hHas
 refine hLp _ _ _<|sQ fun K438 hK439=>sr fun K440 hK441=>mv z<|mv z<|q_lens so9 z<|q_lss z z<|mv z<|bK H fun v442 hC H=>js 5 hI437 [(0, string a1), (1, int .i64 a2), (5, slice (some ⟨g9, 0, none⟩) n10 n10), (8, int .i64 v121), (9, int .i64 a2), (10, int .i64 v421), (75, bool v442)] ?_ fun _ wd445 hI446=>?_
 refine have H:=hC;dC (v421 < (a1.size : Int)) (fun h448=>?_) fun h448=>?_
 refine yK h448 H fun H=>mv (hw:=gY z z z (bY h448)) z<|mv (hw:=gY z z z (bY h448)) z<|iK H fun⟨h449, h449'⟩H=>q_is (hw:=gY z z z (bY h448)) so9 z z h449 h449' z<|bK H fun y455 hy450 H=>cv (hw:=gY z z z (bY h448)) bo149 (formeref09_Neutral_spec hy450 hI437) z z fun wd453 hI454=>pkt (bY h448) z<|nl<|?_
 cases H
 exact je ⟨z, z, z, z, z, z, z, tv⟩ hI454
 refine nK h448 H fun H=>Sk 4 z z (bN h448) z<|pkf (bN h448) z<|nl<|?_
 cases H
 exact je ⟨z, z, z, z, z, z, z, tv⟩ hI437
 refine nl<|hK441 _ _ _<|dC (v442 = true) (fun h456=>?_) fun h456=>?_
 exact yK h456 H fun H=>wt (vY h456)<|ws<|hK439 _ _ _<|wb<|wpc_region<|mv z<|q_add z z<|asn z<|nl<|ih _ _ H _ _ ⟨z, z, z, z, z, z, tv⟩ hI446 z
 refine nK h456 H fun H=>wf (vN h456)<|wx<|?_
 cases H
 exact ⟨z, z, ⟨z, z, z, z, z, z, tv⟩, hI446, tv⟩
 rintro e r ds wd431 ⟨rfl, rfl, hHas, hI432, _⟩
 rw [hHas.eq]; clear hHas
 refine hK416 _ _ _<|sr fun K457 hK458=>mv z<|asn z<|nl<|hK458 _ _ _<|sQ fun K459 hK460=>sr fun K461 hK462=>mv z<|mv z<|q_lens so9 z<|q_lss z z<|nl<|hK462 _ _ _<|?_
 refine dC (v428 < (a1.size : Int)) (fun h463=>?_) fun h463=>?_
 refine yK h463 H fun H=>wt (bY h463)<|wpc_region<|mv z<|mv z<|iK H fun⟨h464, h464'⟩H=>have hb465:=lt_n hn13 h464';?_
 obtain ⟨ad466, hA467⟩ := Mw.ad (Mw.new (α := Int) g9 n10 1) h464 hb465
 refine q_ia el29 z hA467 z h464 hb465<|?_
 obtain ⟨_, rfl, _, hc469⟩ := Hp.rwGet hI432 0 rfl (Mw.new (α := Int) g9 n10 1) hn120 hA467 (0 : Int) h464 hb465
 refine q_load1 (v := int .i64 (v119.getD (Int.toNat v428) (0 : Int))) ag3 z (cell0 (hc469 0 _ z))<|asn z<|nl<|hK460 _ _ _<|sr fun K470 hK471=>mv z<|asn z<|nl<|hK471 _ _ _<|wb<|bK H fun v491 hC H=>?_
 refine wpc_mono (Q := fun e r ds w => e = .exit 7 ∧ ∃ (Gr493 : Gh) (G495 : Gh), ds = [] ∧ G143 ≤ G495 ∧ Has [(0, string a1), (1, int .i64 a2), (5, slice (some ⟨g9, 0, none⟩) n10 n10), (8, int .i64 v121)] r ∧ Hp G495 (rwI Gr493 (Kd.int .i64) (some ⟨g9, 0, none⟩) [] v491 [] n10 3 :: L) w ∧ v491.length = n10 ∧ Gr493 ≤ G495 ∧ True) ?_ ?_
 refine have hI541:=Hp.rwUp hI432 0 z hGr123;wpc_loop fun I hLp=>?_
 refine formeref09_directions_l490.partial_correctness a1 a2 v119 v428 (fun v476 v478 o => ∀ (Gr479 : Gh) (G500 : Gh) (r : Rg) (w : World), G143 ≤ G500 → Has [(0, string a1), (1, int .i64 a2), (5, slice (some ⟨g9, 0, none⟩) n10 n10), (8, int .i64 v121), (9, int .i64 a2), (10, int .i64 v428), (11, int .i64 (v119.getD (Int.toNat v428) (0 : Int))), (12, int .i64 v478)] r → Hp G500 (rwI Gr479 (Kd.int .i64) (some ⟨g9, 0, none⟩) [] v476 [] n10 3 :: L) w → v476.length = n10 → Gr479 ≤ G500 → o = v491 → I r [] w) ?_ v119 v121 _ hC G143 _ _ _ gR ⟨rfl, rfl, rfl, rfl, rfl, rfl, rfl, rfl, tv⟩ hI541 hn120 gR rfl
 intro _ ih v476 v478 o H Gr479 G500 r wd502 hG501 hHas hI503 hn477 hGr480 ho
 rw [ho] at H; clear ho
 rw [hHas.eq]; clear hHas
 refine hLp _ _ _<|sQ fun K504 hK505=>sr fun K506 hK507=>mv z<|mv z<|q_lss z z<|nl<|hK507 _ _ _<|dC (v478 < v428) (fun h508=>?_) fun h508=>?_
 refine yK h508 H fun H=>wt (bY h508)<|ws<|hK505 _ _ _<|sQ fun K509 hK510=>bK H fun v511 hC H=>?_
 refine wpc_mono (Q := fun e r ds w => e = .normal ∧ ∃ (Gr513 : Gh) (G515 : Gh), ds = [] ∧ G500 ≤ G515 ∧ Has [(0, string a1), (1, int .i64 a2), (5, slice (some ⟨g9, 0, none⟩) n10 n10), (8, int .i64 v121), (9, int .i64 a2), (10, int .i64 v428), (11, int .i64 (v119.getD (Int.toNat v428) (0 : Int))), (12, int .i64 v478)] r ∧ Hp G515 (rwI Gr513 (Kd.int .i64) (some ⟨g9, 0, none⟩) [] v511 [] n10 3 :: L) w ∧ v511.length = n10 ∧ Gr513 ≤ G515 ∧ True) ?_ ?_
 refine have H:=hC;wb<|sr fun K520 hK521=>mv z<|mv z<|mv z<|iK H fun⟨h522, h522'⟩H=>have hb523:=lt_n hn13 h522';?_
 obtain ⟨ad524, hA525⟩ := Mw.ad (Mw.new (α := Int) g9 n10 1) h522 hb523
 refine q_ia el29 z hA525 z h522 hb523<|q_stm (kd := (Kd.int .i64)) hI503 0 (v := int .i64 a2) (news := [int .i64 a2]) (0 : Int) a2 ag3 z (Mw.new (α := Int) g9 n10 1) hn477 hA525 h522 hb523 (add_zero' _) z z z z z (Nat.le_of_ble_eq_true z) gR (fun _ ho => setAll_K ho z z) fun wd526 hI527=>nl<|hK521 _ _ _<|sr fun K528 hK529=>mv z<|mv z<|q_eql z z<|nl<|hK529 _ _ _<|dC (a2 = (v119.getD (Int.toNat v428) (0 : Int))) (fun h530=>?_) fun h530=>?_
 refine yK h530 H fun H=>wt (bY h530)<|wpc_region<|mv z<|mv z<|mv z<|iK H fun⟨h531, h531'⟩H=>have hb532:=lt_n hn13 h531';?_
 obtain ⟨ad533, hA534⟩ := Mw.ad (Mw.new (α := Int) g9 n10 1) h531 hb532
 refine q_ia el29 z hA534 z h531 hb532<|q_stm (kd := (Kd.int .i64)) hI527 0 (v := int .i64 a2) (news := [int .i64 a2]) (0 : Int) a2 ag3 z (Mw.new (α := Int) g9 n10 1) (set_len hn477) hA534 h531 hb532 (add_zero' _) z z z z z (Nat.le_of_ble_eq_true z) gR (fun _ ho => setAll_K ho z z) fun wd535 hI536=>nl<|have hI537:=Hp.rwUp hI536 0 z hGr480;?_
 cases H
 exact ⟨z, G500, _, z, gR, ⟨z, z, z, z, z, z, z, z, tv⟩, hI537, (set_len (set_len hn477)), gR, tv⟩
 refine nK h530 H fun H=>wf (bN h530)<|ws<|have hI538:=Hp.rwUp hI527 0 z hGr480;?_
 cases H
 exact ⟨z, G500, _, z, gR, ⟨z, z, z, z, z, z, z, z, tv⟩, hI538, (set_len hn477), gR, tv⟩
 rintro e r ds wd517 ⟨rfl, Gr513, G515, rfl, hG516, hHas, hI518, hn512, hGr514, _⟩
 rw [hHas.eq]; clear hHas
 exact hK510 _ _ _<|wpc_region<|mv z<|q_add z z<|asn z<|nl<|have hI539:=Hp.rwUp hI518 0 z hGr514;ih _ _ _ H G515 _ _ _ (gT hG501 hG516) ⟨z, z, z, z, z, z, z, z, tv⟩ hI539 hn512 gR z
 refine nK h508 H fun H=>wf (bN h508)<|wx<|have hI540:=Hp.rwUp hI503 0 z hGr480;?_
 cases H
 exact ⟨z, G500, _, z, hG501, ⟨z, z, z, z, tv⟩, hI540, hn477, gR, tv⟩
 rintro e r ds wd497 ⟨rfl, Gr493, G495, rfl, hG496, hHas, hI498, hn492, hGr494, _⟩
 rw [hHas.eq]; clear hHas
 refine have hI542:=Hp.rwUp hI498 0 z hGr494;?_
 cases H
 exact ⟨z, G495, _, z, hG496, ⟨z, z, z, z, tv⟩, hI542, hn492, gR, tv⟩
 refine nK h463 H fun H=>wf (bN h463)<|ws<|hK460 _ _ _<|sr fun K543 hK544=>mv z<|asn z<|nl<|hK544 _ _ _<|wb<|bK H fun v564 hC H=>?_
 refine wpc_mono (Q := fun e r ds w => e = .exit 7 ∧ ∃ (Gr566 : Gh) (G568 : Gh), ds = [] ∧ G143 ≤ G568 ∧ Has [(0, string a1), (1, int .i64 a2), (5, slice (some ⟨g9, 0, none⟩) n10 n10), (8, int .i64 v121)] r ∧ Hp G568 (rwI Gr566 (Kd.int .i64) (some ⟨g9, 0, none⟩) [] v564 [] n10 3 :: L) w ∧ v564.length = n10 ∧ Gr566 ≤ G568 ∧ True) ?_ ?_
 refine have hI614:=Hp.rwUp hI432 0 z hGr123;wpc_loop fun I hLp=>?_
 refine formeref09_directions_l563.partial_correctness a1 a2 v428 (fun v549 v551 o => ∀ (Gr552 : Gh) (G573 : Gh) (r : Rg) (w : World), G143 ≤ G573 → Has [(0, string a1), (1, int .i64 a2), (5, slice (some ⟨g9, 0, none⟩) n10 n10), (8, int .i64 v121), (9, int .i64 a2), (10, int .i64 v428), (11, int .i64 a2), (12, int .i64 v551)] r → Hp G573 (rwI Gr552 (Kd.int .i64) (some ⟨g9, 0, none⟩) [] v549 [] n10 3 :: L) w → v549.length = n10 → Gr552 ≤ G573 → o = v564 → I r [] w) ?_ v119 v121 _ hC G143 _ _ _ gR ⟨rfl, rfl, rfl, rfl, rfl, rfl, rfl, rfl, tv⟩ hI614 hn120 gR rfl
 intro _ ih v549 v551 o H Gr552 G573 r wd575 hG574 hHas hI576 hn550 hGr553 ho
 rw [ho] at H; clear ho
 rw [hHas.eq]; clear hHas
 refine hLp _ _ _<|sQ fun K577 hK578=>sr fun K579 hK580=>mv z<|mv z<|q_lss z z<|nl<|hK580 _ _ _<|dC (v551 < v428) (fun h581=>?_) fun h581=>?_
 refine yK h581 H fun H=>wt (bY h581)<|ws<|hK578 _ _ _<|sQ fun K582 hK583=>bK H fun v584 hC H=>?_
 refine wpc_mono (Q := fun e r ds w => e = .normal ∧ ∃ (Gr586 : Gh) (G588 : Gh), ds = [] ∧ G573 ≤ G588 ∧ Has [(0, string a1), (1, int .i64 a2), (5, slice (some ⟨g9, 0, none⟩) n10 n10), (8, int .i64 v121), (9, int .i64 a2), (10, int .i64 v428), (11, int .i64 a2), (12, int .i64 v551)] r ∧ Hp G588 (rwI Gr586 (Kd.int .i64) (some ⟨g9, 0, none⟩) [] v584 [] n10 3 :: L) w ∧ v584.length = n10 ∧ Gr586 ≤ G588 ∧ True) ?_ ?_
 refine have H:=hC;wb<|sr fun K593 hK594=>mv z<|mv z<|mv z<|iK H fun⟨h595, h595'⟩H=>have hb596:=lt_n hn13 h595';?_
 obtain ⟨ad597, hA598⟩ := Mw.ad (Mw.new (α := Int) g9 n10 1) h595 hb596
 refine q_ia el29 z hA598 z h595 hb596<|q_stm (kd := (Kd.int .i64)) hI576 0 (v := int .i64 a2) (news := [int .i64 a2]) (0 : Int) a2 ag3 z (Mw.new (α := Int) g9 n10 1) hn550 hA598 h595 hb596 (add_zero' _) z z z z z (Nat.le_of_ble_eq_true z) gR (fun _ ho => setAll_K ho z z) fun wd599 hI600=>nl<|hK594 _ _ _<|sr fun K601 hK602=>mv z<|mv z<|q_eql z z<|nl<|hK602 _ _ _<|dC (a2 = a2) (fun h603=>?_) fun h603=>?_
 refine yK h603 H fun H=>wt (bY h603)<|wpc_region<|mv z<|mv z<|mv z<|iK H fun⟨h604, h604'⟩H=>have hb605:=lt_n hn13 h604';?_
 obtain ⟨ad606, hA607⟩ := Mw.ad (Mw.new (α := Int) g9 n10 1) h604 hb605
 refine q_ia el29 z hA607 z h604 hb605<|q_stm (kd := (Kd.int .i64)) hI600 0 (v := int .i64 a2) (news := [int .i64 a2]) (0 : Int) a2 ag3 z (Mw.new (α := Int) g9 n10 1) (set_len hn550) hA607 h604 hb605 (add_zero' _) z z z z z (Nat.le_of_ble_eq_true z) gR (fun _ ho => setAll_K ho z z) fun wd608 hI609=>nl<|have hI610:=Hp.rwUp hI609 0 z hGr553;?_
 cases H
 exact ⟨z, G573, _, z, gR, ⟨z, z, z, z, z, z, z, z, tv⟩, hI610, (set_len (set_len hn550)), gR, tv⟩
 refine nK h603 H fun H=>wf (bN h603)<|ws<|have hI611:=Hp.rwUp hI600 0 z hGr553;?_
 cases H
 exact ⟨z, G573, _, z, gR, ⟨z, z, z, z, z, z, z, z, tv⟩, hI611, (set_len hn550), gR, tv⟩
 rintro e r ds wd590 ⟨rfl, Gr586, G588, rfl, hG589, hHas, hI591, hn585, hGr587, _⟩
 rw [hHas.eq]; clear hHas
 exact hK583 _ _ _<|wpc_region<|mv z<|q_add z z<|asn z<|nl<|have hI612:=Hp.rwUp hI591 0 z hGr587;ih _ _ _ H G588 _ _ _ (gT hG574 hG589) ⟨z, z, z, z, z, z, z, z, tv⟩ hI612 hn585 gR z
 refine nK h581 H fun H=>wf (bN h581)<|wx<|have hI613:=Hp.rwUp hI576 0 z hGr553;?_
 cases H
 exact ⟨z, G573, _, z, hG574, ⟨z, z, z, z, tv⟩, hI613, hn550, gR, tv⟩
 rintro e r ds wd570 ⟨rfl, Gr566, G568, rfl, hG569, hHas, hI571, hn565, hGr567, _⟩
 rw [hHas.eq]; clear hHas
 refine have hI615:=Hp.rwUp hI571 0 z hGr567;?_
 cases H
 exact ⟨z, G568, _, z, hG569, ⟨z, z, z, z, tv⟩, hI615, hn565, gR, tv⟩
 rintro e r ds wd160 ⟨rfl, Gr156, G158, rfl, hG159, hHas, hI161, hn155, hGr157, _⟩
 rw [hHas.eq]; clear hHas
 exact hK153 _ _ _<|wpc_region<|mv z<|q_add z z<|asn z<|nl<|have hI616:=Hp.rwUp hI161 0 z hGr157;ih _ _ _ H G158 _ _ _ (gT hG144 hG159) ⟨z, z, z, z, tv⟩ hI616 hn155 gR z
 refine nK h151 H fun H=>wf (bN h151)<|wx<|have hI617:=Hp.rwUp hI146 0 z hGr123;?_
 cases H
 exact ⟨z, G143, _, z, hG144, ⟨z, tv⟩, hI617, hn120, gR, tv⟩
 rintro e r ds wd140 ⟨rfl, Gr136, G138, rfl, hG139, hHas, hI141, hn135, hGr137, _⟩
 rw [hHas.eq]; clear hHas
 refine hK112 _ _ _<|sr fun K619 hK620=>mv z<|asn z<|nl<|hK620 _ _ _<|wr<|have hI621:=Hp.rwUp hI141 0 z hGr137;?_
 cases H
 exact ⟨.inr z, z, _, ⟨_, _, z, z, z⟩, (some ⟨g9, 0, none⟩), n10, n10, _, (gT hG46 hG139), hI621, hn135, (Mw.new (α := Int) g9 n10 1), z⟩
theorem formeref09_Levels_spec {a1 a2 r1003 r1010 G L w} (H : formeref09_Levels a1 a2 = some (r1003, r1010)) (hI : Hp G L w) :
    Calls Tryz.prog 103 [string a1, int .i64 a2].toArray w fun e w' => ∃ (A1004 : Option Addr) (n1005 : Nat) (c1006 : Nat) (G' : Gh), G ≤ G' ∧ Hp G' (rwI G' (Kd.int .i64) A1004 [] r1003 [] c1006 3 :: L) w' ∧ r1003.length = n1005 ∧ Mw A1004 A1004 ([] : List Int).length n1005 c1006 c1006 1 ∧ e = .returned (tuple [slice A1004 n1005 c1006, int .i64 r1010].toArray) := by
 refine calls_intro (N := 55) Tryz.func103 z z (Nat.le_of_ble_eq_true z)<|?_
 unfold formeref09_Levels at H
 refine sr fun K3 hK4=>asn z<|asn z<|nl<|hK4 _ _ _<|sQ fun K5 hK6=>sr fun K7 hK8=>mv z<|mv z<|bK H fun y14 hy9 H=>cv bo133 (formeref09_Line_spec hy9 hI) z z fun wd12 hI13=>q_not z<|nl<|hK8 _ _ _<|?_
 refine dC ((!y14) = true) (fun h15=>?_) fun h15=>?_
 refine yK h15 H fun H=>wt (vY h15)<|sr fun K16 hK17=>asn z<|asn z<|nl<|hK17 _ _ _<|wr<|have hI18:=Hp.emp hI13;?_
 cases H
 exact ⟨.inr z, z, _, ⟨_, _, z, z, ⟨_, _, z, z, z⟩⟩, none, 0, 0, _, gR, hI18, z, ⟨.inl z, Nat.le_refl _⟩, z⟩
 refine nK h15 H fun H=>wf (vN h15)<|ws<|hK6 _ _ _<|sr fun K20 hK21=>mv z<|mv z<|bK H fun y27 hy22 H=>q_cv (vs := [string a1, int .i64 a2]) bo134 z z (formeref09_directions_spec hy22 hI13)<|?_
 rintro _ wd25 ⟨A28, n29, c30, G23, hG24, hI26, hn31, hM32, rfl⟩
 refine ⟨_, rfl, ?_⟩
 refine asn z<|nl<|hK21 _ _ _<|sQ fun K34 hK35=>sr fun K36 hK37=>asn z<|nl<|hK37 _ _ _<|wb<|bK H fun v57 hC H=>wpc_mono (Q := fun e r ds w => e = .exit 0 ∧ ∃ (Gr59 : Gh) (G61 : Gh), ds = [] ∧ G23 ≤ G61 ∧ Has [(6, slice A28 n29 c30)] r ∧ Hp G61 (rwI Gr59 (Kd.int .i64) A28 [] v57 [] c30 3 :: L) w ∧ v57.length = n29 ∧ Gr59 ≤ G61 ∧ True) ?_ ?_
 refine wpc_loop fun I hLp=>?_
 refine formeref09_Levels_l56.partial_correctness a1 a2 y27 (fun v42 v44 o => ∀ (Gr45 : Gh) (G66 : Gh) (r : Rg) (w : World), G23 ≤ G66 → Has [(0, string a1), (1, int .i64 a2), (6, slice A28 n29 c30), (7, int .i64 v44)] r → Hp G66 (rwI Gr45 (Kd.int .i64) A28 [] v42 [] c30 3 :: L) w → v42.length = n29 → Gr45 ≤ G66 → o = v57 → I r [] w) ?_ y27 0 _ hC G23 _ _ _ gR ⟨rfl, rfl, rfl, rfl, tv⟩ hI26 hn31 gR rfl
 intro _ ih v42 v44 o H Gr45 G66 r wd68 hG67 hHas hI69 hn43 hGr46 ho
 rw [ho] at H; clear ho
 rw [hHas.eq]; clear hHas
 refine hLp _ _ _<|sQ fun K70 hK71=>sr fun K72 hK73=>mv z<|mv z<|q_lens so9 z<|q_lss z z<|nl<|hK73 _ _ _<|dC (v44 < (a1.size : Int)) (fun h74=>?_) fun h74=>?_
 refine yK h74 H fun H=>wt (bY h74)<|ws<|hK71 _ _ _<|sQ fun K75 hK76=>bK H fun v77 hC H=>wpc_mono (Q := fun e r ds w => e = .normal ∧ ∃ (Gr79 : Gh) (G81 : Gh), ds = [] ∧ G66 ≤ G81 ∧ Has [(0, string a1), (1, int .i64 a2), (6, slice A28 n29 c30), (7, int .i64 v44)] r ∧ Hp G81 (rwI Gr79 (Kd.int .i64) A28 [] v77 [] c30 3 :: L) w ∧ v77.length = n29 ∧ Gr79 ≤ G81 ∧ True) ?_ ?_
 refine have H:=hC;wb<|sr fun K86 hK87=>mv z<|mv z<|iK H fun⟨h88, h88'⟩H=>q_is so9 z z h88 h88' z<|bK H fun y94 hy89 H=>cv bo75 (formeref06_Class_spec hy89 hI69) z z fun wd92 hI93=>q_eql z z<|asn z<|nl<|hK87 _ _ _<|sr fun K95 hK96=>?_
 refine mv z<|mv z<|iK H fun⟨h97, h97'⟩H=>have hb98:=lt_n hn31 h97';?_
 obtain ⟨ad99, hA100⟩ := Mw.ad hM32 h97 hb98
 refine q_ia el29 z hA100 z h97 hb98<|?_
 obtain ⟨_, rfl, _, hc102⟩ := Hp.rwGet hI93 0 rfl hM32 hn43 hA100 (0 : Int) h97 hb98
 refine q_load1 (v := int .i64 (v42.getD (Int.toNat v44) (0 : Int))) ag3 z (cell0 (hc102 0 _ z))<|q_eql z z<|mv z<|bK H fun v103 hC H=>js 3 hI93 [(0, string a1), (1, int .i64 a2), (6, slice A28 n29 c30), (7, int .i64 v44), (35, bool v103)] ?_ fun _ wd106 hI107=>?_
 refine have H:=hC;dC ((v42.getD (Int.toNat v44) (0 : Int)) = 1) (fun h109=>?_) fun h109=>?_
 refine yK h109 H fun H=>mv (hw:=gY z z z (bY h109)) z<|q_notd (hw:=gY z z z (bY h109)) (p := y94 = 3) z<|pkt (bY h109) z<|nl<|?_
 cases H
 exact je ⟨z, z, z, z, z, tv⟩ hI93
 refine nK h109 H fun H=>Sk 2 z z (bN h109) z<|pkf (bN h109) z<|nl<|?_
 cases H
 exact je ⟨z, z, z, z, z, tv⟩ hI93
 refine nl<|hK96 _ _ _<|dC (v103 = true) (fun h110=>?_) fun h110=>?_
 refine yK h110 H fun H=>wt (vY h110)<|wpc_region<|mv z<|mv z<|iK H fun⟨h111, h111'⟩H=>have hb112:=lt_n hn31 h111';?_
 obtain ⟨ad113, hA114⟩ := Mw.ad hM32 h111 hb112
 refine q_ia el29 z hA114 z h111 hb112<|q_stm (kd := (Kd.int .i64)) hI107 0 (v := int .i64 1) (news := [int .i64 1]) (0 : Int) 1 ag3 z hM32 hn43 hA114 h111 hb112 (add_zero' _) z z z z z (Nat.le_of_ble_eq_true z) gR (fun _ ho => setAll_K ho z z) fun wd115 hI116=>nl<|have hI117:=Hp.rwUp hI116 0 z hGr46;?_
 cases H
 exact ⟨z, G66, _, z, gR, ⟨z, z, z, z, tv⟩, hI117, (set_len hn43), gR, tv⟩
 refine nK h110 H fun H=>wf (vN h110)<|sr fun K118 hK119=>mv z<|q_eql z z<|mv z<|bK H fun v120 hC H=>js 6 hI107 [(0, string a1), (1, int .i64 a2), (6, slice A28 n29 c30), (7, int .i64 v44), (47, bool v120)] ?_ fun _ wd123 hI124=>?_
 refine have H:=hC;dC (a2 = 0) (fun h126=>?_) fun h126=>?_
 refine yK h126 H fun H=>mv (hw:=gY z z z (bY h126)) z<|mv (hw:=gY z z z (bY h126)) z<|iK H fun⟨h127, h127'⟩H=>have hb128:=lt_n hn31 h127';?_
 obtain ⟨ad129, hA130⟩ := Mw.ad hM32 h127 hb128
 refine q_ia (hw:=gY z z z (bY h126)) el29 z hA130 z h127 hb128<|?_
 obtain ⟨_, rfl, _, hc132⟩ := Hp.rwGet hI107 0 rfl hM32 hn43 hA130 (0 : Int) h127 hb128
 refine q_load1 (hw:=gY z z z (bY h126)) (v := int .i64 (v42.getD (Int.toNat v44) (0 : Int))) ag3 z (cell0 (hc132 0 _ z))<|q_eql (hw:=gY z z z (bY h126)) z z<|pkt (bY h126) z<|nl<|?_
 cases H
 exact je ⟨z, z, z, z, z, tv⟩ hI107
 refine nK h126 H fun H=>Sk 5 z z (bN h126) z<|pkf (bN h126) z<|nl<|?_
 cases H
 exact je ⟨z, z, z, z, z, tv⟩ hI107
 refine nl<|hK119 _ _ _<|dC (v120 = true) (fun h133=>?_) fun h133=>?_
 refine yK h133 H fun H=>wt (vY h133)<|wpc_region<|mv z<|mv z<|iK H fun⟨h134, h134'⟩H=>have hb135:=lt_n hn31 h134';?_
 obtain ⟨ad136, hA137⟩ := Mw.ad hM32 h134 hb135
 refine q_ia el29 z hA137 z h134 hb135<|q_stm (kd := (Kd.int .i64)) hI124 0 (v := int .i64 0) (news := [int .i64 0]) (0 : Int) 0 ag3 z hM32 hn43 hA137 h134 hb135 (add_zero' _) z z z z z (Nat.le_of_ble_eq_true z) gR (fun _ ho => setAll_K ho z z) fun wd138 hI139=>nl<|have hI140:=Hp.rwUp hI139 0 z hGr46;?_
 cases H
 exact ⟨z, G66, _, z, gR, ⟨z, z, z, z, tv⟩, hI140, (set_len hn43), gR, tv⟩
 refine nK h133 H fun H=>wf (vN h133)<|wpc_region<|mv z<|mv z<|iK H fun⟨h141, h141'⟩H=>have hb142:=lt_n hn31 h141';?_
 obtain ⟨ad143, hA144⟩ := Mw.ad hM32 h141 hb142
 refine q_ia el29 z hA144 z h141 hb142<|q_stm (kd := (Kd.int .i64)) hI124 0 (v := int .i64 2) (news := [int .i64 2]) (0 : Int) 2 ag3 z hM32 hn43 hA144 h141 hb142 (add_zero' _) z z z z z (Nat.le_of_ble_eq_true z) gR (fun _ ho => setAll_K ho z z) fun wd145 hI146=>nl<|have hI147:=Hp.rwUp hI146 0 z hGr46;?_
 cases H
 exact ⟨z, G66, _, z, gR, ⟨z, z, z, z, tv⟩, hI147, (set_len hn43), gR, tv⟩
 rintro e r ds wd83 ⟨rfl, Gr79, G81, rfl, hG82, hHas, hI84, hn78, hGr80, _⟩
 rw [hHas.eq]; clear hHas
 exact hK76 _ _ _<|wpc_region<|mv z<|q_add z z<|asn z<|nl<|have hI148:=Hp.rwUp hI84 0 z hGr80;ih _ _ _ H G81 _ _ _ (gT hG67 hG82) ⟨z, z, z, z, tv⟩ hI148 hn78 gR z
 refine nK h74 H fun H=>wf (bN h74)<|wx<|have hI149:=Hp.rwUp hI69 0 z hGr46;?_
 cases H
 exact ⟨z, G66, _, z, hG67, ⟨z, tv⟩, hI149, hn43, gR, tv⟩
 rintro e r ds wd63 ⟨rfl, Gr59, G61, rfl, hG62, hHas, hI64, hn58, hGr60, _⟩
 rw [hHas.eq]; clear hHas
 refine hK35 _ _ _<|sr fun K150 hK151=>mv z<|asn z<|asn z<|nl<|hK151 _ _ _<|wr<|have hI152:=Hp.rwUp hI64 0 z hGr60;?_
 cases H
 exact ⟨.inr z, z, _, ⟨_, _, z, z, ⟨_, _, z, z, z⟩⟩, A28, n29, c30, _, (gT hG24 hG62), hI152, hn58, hM32, z⟩
theorem formeref09_turn_k1_spec {a1 a6 a17 A2 c3 A7 pre8 post9 A10 n11 c12 lim13 r1018 G L w} (H : formeref09_turn_k1 a1 a6 a17 = some r1018) (hI : Hp G (rwI G (Kd.int .i64) A7 pre8 a6 post9 lim13 3 :: L) w) (hl4 : a1.length ≤ c3) (hD5 : Dat (Kd.int .i64) G A2 a1) (hn14 : a6.length = n11) (hM15 : Mw A7 A10 pre8.length n11 c12 lim13 1) :
    Calls Tryz.prog 104 [slice A2 a1.length c3, slice A10 n11 c12, int .i64 a17].toArray w fun e w' => ∃ (A1019 : Option Addr) (c1020 : Nat) (G' : Gh), G ≤ G' ∧ Hp G' (tk (slice A1019 r1018.length c1020) 1 3 :: rwI G' (Kd.int .i64) A7 pre8 a6 post9 lim13 3 :: L) w' ∧ r1018.length ≤ c1020 ∧ Dat (Kd.int .i64) G' A1019 r1018 ∧ Own A1019 c1020 ∧ e = .returned (slice A1019 r1018.length c1020) := by
 refine calls_intro (N := 68) Tryz.func104 z z (Nat.le_of_ble_eq_true z)<|?_
 unfold formeref09_turn_k1 at H
 refine sr fun K18 hK19=>asn z<|nl<|hK19 _ _ _<|sr fun K20 hK21=>asn z<|nl<|hK21 _ _ _<|sQ fun K22 hK23=>sr fun K24 hK25=>asn z<|nl<|hK25 _ _ _<|wb<|?_
 refine bK H fun v51 hC H=>?_
 refine wpc_mono (Q := fun e r ds w => e = .exit 0 ∧ ∃ (A52 : Option Addr) (c53 : Nat) (G58 : Gh), ds = [] ∧ G ≤ G58 ∧ Has [(7, slice A52 v51.length c53)] r ∧ Hp G58 (rwI G (Kd.int .i64) A7 pre8 a6 post9 lim13 3 :: tk (slice A52 v51.length c53) 1 3 :: L) w ∧ v51.length ≤ c53 ∧ Dat (Kd.int .i64) G58 A52 v51 ∧ Own A52 c53 ∧ True) ?_ ?_
 refine have hI259:=Hp.emp hI;have hI261:=Hp.front hI259 1 z;wpc_loop fun I hLp=>?_
 refine formeref09_turn_k1_l50.partial_correctness a1 a6 a17 (fun v30 v37 o => ∀ (A31 : Option Addr) (c32 : Nat) (G63 : Gh) (r : Rg) (w : World), G ≤ G63 → Has [(0, slice A2 a1.length c3), (1, slice A10 n11 c12), (2, int .i64 a17), (7, slice A31 v30.length c32), (8, int .i64 v37)] r → Hp G63 (rwI G (Kd.int .i64) A7 pre8 a6 post9 lim13 3 :: tk (slice A31 v30.length c32) 1 3 :: L) w → v30.length ≤ c32 → Dat (Kd.int .i64) G63 A31 v30 → Own A31 c32 → o = v51 → I r [] w) ?_ ([] : List Int) 0 _ hC none 0 _ _ _ gR ⟨rfl, rfl, rfl, rfl, rfl, tv⟩ hI261 (show ([] : List Int).length ≤ 0 from Nat.le_refl 0) (Dat.nil _ _ _) Own.nil rfl
 intro _ ih v30 v37 o H A31 c32 G63 r wd65 hG64 hHas hI66 hl33 hD34 ho35 ho
 rw [ho] at H; clear ho
 rw [hHas.eq]; clear hHas
 refine hLp _ _ _<|sQ fun K67 hK68=>sr fun K69 hK70=>mv z<|mv z<|q_len so29 z<|q_lss z z<|nl<|hK70 _ _ _<|dC (v37 < (a1.length : Int)) (fun h71=>?_) fun h71=>?_
 refine yK h71 H fun H=>wt (bY h71)<|ws<|hK68 _ _ _<|sQ fun K72 hK73=>bK2 H fun v74 v81 hC H=>?_
 refine wpc_mono (Q := fun e r ds w => e = .normal ∧ ∃ (A75 : Option Addr) (c76 : Nat) (G82 : Gh), ds = [] ∧ G63 ≤ G82 ∧ Has [(0, slice A2 a1.length c3), (1, slice A10 n11 c12), (2, int .i64 a17), (7, slice A75 v74.length c76), (8, int .i64 v81)] r ∧ Hp G82 (rwI G (Kd.int .i64) A7 pre8 a6 post9 lim13 3 :: tk (slice A75 v74.length c76) 1 3 :: L) w ∧ v74.length ≤ c76 ∧ Dat (Kd.int .i64) G82 A75 v74 ∧ Own A75 c76 ∧ True) ?_ ?_
 refine have H:=hC;wb<|sQ fun K87 hK88=>sr fun K89 hK90=>mv z<|mv z<|mv z<|iK H fun⟨h91, h91'⟩H=>?_
 obtain ⟨ad92, cs93, hA94, hK95, hn96, hc97⟩ := Dat.get (Dat.mono hG64 hD5) (0 : Int) (v37) h91 h91'
 obtain rfl := hK95
 refine q_ia el29 z hA94 z h91 h91'<|q_lf hI66 ag3 z (gR.cel _ _ (hc97 0 _ z))<|iK H fun⟨h98, h98'⟩H=>have hb99:=lt_n hn14 h98';?_
 obtain ⟨ad100, hA101⟩ := Mw.ad hM15 h98 hb99
 refine q_ia el29 z hA101 z h98 hb99<|?_
 obtain ⟨_, rfl, _, hc103⟩ := Hp.rwGet hI66 0 rfl hM15 hn14 hA101 (0 : Int) h98 hb99
 refine q_load1 (v := int .i64 (a6.getD (Int.toNat (a1.getD (Int.toNat v37) (0 : Int))) (0 : Int))) ag3 z (cell0 (hc103 0 _ z))<|mv z<|q_lss z z<|nl<|hK90 _ _ _<|dC ((a6.getD (Int.toNat (a1.getD (Int.toNat v37) (0 : Int))) (0 : Int)) < a17) (fun h104=>?_) fun h104=>?_
 refine yK h104 H fun H=>wt (bY h104)<|sr fun K105 hK106=>mv z<|mv z<|mv z<|iK H fun⟨h107, h107'⟩H=>?_
 obtain ⟨ad108, cs109, hA110, hK111, hn112, hc113⟩ := Dat.get (Dat.mono hG64 hD5) (0 : Int) (v37) h107 h107'
 obtain rfl := hK111
 refine q_ia el29 z hA110 z h107 h107'<|q_lf hI66 ag3 z (gR.cel _ _ (hc113 0 _ z))<|?_
 refine q_bs hI66 (vs := [(0, int .i64 (a1.getD (Int.toNat v37) (0 : Int)))]) (cs := [int .i64 (a1.getD (Int.toNat v37) (0 : Int))]) el29 ze3 rfl (by decide) rfl rfl (fun g115 wd116 hI117 => ?_)
 refine iK H fun h127 H=>?_
 refine q_app (xs := v30) (ys := [a1.getD (Int.toNat v37) (0 : Int)]) (Kd.int .i64) hI117 2 el29 ze3 rfl rfl rfl rfl ho35 hl33 hD34 (src_bx hI117 0 so29 rfl rfl) ⟨[int .i64 (a1.getD (Int.toNat v37) (0 : Int))], _, rfl, rfl, rfl⟩ rfl (by simp only [List.length_cons, List.length_nil]; omega) (by simp only [List.length_cons, List.length_nil]; omega) (fun A118 c119 G120 wd121 hG122 ho123 hl124 hD125 hI126 => ?_)
 refine asn z<|nl<|hK106 _ _ _<|wx<|have hI128:=Hp.front hI126 2 z;have hI129:=Hp.front hI128 2 z;have hI130:=Hp.sub hI129 (sk (sk (sd se)));?_
 cases H
 exact ⟨z, A118, c119, _, z, hG122, ⟨z, z, z, z, z, tv⟩, hI130, hl124, hD125, ho123, tv⟩
 refine nK h104 H fun H=>wf (bN h104)<|ws<|hK88 _ _ _<|sr fun K131 hK132=>mv z<|asn z<|nl<|hK132 _ _ _<|sQ fun K133 hK134=>wb<|bK H fun v146 hC H=>?_
 refine wpc_mono (Q := fun e r ds w => e = .exit 2 ∧ ds = [] ∧ Has [(0, slice A2 a1.length c3), (1, slice A10 n11 c12), (2, int .i64 a17), (7, slice A31 v30.length c32), (8, int .i64 v37), (9, int .i64 v146)] r ∧ Hp G63 (tk (slice A31 v30.length c32) 1 3 :: rwI G (Kd.int .i64) A7 pre8 a6 post9 lim13 3 :: L) w ∧ True) ?_ ?_
 refine have hI181:=Hp.front hI66 1 z;wpc_loop fun I hLp=>?_
 refine formeref09_turn_k1_l145.partial_correctness a1 a6 a17 (fun v139 o => ∀ (r : Rg) (w : World), Has [(0, slice A2 a1.length c3), (1, slice A10 n11 c12), (2, int .i64 a17), (7, slice A31 v30.length c32), (8, int .i64 v37), (9, int .i64 v139)] r → Hp G63 (tk (slice A31 v30.length c32) 1 3 :: rwI G (Kd.int .i64) A7 pre8 a6 post9 lim13 3 :: L) w → o = v146 → I r [] w) ?_ v37 _ hC _ _ ⟨rfl, rfl, rfl, rfl, rfl, rfl, tv⟩ hI181 rfl
 intro _ ih v139 o H r wd154 hHas hI155 ho
 rw [ho] at H; clear ho
 rw [hHas.eq]; clear hHas
 refine hLp _ _ _<|sQ fun K156 hK157=>sr fun K158 hK159=>mv z<|mv z<|q_len so29 z<|q_lss z z<|mv z<|bK H fun v160 hC H=>js 10 hI155 [(0, slice A2 a1.length c3), (1, slice A10 n11 c12), (2, int .i64 a17), (7, slice A31 v30.length c32), (8, int .i64 v37), (9, int .i64 v139), (48, bool v160)] ?_ fun _ wd163 hI164=>?_
 refine have H:=hC;dC (v139 < (a1.length : Int)) (fun h166=>?_) fun h166=>?_
 refine yK h166 H fun H=>mv (hw:=gY z z z (bY h166)) z<|mv (hw:=gY z z z (bY h166)) z<|mv (hw:=gY z z z (bY h166)) z<|iK H fun⟨h167, h167'⟩H=>?_
 obtain ⟨ad168, cs169, hA170, hK171, hn172, hc173⟩ := Dat.get (Dat.mono hG64 hD5) (0 : Int) (v139) h167 h167'
 obtain rfl := hK171
 refine q_ia (hw:=gY z z z (bY h166)) el29 z hA170 z h167 h167'<|q_lf (hw:=gY z z z (bY h166)) hI155 ag3 z (gR.cel _ _ (hc173 0 _ z))<|iK H fun⟨h174, h174'⟩H=>have hb175:=lt_n hn14 h174';?_
 obtain ⟨ad176, hA177⟩ := Mw.ad hM15 h174 hb175
 refine q_ia (hw:=gY z z z (bY h166)) el29 z hA177 z h174 hb175<|?_
 obtain ⟨_, rfl, _, hc179⟩ := Hp.rwGet hI155 1 rfl hM15 hn14 hA177 (0 : Int) h174 hb175
 refine q_load1 (hw:=gY z z z (bY h166)) (v := int .i64 (a6.getD (Int.toNat (a1.getD (Int.toNat v139) (0 : Int))) (0 : Int))) ag3 z (cell0 (hc179 0 _ z))<|mv (hw:=gY z z z (bY h166)) z<|q_geq (hw:=gY z z z (bY h166)) z z<|pkt (bY h166) z<|nl<|?_
 cases H
 exact je ⟨z, z, z, z, z, z, z, tv⟩ hI155
 refine nK h166 H fun H=>Sk 9 z z (bN h166) z<|pkf (bN h166) z<|nl<|?_
 cases H
 exact je ⟨z, z, z, z, z, z, z, tv⟩ hI155
 refine nl<|hK159 _ _ _<|dC (v160 = true) (fun h180=>?_) fun h180=>?_
 exact yK h180 H fun H=>wt (vY h180)<|ws<|hK157 _ _ _<|wb<|wpc_region<|mv z<|q_add z z<|asn z<|nl<|ih _ _ H _ _ ⟨z, z, z, z, z, z, tv⟩ hI164 z
 refine nK h180 H fun H=>wf (vN h180)<|wx<|?_
 cases H
 exact ⟨z, z, ⟨z, z, z, z, z, z, tv⟩, hI164, tv⟩
 rintro e r ds wd149 ⟨rfl, rfl, hHas, hI150, _⟩
 rw [hHas.eq]; clear hHas
 refine hK134 _ _ _<|sQ fun K182 hK183=>sr fun K184 hK185=>mv z<|q_sub z z<|asn z<|nl<|hK185 _ _ _<|wb<|bK H fun v211 hC H=>?_
 refine wpc_mono (Q := fun e r ds w => e = .exit 4 ∧ ∃ (A212 : Option Addr) (c213 : Nat) (G218 : Gh), ds = [] ∧ G63 ≤ G218 ∧ Has [(0, slice A2 a1.length c3), (1, slice A10 n11 c12), (2, int .i64 a17), (7, slice A212 v211.length c213), (9, int .i64 v146)] r ∧ Hp G218 (rwI G (Kd.int .i64) A7 pre8 a6 post9 lim13 3 :: tk (slice A212 v211.length c213) 1 3 :: L) w ∧ v211.length ≤ c213 ∧ Dat (Kd.int .i64) G218 A212 v211 ∧ Own A212 c213 ∧ True) ?_ ?_
 refine have hI258:=Hp.front hI150 1 z;wpc_loop fun I hLp=>?_
 refine formeref09_turn_k1_l210.partial_correctness a1 v37 (fun v190 v197 o => ∀ (A191 : Option Addr) (c192 : Nat) (G223 : Gh) (r : Rg) (w : World), G63 ≤ G223 → Has [(0, slice A2 a1.length c3), (1, slice A10 n11 c12), (2, int .i64 a17), (7, slice A191 v190.length c192), (8, int .i64 v37), (9, int .i64 v146), (10, int .i64 v197)] r → Hp G223 (rwI G (Kd.int .i64) A7 pre8 a6 post9 lim13 3 :: tk (slice A191 v190.length c192) 1 3 :: L) w → v190.length ≤ c192 → Dat (Kd.int .i64) G223 A191 v190 → Own A191 c192 → o = v211 → I r [] w) ?_ v30 (w64 (v146 - 1)) _ hC A31 c32 _ _ _ gR ⟨rfl, rfl, rfl, rfl, rfl, rfl, rfl, tv⟩ hI258 hl33 hD34 ho35 rfl
 intro _ ih v190 v197 o H A191 c192 G223 r wd225 hG224 hHas hI226 hl193 hD194 ho195 ho
 rw [ho] at H; clear ho
 rw [hHas.eq]; clear hHas
 refine hLp _ _ _<|sQ fun K227 hK228=>sr fun K229 hK230=>mv z<|mv z<|q_geq z z<|nl<|hK230 _ _ _<|dC (v37 ≤ v197) (fun h231=>?_) fun h231=>?_
 refine yK h231 H fun H=>wt (bY h231)<|ws<|hK228 _ _ _<|sQ fun K232 hK233=>wb<|wpc_region<|mv z<|mv z<|mv z<|iK H fun⟨h234, h234'⟩H=>?_
 obtain ⟨ad235, cs236, hA237, hK238, hn239, hc240⟩ := Dat.get (Dat.mono (gT hG64 hG224) hD5) (0 : Int) (v197) h234 h234'
 obtain rfl := hK238
 refine q_ia el29 z hA237 z h234 h234'<|q_lf hI226 ag3 z (gR.cel _ _ (hc240 0 _ z))<|?_
 refine q_bs hI226 (vs := [(0, int .i64 (a1.getD (Int.toNat v197) (0 : Int)))]) (cs := [int .i64 (a1.getD (Int.toNat v197) (0 : Int))]) el29 ze3 rfl (by decide) rfl rfl (fun g242 wd243 hI244 => ?_)
 refine iK H fun h254 H=>?_
 refine q_app (xs := v190) (ys := [a1.getD (Int.toNat v197) (0 : Int)]) (Kd.int .i64) hI244 2 el29 ze3 rfl rfl rfl rfl ho195 hl193 hD194 (src_bx hI244 0 so29 rfl rfl) ⟨[int .i64 (a1.getD (Int.toNat v197) (0 : Int))], _, rfl, rfl, rfl⟩ rfl (by simp only [List.length_cons, List.length_nil]; omega) (by simp only [List.length_cons, List.length_nil]; omega) (fun A245 c246 G247 wd248 hG249 ho250 hl251 hD252 hI253 => ?_)
 exact asn z<|nl<|hK233 _ _ _<|wpc_region<|mv z<|q_sub z z<|asn z<|nl<|have hI255:=Hp.front hI253 2 z;have hI256:=Hp.front hI255 2 z;have hI257:=Hp.sub hI256 (sk (sk (sd se)));ih _ _ _ H A245 c246 _ _ _ (gT hG224 hG249) ⟨z, z, z, z, z, z, z, tv⟩ hI257 hl251 hD252 ho250 z
 refine nK h231 H fun H=>wf (bN h231)<|wx<|?_
 cases H
 exact ⟨z, A191, c192, _, z, hG224, ⟨z, z, z, z, z, tv⟩, hI226, hl193, hD194, ho195, tv⟩
 rintro e r ds wd220 ⟨rfl, A212, c213, G218, rfl, hG219, hHas, hI221, hl214, hD215, ho216, _⟩
 rw [hHas.eq]; clear hHas
 refine hK183 _ _ _<|wpc_region<|mv z<|q_sub z z<|asn z<|nl<|?_
 cases H
 exact ⟨z, A212, c213, _, z, hG219, ⟨z, z, z, z, z, tv⟩, hI221, hl214, hD215, ho216, tv⟩
 rintro e r ds wd84 ⟨rfl, A75, c76, G82, rfl, hG83, hHas, hI85, hl77, hD78, ho79, _⟩
 rw [hHas.eq]; clear hHas
 exact hK73 _ _ _<|wpc_region<|mv z<|q_add z z<|asn z<|nl<|ih _ _ _ H A75 c76 _ _ _ (gT hG64 hG83) ⟨z, z, z, z, z, tv⟩ hI85 hl77 hD78 ho79 z
 refine nK h71 H fun H=>wf (bN h71)<|wx<|?_
 cases H
 exact ⟨z, A31, c32, _, z, hG64, ⟨z, tv⟩, hI66, hl33, hD34, ho35, tv⟩
 rintro e r ds wd60 ⟨rfl, A52, c53, G58, rfl, hG59, hHas, hI61, hl54, hD55, ho56, _⟩
 rw [hHas.eq]; clear hHas
 refine hK23 _ _ _<|sr fun K262 hK263=>mv z<|asn z<|nl<|hK263 _ _ _<|wr<|have hI264:=Hp.rwUp hI61 0 z hG59;have hI265:=Hp.front hI264 1 z;?_
 cases H
 exact ⟨.inr z, z, _, ⟨_, _, z, z, z⟩, A52, c53, _, hG59, hI265, hl54, hD55, ho56, z⟩
theorem formeref09_Order_spec {a1 a2 r1003 r1010 G L w} (H : formeref09_Order a1 a2 = some (r1003, r1010)) (hI : Hp G L w) :
    Calls Tryz.prog 77 [string a1, int .i64 a2].toArray w fun e w' => ∃ (A1004 : Option Addr) (c1005 : Nat) (G' : Gh), G ≤ G' ∧ Hp G' (tk (slice A1004 r1003.length c1005) 1 3 :: L) w' ∧ r1003.length ≤ c1005 ∧ Dat (Kd.int .i64) G' A1004 r1003 ∧ Own A1004 c1005 ∧ e = .returned (tuple [slice A1004 r1003.length c1005, int .i64 r1010].toArray) := by
 refine calls_intro (N := 34) Tryz.func77 z z (Nat.le_of_ble_eq_true z)<|?_
 unfold formeref09_Order at H
 refine sr fun K3 hK4=>asn z<|asn z<|nl<|hK4 _ _ _<|sr fun K5 hK6=>mv z<|mv z<|bK2 H fun y12 y19 hy7 H=>q_cv (vs := [string a1, int .i64 a2]) bo103 z z (formeref09_Levels_spec hy7 hI)<|?_
 rintro _ wd10 ⟨A13, n14, c15, G8, hG9, hI11, hn16, hM17, rfl⟩
 refine ⟨_, rfl, ?_⟩
 refine mv z<|exk z z<|exk z z<|asn z<|asn z<|nl<|hK6 _ _ _<|sQ fun K20 hK21=>sr fun K22 hK23=>mv z<|q_neq z z<|nl<|hK23 _ _ _<|dC (¬ y19 = 0) (fun h24=>?_) fun h24=>?_
 refine yK h24 H fun H=>wt (bY h24)<|sr fun K25 hK26=>mv z<|asn z<|asn z<|nl<|hK26 _ _ _<|wr<|have hI27:=Hp.emp hI11;have hI29:=Hp.sub hI27 (sk (sd se));?_
 cases H
 exact ⟨.inr z, z, _, ⟨_, _, z, z, ⟨_, _, z, z, z⟩⟩, none, 0, _, hG9, hI29, (show ([] : List Int).length ≤ 0 from Nat.le_refl 0), (Dat.nil _ _ _), Own.nil, z⟩
 refine nK h24 H fun H=>wf (bN h24)<|ws<|hK21 _ _ _<|sr fun K30 hK31=>asn z<|nl<|hK31 _ _ _<|sQ fun K32 hK33=>sr fun K34 hK35=>asn z<|nl<|hK35 _ _ _<|wb<|?_
 refine bK H fun v61 hC H=>?_
 refine wpc_mono (Q := fun e r ds w => e = .exit 0 ∧ ∃ (A62 : Option Addr) (c63 : Nat) (G68 : Gh), ds = [] ∧ G8 ≤ G68 ∧ Has [(6, slice A13 n14 c15), (8, slice A62 v61.length c63)] r ∧ Hp G68 (rwI G8 (Kd.int .i64) A13 [] y12 [] c15 3 :: tk (slice A62 v61.length c63) 1 3 :: L) w ∧ v61.length ≤ c63 ∧ Dat (Kd.int .i64) G68 A62 v61 ∧ Own A62 c63 ∧ True) ?_ ?_
 refine have hI101:=Hp.emp hI11;have hI103:=Hp.front hI101 1 z;wpc_loop fun I hLp=>?_
 refine formeref09_Order_l60.partial_correctness a1 (fun v40 v47 o => ∀ (A41 : Option Addr) (c42 : Nat) (G73 : Gh) (r : Rg) (w : World), G8 ≤ G73 → Has [(0, string a1), (6, slice A13 n14 c15), (8, slice A41 v40.length c42), (9, int .i64 v47)] r → Hp G73 (rwI G8 (Kd.int .i64) A13 [] y12 [] c15 3 :: tk (slice A41 v40.length c42) 1 3 :: L) w → v40.length ≤ c42 → Dat (Kd.int .i64) G73 A41 v40 → Own A41 c42 → o = v61 → I r [] w) ?_ ([] : List Int) 0 _ hC none 0 _ _ _ gR ⟨rfl, rfl, rfl, rfl, tv⟩ hI103 (show ([] : List Int).length ≤ 0 from Nat.le_refl 0) (Dat.nil _ _ _) Own.nil rfl
 intro _ ih v40 v47 o H A41 c42 G73 r wd75 hG74 hHas hI76 hl43 hD44 ho45 ho
 rw [ho] at H; clear ho
 rw [hHas.eq]; clear hHas
 refine hLp _ _ _<|sQ fun K77 hK78=>sr fun K79 hK80=>mv z<|mv z<|q_lens so9 z<|q_lss z z<|nl<|hK80 _ _ _<|dC (v47 < (a1.size : Int)) (fun h81=>?_) fun h81=>?_
 refine yK h81 H fun H=>wt (bY h81)<|ws<|hK78 _ _ _<|sQ fun K82 hK83=>wb<|wpc_region<|mv z<|mv z<|?_
 refine q_bs hI76 (vs := [(0, int .i64 v47)]) (cs := [int .i64 v47]) el29 ze3 rfl (by decide) rfl rfl (fun g85 wd86 hI87 => ?_)
 refine iK H fun h97 H=>?_
 refine q_app (xs := v40) (ys := [v47]) (Kd.int .i64) hI87 2 el29 ze3 rfl rfl rfl rfl ho45 hl43 hD44 (src_bx hI87 0 so29 rfl rfl) ⟨[int .i64 v47], _, rfl, rfl, rfl⟩ rfl (by simp only [List.length_cons, List.length_nil]; omega) (by simp only [List.length_cons, List.length_nil]; omega) (fun A88 c89 G90 wd91 hG92 ho93 hl94 hD95 hI96 => ?_)
 exact asn z<|nl<|hK83 _ _ _<|wpc_region<|mv z<|q_add z z<|asn z<|nl<|have hI98:=Hp.front hI96 2 z;have hI99:=Hp.front hI98 2 z;have hI100:=Hp.sub hI99 (sk (sk (sd se)));ih _ _ _ H A88 c89 _ _ _ (gT hG74 hG92) ⟨z, z, z, z, tv⟩ hI100 hl94 hD95 ho93 z
 refine nK h81 H fun H=>wf (bN h81)<|wx<|?_
 cases H
 exact ⟨z, A41, c42, _, z, hG74, ⟨z, z, tv⟩, hI76, hl43, hD44, ho45, tv⟩
 rintro e r ds wd70 ⟨rfl, A62, c63, G68, rfl, hG69, hHas, hI71, hl64, hD65, ho66, _⟩
 rw [hHas.eq]; clear hHas
 refine hK33 _ _ _<|sr fun K104 hK105=>mv z<|mv z<|have hI106:=Hp.rwUp hI71 0 z hG69;bK H fun y112 hy107 H=>q_cv (vs := [slice A62 v61.length c63, slice A13 n14 c15, int .i64 2]) bo104 z z (formeref09_turn_k1_spec hy107 hI106 hl64 hD65 hn16 hM17)<|?_
 rintro _ wd110 ⟨A113, c114, G108, hG109, hI111, hl115, hD116, ho117, rfl⟩
 refine ⟨_, rfl, ?_⟩
 refine mv z<|have hI119:=Hp.front hI111 2 z;have hI120:=Hp.front hI119 1 z;have hI121:=Hp.front hI120 2 z;bK H fun y127 hy122 H=>q_cv (vs := [slice A113 y112.length c114, slice A13 n14 c15, int .i64 1]) bo104 z z (formeref09_turn_k1_spec hy122 hI121 hl115 hD116 hn16 hM17)<|?_
 rintro _ wd125 ⟨A128, c129, G123, hG124, hI126, hl130, hD131, ho132, rfl⟩
 refine ⟨_, rfl, ?_⟩
 refine asn z<|asn z<|nl<|hK105 _ _ _<|wr<|have hI134:=Hp.sub hI126 (sk (sd (sd (sd se))));?_
 cases H
 exact ⟨.inr z, z, _, ⟨_, _, z, z, ⟨_, _, z, z, z⟩⟩, A128, c129, _, (gT (gT (gT hG9 hG69) hG109) hG124), hI134, hl130, hD131, ho132, z⟩
theorem formeref09_Visual_spec {a1 a2 r1003 r1004 G L w} (H : formeref09_Visual a1 a2 = some (r1003, r1004)) (hI : Hp G L w) :
    Calls Tryz.prog 44 [string a1, int .i64 a2].toArray w fun e w' => Hp G L w' ∧ e = .returned (tuple [string r1003, int .i64 r1004].toArray) := by
 refine calls_intro (N := 36) Tryz.func44 z z (Nat.le_of_ble_eq_true z)<|?_
 unfold formeref09_Visual at H
 refine sr fun K3 hK4=>asn z<|asn z<|nl<|hK4 _ _ _<|sr fun K5 hK6=>mv z<|mv z<|bK2 H fun y12 y19 hy7 H=>q_cv (vs := [string a1, int .i64 a2]) bo77 z z (formeref09_Order_spec hy7 hI)<|?_
 rintro _ wd10 ⟨A13, c14, G8, hG9, hI11, hl15, hD16, ho17, rfl⟩
 refine ⟨_, rfl, ?_⟩
 refine mv z<|exk z z<|exk z z<|asn z<|asn z<|nl<|hK6 _ _ _<|sQ fun K20 hK21=>sr fun K22 hK23=>mv z<|q_neq z z<|nl<|hK23 _ _ _<|dC (¬ y19 = 0) (fun h24=>?_) fun h24=>?_
 refine yK h24 H fun H=>wt (bY h24)<|sr fun K25 hK26=>mv z<|asn z<|asn z<|nl<|hK26 _ _ _<|wr<|have hI27:=Hp.sub hI11 (sd se);?_
 cases H
 exact rt ⟨_, _, z, z, ⟨_, _, z, z, z⟩⟩ (Hp.low hG9 hI27)
 refine nK h24 H fun H=>wf (bN h24)<|ws<|hK21 _ _ _<|sr fun K28 hK29=>asn z<|nl<|hK29 _ _ _<|sQ fun K30 hK31=>sr fun K32 hK33=>asn z<|nl<|hK33 _ _ _<|wb<|?_
 refine bK H fun v59 hC H=>?_
 refine wpc_mono (Q := fun e r ds w => e = .exit 0 ∧ ∃ (A60 : Option Addr) (c61 : Nat) (G66 : Gh), ds = [] ∧ G8 ≤ G66 ∧ Has [(8, slice A60 v59.length c61)] r ∧ Hp G66 (tk (slice A13 y12.length c14) 1 3 :: tk (slice A60 v59.length c61) 1 5 :: L) w ∧ v59.length ≤ c61 ∧ Dat (Kd.int .u8) G66 A60 v59 ∧ Own A60 c61 ∧ True) ?_ ?_
 refine have hI107:=Hp.emp hI11;have hI109:=Hp.front hI107 1 z;wpc_loop fun I hLp=>?_
 refine formeref09_Visual_l58.partial_correctness a1 y12 (fun v38 v45 o => ∀ (A39 : Option Addr) (c40 : Nat) (G71 : Gh) (r : Rg) (w : World), G8 ≤ G71 → Has [(0, string a1), (6, slice A13 y12.length c14), (8, slice A39 v38.length c40), (9, int .i64 v45)] r → Hp G71 (tk (slice A13 y12.length c14) 1 3 :: tk (slice A39 v38.length c40) 1 5 :: L) w → v38.length ≤ c40 → Dat (Kd.int .u8) G71 A39 v38 → Own A39 c40 → o = v59 → I r [] w) ?_ ([] : List Int) 0 _ hC none 0 _ _ _ gR ⟨rfl, rfl, rfl, rfl, tv⟩ hI109 (show ([] : List Int).length ≤ 0 from Nat.le_refl 0) (Dat.nil _ _ _) Own.nil rfl
 intro _ ih v38 v45 o H A39 c40 G71 r wd73 hG72 hHas hI74 hl41 hD42 ho43 ho
 rw [ho] at H; clear ho
 rw [hHas.eq]; clear hHas
 refine hLp _ _ _<|sQ fun K75 hK76=>sr fun K77 hK78=>mv z<|mv z<|q_len so29 z<|q_lss z z<|nl<|hK78 _ _ _<|dC (v45 < (y12.length : Int)) (fun h79=>?_) fun h79=>?_
 refine yK h79 H fun H=>wt (bY h79)<|ws<|hK76 _ _ _<|sQ fun K80 hK81=>wb<|wpc_region<|mv z<|mv z<|mv z<|mv z<|iK H fun⟨h82, h82'⟩H=>?_
 obtain ⟨ad83, cs84, hA85, hK86, hn87, hc88⟩ := Dat.get (Dat.mono hG72 hD16) (0 : Int) (v45) h82 h82'
 obtain rfl := hK86
 refine q_ia el29 z hA85 z h82 h82'<|q_lf hI74 ag3 z (gR.cel _ _ (hc88 0 _ z))<|iK H fun⟨h89, h89'⟩H=>q_is so9 z z h89 h89' z<|?_
 refine q_bs hI74 (vs := [(0, int .u8 (bt a1 (y12.getD (Int.toNat v45) (0 : Int))))]) (cs := [int .u8 (bt a1 (y12.getD (Int.toNat v45) (0 : Int)))]) el124 ze5 rfl (by decide) rfl rfl (fun g91 wd92 hI93 => ?_)
 refine iK H fun h103 H=>?_
 refine q_app (xs := v38) (ys := [bt a1 (y12.getD (Int.toNat v45) (0 : Int))]) (Kd.int .u8) hI93 2 el124 ze5 rfl rfl rfl rfl ho43 hl41 hD42 (src_bx hI93 0 so124 rfl rfl) ⟨[int .u8 (bt a1 (y12.getD (Int.toNat v45) (0 : Int)))], _, rfl, rfl, rfl⟩ rfl (by simp only [List.length_cons, List.length_nil]; omega) (by simp only [List.length_cons, List.length_nil]; omega) (fun A94 c95 G96 wd97 hG98 ho99 hl100 hD101 hI102 => ?_)
 exact asn z<|nl<|hK81 _ _ _<|wpc_region<|mv z<|q_add z z<|asn z<|nl<|have hI104:=Hp.front hI102 2 z;have hI105:=Hp.front hI104 2 z;have hI106:=Hp.sub hI105 (sk (sk (sd se)));ih _ _ _ H A94 c95 _ _ _ (gT hG72 hG98) ⟨z, z, z, z, tv⟩ hI106 hl100 hD101 ho99 z
 refine nK h79 H fun H=>wf (bN h79)<|wx<|?_
 cases H
 exact ⟨z, A39, c40, _, z, hG72, ⟨z, tv⟩, hI74, hl41, hD42, ho43, tv⟩
 rintro e r ds wd68 ⟨rfl, A60, c61, G66, rfl, hG67, hHas, hI69, hl62, hD63, ho64, _⟩
 rw [hHas.eq]; clear hHas
 refine hK31 _ _ _<|sr fun K110 hK111=>mv z<|q_cvb hI69 el124 ik5 so9 z z hD63<|asn z<|asn z<|nl<|hK111 _ _ _<|wr<|have hI112:=Hp.sub hI69 (sd (sd se));?_
 cases H
 exact rt ⟨_, _, z, z, ⟨_, _, z, z, z⟩⟩ (Hp.low (gT hG9 hG67) hI112)
theorem formeref01_Floor_spec {a1 a2 r1003 G L w} (H : formeref01_Floor a1 a2 = some r1003) (hI : Hp G L w) :
    Calls Tryz.prog 45 [int .i64 a1, int .i64 a2].toArray w fun e w' => Hp G L w' ∧ e = .returned (int .i64 r1003) := by
 refine calls_intro (N := 16) Tryz.func45 z z (Nat.le_of_ble_eq_true z)<|?_
 unfold formeref01_Floor at H
 refine sr fun K3 hK4=>asn z<|nl<|hK4 _ _ _<|sr fun K5 hK6=>mv z<|mv z<|iK H fun h7 H=>q_quo z z h7<|asn z<|nl<|hK6 _ _ _<|sQ fun K8 hK9=>sr fun K10 hK11=>?_
 refine mv z<|mv z<|iK H fun h12 H=>q_rem z z h12<|q_lss z z<|nl<|hK11 _ _ _<|dC ((Int.tmod a1 a2) < 0) (fun h13=>?_) fun h13=>?_
 refine yK h13 H fun H=>wt (bY h13)<|wpc_region<|mv z<|q_sub z z<|asn z<|nl<|hK9 _ _ _<|sr fun K14 hK15=>mv z<|asn z<|nl<|hK15 _ _ _<|wr<|?_
 cases H
 exact rt ⟨_, _, z, z, z⟩ hI
 refine nK h13 H fun H=>wf (bN h13)<|ws<|hK9 _ _ _<|sr fun K16 hK17=>mv z<|asn z<|nl<|hK17 _ _ _<|wr<|?_
 cases H
 exact rt ⟨_, _, z, z, z⟩ hI
theorem formeref17_Place_spec {a1 a10 a11 a12 a13 a14 a15 A2 c3 A6 c7 r1016 r1017 r1018 G L w} (H : formeref17_Place a1 a10 a11 a12 a13 a14 a15 = some (r1016, r1017, r1018)) (hI : Hp G L w) (hl4 : a1.Glyphs.length ≤ c3) (hD5 : Dat k_api_Glyph G A2 a1.Glyphs) (hl8 : a1.Kerns.length ≤ c7) (hD9 : Dat k_api_Kern G A6 a1.Kerns) :
    Calls Tryz.prog 17 [agg [slice A2 a1.Glyphs.length c3, slice A6 a1.Kerns.length c7].toArray, string a10, agg [int .i64 a11.From, int .i64 a11.Until, int .i64 a11.Width, bool a11.Hyphen].toArray, int .i64 a12, int .i64 a13, int .i64 a14, int .i64 a15].toArray w fun e w' => Hp G L w' ∧ e = .returned (tuple [string r1016, int .i64 r1017, int .i64 r1018].toArray) := by
 refine calls_intro (N := 126) Tryz.func17 z z (Nat.le_of_ble_eq_true z)<|?_
 unfold formeref17_Place at H
 refine sr fun K16 hK17=>bxk hI z z fun g19 wd20 hI21=>bxk hI21 z z fun g23 wd24 hI25=>asn z<|asn z<|asn z<|nl<|hK17 _ _ _<|sr fun K26 hK27=>lda hI25 1 ag25 z z z z<|bK H fun y33 hy28 H=>cv bo40 (formeref07_Valid_spec hy28 hI25 hl4 hD5 hl8 hD9) z z fun wd31 hI32=>asn z<|nl<|?_
 refine hK27 _ _ _<|sr fun K34 hK35=>mv z<|bK H fun y41 hy36 H=>cv bo41 (formeref06_Valid_spec hy36 hI32) z z fun wd39 hI40=>asn z<|nl<|hK35 _ _ _<|sr fun K42 hK43=>mv z<|bK H fun y49 hy44 H=>cv bo42 (formeref17_scaled_spec hy44 hI40) z z fun wd47 hI48=>asn z<|nl<|?_
 refine hK43 _ _ _<|sr fun K50 hK51=>mv z<|bK H fun y57 hy52 H=>cv bo28 (formeref17_room_spec hy52 hI48) z z fun wd55 hI56=>asn z<|nl<|hK51 _ _ _<|sQ fun K58 hK59=>sr fun K60 hK61=>mv z<|q_not z<|mv z<|bK H fun v62 hC H=>?_
 refine js 3 hI56 [(1, string a10), (3, int .i64 a12), (4, int .i64 a13), (5, int .i64 a14), (6, int .i64 a15), (7, pointer (some ⟨g19, 0, none⟩)), (9, pointer (some ⟨g23, 0, none⟩)), (19, bool y49), (20, bool y57), (39, bool v62)] ?_ fun _ wd65 hI66=>?_
 refine have H:=hC;dC ((!y33) = true) (fun h68=>?_) fun h68=>?_
 refine yK h68 H fun H=>Sk 2 z z (vY h68) z<|pkt (vY h68) z<|nl<|?_
 cases H
 exact je ⟨z, z, z, z, z, z, z, z, z, z, tv⟩ hI56
 refine nK h68 H fun H=>mv (hw:=gY z z z (vN h68)) z<|q_not (hw:=gY z z z (vN h68)) z<|pkf (vN h68) z<|nl<|?_
 cases H
 exact je ⟨z, z, z, z, z, z, z, z, z, z, tv⟩ hI56
 refine mv z<|bK H fun v69 hC H=>js 3 hI66 [(1, string a10), (3, int .i64 a12), (4, int .i64 a13), (5, int .i64 a14), (6, int .i64 a15), (7, pointer (some ⟨g19, 0, none⟩)), (9, pointer (some ⟨g23, 0, none⟩)), (20, bool y57), (43, bool v69)] ?_ fun _ wd72 hI73=>?_
 refine have H:=hC;dC (v62 = true) (fun h75=>?_) fun h75=>?_
 refine yK h75 H fun H=>Sk 2 z z (vY h75) z<|pkt (vY h75) z<|nl<|?_
 cases H
 exact je ⟨z, z, z, z, z, z, z, z, z, tv⟩ hI66
 refine nK h75 H fun H=>mv (hw:=gY z z z (vN h75)) z<|q_not (hw:=gY z z z (vN h75)) z<|pkf (vN h75) z<|nl<|?_
 cases H
 exact je ⟨z, z, z, z, z, z, z, z, z, tv⟩ hI66
 refine mv z<|bK H fun v76 hC H=>js 3 hI73 [(1, string a10), (3, int .i64 a12), (4, int .i64 a13), (5, int .i64 a14), (6, int .i64 a15), (7, pointer (some ⟨g19, 0, none⟩)), (9, pointer (some ⟨g23, 0, none⟩)), (47, bool v76)] ?_ fun _ wd79 hI80=>?_
 refine have H:=hC;dC (v69 = true) (fun h82=>?_) fun h82=>?_
 refine yK h82 H fun H=>Sk 2 z z (vY h82) z<|pkt (vY h82) z<|nl<|?_
 cases H
 exact je ⟨z, z, z, z, z, z, z, z, tv⟩ hI73
 refine nK h82 H fun H=>mv (hw:=gY z z z (vN h82)) z<|q_not (hw:=gY z z z (vN h82)) z<|pkf (vN h82) z<|nl<|?_
 cases H
 exact je ⟨z, z, z, z, z, z, z, z, tv⟩ hI73
 refine mv z<|bK H fun v83 hC H=>js 3 hI80 [(1, string a10), (3, int .i64 a12), (4, int .i64 a13), (5, int .i64 a14), (6, int .i64 a15), (7, pointer (some ⟨g19, 0, none⟩)), (9, pointer (some ⟨g23, 0, none⟩)), (51, bool v83)] ?_ fun _ wd86 hI87=>?_
 refine have H:=hC;dC (v76 = true) (fun h89=>?_) fun h89=>?_
 refine yK h89 H fun H=>Sk 2 z z (vY h89) z<|pkt (vY h89) z<|nl<|?_
 cases H
 exact je ⟨z, z, z, z, z, z, z, z, tv⟩ hI80
 refine nK h89 H fun H=>mv (hw:=gY z z z (vN h89)) z<|q_lss (hw:=gY z z z (vN h89)) z z<|pkf (vN h89) z<|nl<|?_
 cases H
 exact je ⟨z, z, z, z, z, z, z, z, tv⟩ hI80
 refine mv z<|bK H fun v90 hC H=>js 3 hI87 [(1, string a10), (3, int .i64 a12), (4, int .i64 a13), (5, int .i64 a14), (6, int .i64 a15), (7, pointer (some ⟨g19, 0, none⟩)), (9, pointer (some ⟨g23, 0, none⟩)), (55, bool v90)] ?_ fun _ wd93 hI94=>?_
 refine have H:=hC;dC (v83 = true) (fun h96=>?_) fun h96=>?_
 refine yK h96 H fun H=>Sk 2 z z (vY h96) z<|pkt (vY h96) z<|nl<|?_
 cases H
 exact je ⟨z, z, z, z, z, z, z, z, tv⟩ hI87
 refine nK h96 H fun H=>mv (hw:=gY z z z (vN h96)) z<|q_gtr (hw:=gY z z z (vN h96)) z z<|pkf (vN h96) z<|nl<|?_
 cases H
 exact je ⟨z, z, z, z, z, z, z, z, tv⟩ hI87
 refine mv z<|bK H fun v97 hC H=>js 3 hI94 [(1, string a10), (3, int .i64 a12), (4, int .i64 a13), (5, int .i64 a14), (6, int .i64 a15), (7, pointer (some ⟨g19, 0, none⟩)), (9, pointer (some ⟨g23, 0, none⟩)), (59, bool v97)] ?_ fun _ wd100 hI101=>?_
 refine have H:=hC;dC (v90 = true) (fun h103=>?_) fun h103=>?_
 refine yK h103 H fun H=>Sk 2 z z (vY h103) z<|pkt (vY h103) z<|nl<|?_
 cases H
 exact je ⟨z, z, z, z, z, z, z, z, tv⟩ hI94
 refine nK h103 H fun H=>mv (hw:=gY z z z (vN h103)) z<|q_lss (hw:=gY z z z (vN h103)) z z<|pkf (vN h103) z<|nl<|?_
 cases H
 exact je ⟨z, z, z, z, z, z, z, z, tv⟩ hI94
 refine mv z<|bK H fun v104 hC H=>js 3 hI101 [(1, string a10), (3, int .i64 a12), (4, int .i64 a13), (5, int .i64 a14), (6, int .i64 a15), (7, pointer (some ⟨g19, 0, none⟩)), (9, pointer (some ⟨g23, 0, none⟩)), (63, bool v104)] ?_ fun _ wd107 hI108=>?_
 refine have H:=hC;dC (v97 = true) (fun h110=>?_) fun h110=>?_
 refine yK h110 H fun H=>Sk 2 z z (vY h110) z<|pkt (vY h110) z<|nl<|?_
 cases H
 exact je ⟨z, z, z, z, z, z, z, z, tv⟩ hI101
 refine nK h110 H fun H=>mv (hw:=gY z z z (vN h110)) z<|q_gtr (hw:=gY z z z (vN h110)) z z<|pkf (vN h110) z<|nl<|?_
 cases H
 exact je ⟨z, z, z, z, z, z, z, z, tv⟩ hI101
 refine mv z<|bK H fun v111 hC H=>js 4 hI108 [(1, string a10), (3, int .i64 a12), (4, int .i64 a13), (5, int .i64 a14), (6, int .i64 a15), (7, pointer (some ⟨g19, 0, none⟩)), (9, pointer (some ⟨g23, 0, none⟩)), (68, bool v111)] ?_ fun _ wd114 hI115=>?_
 refine have H:=hC;dC (v104 = true) (fun h117=>?_) fun h117=>?_
 refine yK h117 H fun H=>Sk 3 z z (vY h117) z<|pkt (vY h117) z<|nl<|?_
 cases H
 exact je ⟨z, z, z, z, z, z, z, z, tv⟩ hI108
 refine nK h117 H fun H=>fa (hw:=gY z z z (vN h117)) fl31_0 z<|ld (hw:=gY z z z (vN h117)) hI108 0 ag3 z z z<|q_lss (hw:=gY z z z (vN h117)) z z<|pkf (vN h117) z<|nl<|?_
 cases H
 exact je ⟨z, z, z, z, z, z, z, z, tv⟩ hI108
 refine mv z<|bK H fun v118 hC H=>js 6 hI115 [(1, string a10), (3, int .i64 a12), (4, int .i64 a13), (5, int .i64 a14), (6, int .i64 a15), (7, pointer (some ⟨g19, 0, none⟩)), (9, pointer (some ⟨g23, 0, none⟩)), (75, bool v118)] ?_ fun _ wd121 hI122=>?_
 refine have H:=hC;dC (v111 = true) (fun h124=>?_) fun h124=>?_
 refine yK h124 H fun H=>Sk 5 z z (vY h124) z<|pkt (vY h124) z<|nl<|?_
 cases H
 exact je ⟨z, z, z, z, z, z, z, z, tv⟩ hI115
 refine nK h124 H fun H=>fa (hw:=gY z z z (vN h124)) fl31_0 z<|ld (hw:=gY z z z (vN h124)) hI115 0 ag3 z z z<|fa (hw:=gY z z z (vN h124)) fl31_1 z<|ld (hw:=gY z z z (vN h124)) hI115 0 ag3 z z z<|q_geq (hw:=gY z z z (vN h124)) z z<|pkf (vN h124) z<|nl<|?_
 cases H
 exact je ⟨z, z, z, z, z, z, z, z, tv⟩ hI115
 refine mv z<|bK H fun v125 hC H=>js 6 hI122 [(1, string a10), (3, int .i64 a12), (4, int .i64 a13), (5, int .i64 a14), (6, int .i64 a15), (7, pointer (some ⟨g19, 0, none⟩)), (9, pointer (some ⟨g23, 0, none⟩)), (82, bool v125)] ?_ fun _ wd128 hI129=>?_
 refine have H:=hC;dC (v118 = true) (fun h131=>?_) fun h131=>?_
 refine yK h131 H fun H=>Sk 5 z z (vY h131) z<|pkt (vY h131) z<|nl<|?_
 cases H
 exact je ⟨z, z, z, z, z, z, z, z, tv⟩ hI122
 refine nK h131 H fun H=>fa (hw:=gY z z z (vN h131)) fl31_1 z<|ld (hw:=gY z z z (vN h131)) hI122 0 ag3 z z z<|mv (hw:=gY z z z (vN h131)) z<|q_lens (hw:=gY z z z (vN h131)) so9 z<|q_gtr (hw:=gY z z z (vN h131)) z z<|pkf (vN h131) z<|nl<|?_
 cases H
 exact je ⟨z, z, z, z, z, z, z, z, tv⟩ hI122
 refine nl<|hK61 _ _ _<|dC (v125 = true) (fun h132=>?_) fun h132=>?_
 refine yK h132 H fun H=>wt (vY h132)<|sr fun K133 hK134=>asn z<|asn z<|asn z<|nl<|hK134 _ _ _<|wr<|have hI135:=Hp.sub hI129 (sd (sd se));?_
 cases H
 exact rt ⟨_, _, z, z, ⟨_, _, z, z, ⟨_, _, z, z, z⟩⟩⟩ hI135
 refine nK h132 H fun H=>wf (vN h132)<|ws<|hK59 _ _ _<|sr fun K136 hK137=>mv z<|fa fl31_0 z<|ld hI129 0 ag3 z z z<|fa fl31_1 z<|ld hI129 0 ag3 z z z<|fa fl31_3 z<|ld hI129 0 ag4 z z z<|bK H fun y143 hy138 H=>cv bo22 (formeref08_Part_spec hy138 hI129) z z fun wd141 hI142=>?_
 refine asn z<|nl<|hK137 _ _ _<|sr fun K144 hK145=>lda hI142 1 ag25 z z z z<|mv z<|mv z<|bK2 H fun y151 y152 hy146 H=>cv bo43 (formeref07_Width_spec hy146 hI142 hl4 hD5 hl8 hD9) z z fun wd149 hI150=>mv z<|exk z z<|exk z z<|asn z<|asn z<|?_
 refine nl<|hK145 _ _ _<|sQ fun K153 hK154=>sr fun K155 hK156=>mv z<|q_neq z z<|nl<|hK156 _ _ _<|dC (¬ y152 = 0) (fun h157=>?_) fun h157=>?_
 refine yK h157 H fun H=>wt (bY h157)<|sr fun K158 hK159=>mv z<|asn z<|asn z<|asn z<|nl<|hK159 _ _ _<|wr<|have hI160:=Hp.sub hI150 (sd (sd se));?_
 cases H
 exact rt ⟨_, _, z, z, ⟨_, _, z, z, ⟨_, _, z, z, z⟩⟩⟩ hI160
 refine nK h157 H fun H=>wf (bN h157)<|ws<|hK154 _ _ _<|sQ fun K161 hK162=>sr fun K163 hK164=>mv z<|fa fl31_2 z<|ld hI150 0 ag3 z z z<|q_neq z z<|nl<|hK164 _ _ _<|dC (¬ y151 = a11.Width) (fun h165=>?_) fun h165=>?_
 refine yK h165 H fun H=>wt (bY h165)<|sr fun K166 hK167=>asn z<|asn z<|asn z<|nl<|hK167 _ _ _<|wr<|have hI168:=Hp.sub hI150 (sd (sd se));?_
 cases H
 exact rt ⟨_, _, z, z, ⟨_, _, z, z, ⟨_, _, z, z, z⟩⟩⟩ hI168
 refine nK h165 H fun H=>wf (bN h165)<|ws<|hK162 _ _ _<|sr fun K169 hK170=>mv z<|mv z<|bK2 H fun y176 y177 hy171 H=>cv bo44 (formeref09_Visual_spec hy171 hI150) z z fun wd174 hI175=>mv z<|exk z z<|exk z z<|asn z<|asn z<|?_
 refine nl<|hK170 _ _ _<|sQ fun K178 hK179=>sr fun K180 hK181=>mv z<|q_eql z z<|nl<|hK181 _ _ _<|dC (a14 = 2) (fun h182=>?_) fun h182=>?_
 refine yK h182 H fun H=>wt (bY h182)<|sr fun K183 hK184=>mv z<|mv z<|mv z<|q_sub z z<|bK H fun y190 hy185 H=>cv bo45 (formeref01_Floor_spec hy185 hI175) z z fun wd188 hI189=>asn z<|asn z<|asn z<|nl<|hK184 _ _ _<|?_
 refine wr<|have hI191:=Hp.sub hI189 (sd (sd se));?_
 cases H
 exact rt ⟨_, _, z, z, ⟨_, _, z, z, ⟨_, _, z, z, z⟩⟩⟩ hI191
 refine nK h182 H fun H=>wf (bN h182)<|ws<|hK179 _ _ _<|sQ fun K192 hK193=>sr fun K194 hK195=>mv z<|mv z<|q_eql z z<|nl<|hK195 _ _ _<|dC (a14 = a15) (fun h196=>?_) fun h196=>?_
 refine yK h196 H fun H=>wt (bY h196)<|sr fun K197 hK198=>mv z<|asn z<|asn z<|asn z<|nl<|hK198 _ _ _<|wr<|have hI199:=Hp.sub hI175 (sd (sd se));?_
 cases H
 exact rt ⟨_, _, z, z, ⟨_, _, z, z, ⟨_, _, z, z, z⟩⟩⟩ hI199
 refine nK h196 H fun H=>wf (bN h196)<|ws<|hK193 _ _ _<|sr fun K200 hK201=>mv z<|mv z<|mv z<|q_sub z z<|asn z<|asn z<|asn z<|nl<|hK201 _ _ _<|?_
 refine wr<|have hI202:=Hp.sub hI175 (sd (sd se));?_
 cases H
 exact rt ⟨_, _, z, z, ⟨_, _, z, z, ⟨_, _, z, z, z⟩⟩⟩ hI202
end Go.Proofs.YtokeiiakkfdmgaaGreatDoor.LG
