/-
  The walks: each function computes its plain function: printed by a program out of the translation.
-/
import Derived.Test.YtaemgcpcfnbmdaaGreatDoorSd
set_option linter.unusedVariables false
set_option linter.unusedSimpArgs false
set_option maxRecDepth 100000
namespace Go.Proofs.YtaemgcpcfnbmdaaGreatDoor.LG
open Go Go.LG Go.RowKit Go.Value
set_option maxHeartbeats 1000000
open Go.Lib Go.Shelf Go.Proofs
theorem formelaw21_WrapClear_spec {a1 a10 a15 a16 a17 A2 c3 A6 c7 A11 c12 A18 c19 r1022 G L w} (H : formelaw21_WrapClear a1 a10 a15 a16 a17 = some r1022) (hI : Hp G L w) (hl4 : a1.Glyphs.length ≤ c3) (hD5 : Dat k_api_Glyph G A2 a1.Glyphs) (hl8 : a1.Kerns.length ≤ c7) (hD9 : Dat k_api_Kern G A6 a1.Kerns) (hl13 : a10.Keep.length ≤ c12) (hD14 : Dat Kd.str G A11 a10.Keep) (hl20 : a17.length ≤ c19) (hD21 : Dat k_api_Float G A18 a17) (hgl : Gl G) :
    Calls Tryz.prog 5 [agg [slice A2 a1.Glyphs.length c3, slice A6 a1.Kerns.length c7].toArray, agg [int .i64 a10.Before, int .i64 a10.Behind, slice A11 a10.Keep.length c12].toArray, string a15, agg [int .i64 a16.Scale, int .i64 a16.Line, int .i64 a16.Align, int .i64 a16.Dir, int .i64 a16.Width, int .i64 a16.Y].toArray, slice A18 a17.length c19].toArray w fun e w' => Hp G L w' ∧ e = .returned (bool r1022) := by
 refine calls_intro (N := 134) Tryz.func5 z z (Nat.le_of_ble_eq_true z)<|?_
 unfold formelaw21_WrapClear at H
 refine sr fun K22 hK23=>bxk hI z z fun g25 wd26 hI27=>bxk hI27 z z fun g29 wd30 hI31=>bxk hI31 z z fun g33 wd34 hI35=>asn z<|nl<|hK23 _ _ _<|sr fun K36 hK37=>bK H fun y43 hy38 H=>cv bo10 (formelaw21_head_spec hy38 hI35 (hgl.mono gR)) z z fun wd41 hI42=>asn z<|nl<|hK37 _ _ _<|sQ fun K44 hK45=>?_
 refine sr fun K46 hK47=>lda hI42 2 ag25 z z z z<|lda hI42 1 ag28 z z z z<|mv z<|lda hI42 0 ag30 z z z z<|mv z<|bK H fun y53 hy48 H=>cv bo15 (formelaw21_usable_spec hy48 hI42 hl4 hD5 hl8 hD9 hl13 hD14 hl20 hD21) z z fun wd51 hI52=>q_not z<|nl<|hK47 _ _ _<|dC ((!y53) = true) (fun h54=>?_) fun h54=>?_
 refine yK h54 H fun H=>wt (vY h54)<|sr fun K55 hK56=>mv z<|asn z<|nl<|hK56 _ _ _<|wr<|have hI57:=Hp.sub hI52 (sd (sd (sd se)));?_
 cases H
 exact rt ⟨_, _, z, z, z⟩ hI57
 refine nK h54 H fun H=>wf (vN h54)<|ws<|hK45 _ _ _<|sr fun K58 hK59=>lda hI52 2 ag25 z z z z<|lda hI52 1 ag28 z z z z<|mv z<|lda hI52 0 ag30 z z z z<|mv z<|bK3 H fun y65 y72 y73 hy60 H=>q_cv (vs := [agg [slice A2 a1.Glyphs.length c3, slice A6 a1.Kerns.length c7].toArray, agg [int .i64 a10.Before, int .i64 a10.Behind, slice A11 a10.Keep.length c12].toArray, string a15, agg [int .i64 a16.Scale, int .i64 a16.Line, int .i64 a16.Align, int .i64 a16.Dir, int .i64 a16.Width, int .i64 a16.Y].toArray, slice A18 a17.length c19]) bo12 z z (formelaw21_lines_spec hy60 hI52 hl4 hD5 hl8 hD9 hl13 hD14 hl20 hD21 (hgl.mono gR))<|?_
 rintro _ wd63 ⟨A66, c67, G61, hG62, hI64, hl68, hD69, ho70, rfl⟩
 refine ⟨_, rfl, ?_⟩
 refine mv z<|exk z z<|exk z z<|exk z z<|asn z<|asn z<|asn z<|nl<|hK59 _ _ _<|sQ fun K74 hK75=>sr fun K76 hK77=>mv z<|q_neq z z<|nl<|?_
 refine hK77 _ _ _<|dC (¬ y73 = 0) (fun h78=>?_) fun h78=>?_
 refine yK h78 H fun H=>wt (bY h78)<|sr fun K79 hK80=>mv z<|mv z<|bK H fun v81 hC H=>?_
 refine jS 4 G61 [(14, int .i64 y73), (49, bool v81)] (bx g33 [int .i64 a16.Scale, int .i64 a16.Line, int .i64 a16.Align, int .i64 a16.Dir, int .i64 a16.Width, int .i64 a16.Y] 30 :: bx g29 [int .i64 a10.Before, int .i64 a10.Behind, slice A11 a10.Keep.length c12] 28 :: bx g25 [slice A2 a1.Glyphs.length c3, slice A6 a1.Kerns.length c7] 25 :: tk (slice A66 y65.length c67) 5 50 :: L) ?_ fun _ wd84 hI85=>?_
 refine have H:=hC;dC (y43 = true) (fun h87=>?_) fun h87=>?_
 refine yK h87 H fun H=>mv (hw:=gY z z z (vY h87)) z<|q_len (hw:=gY z z z (vY h87)) so34 z<|q_eql (hw:=gY z z z (vY h87)) z z<|pkt (vY h87) z<|nl<|have hI88:=Hp.front hI64 3 z;have hI89:=Hp.front hI88 3 z;have hI90:=Hp.front hI89 3 z;?_
 cases H
 exact je ⟨z, z, tv⟩ hI90
 refine nK h87 H fun H=>Sk 3 z z (vN h87) z<|pkf (vN h87) z<|nl<|have hI91:=Hp.front hI64 3 z;have hI92:=Hp.front hI91 3 z;have hI93:=Hp.front hI92 3 z;?_
 cases H
 exact je ⟨z, z, tv⟩ hI93
 refine mv z<|bK H fun v94 hC H=>js 7 hI85 [(57, bool v94)] ?_ fun _ wd97 hI98=>?_
 refine have H:=hC;dC (v81 = true) (fun h100=>?_) fun h100=>?_
 refine yK h100 H fun H=>mv (hw:=gY z z z (vY h100)) z<|q_eql (hw:=gY z z z (vY h100)) z z<|mv (hw:=gY z z z (vY h100)) z<|bK H fun v101 hC H=>js 3 hI85 [(50, bool v81), (56, bool v101)] ?_ fun _ wd104 hI105=>?_
 refine have H:=hC;dC (y73 = 20) (fun h107=>?_) fun h107=>?_
 refine yK h107 H fun H=>Sk 2 z z (bY h107) z<|pkt (hw:=gY z z z (vY h100)) (bY h107) z<|nl<|?_
 cases H
 exact je ⟨z, z, tv⟩ hI85
 refine nK h107 H fun H=>mv (hw:=gY z z z (bN h107)) z<|q_eql (hw:=gY z z z (bN h107)) z z<|pkf (hw:=gY z z z (vY h100)) (bN h107) z<|nl<|?_
 cases H
 exact je ⟨z, z, tv⟩ hI85
 refine pkt (vY h100) z<|nl<|?_
 cases H
 exact je ⟨z, tv⟩ hI105
 refine nK h100 H fun H=>Sk 3 z z (vN h100) z<|Su 2 z<|wN (gN z z z (vN h100) z)<|pkf (vN h100) z<|nl<|?_
 cases H
 exact je ⟨z, tv⟩ hI85
 refine asn z<|nl<|hK80 _ _ _<|wr<|have hI108:=Hp.sub hI98 (sd (sd (sd (sd se))));?_
 cases H
 exact rt ⟨_, _, z, z, z⟩ (Hp.low hG62 hI108)
 refine nK h78 H fun H=>wf (bN h78)<|ws<|hK75 _ _ _<|sQ fun K109 hK110=>sr fun K111 hK112=>mv z<|q_len so34 z<|mv z<|nl<|hK112 _ _ _<|wb<|bK H fun v126 hC H=>?_
 refine wpc_mono (Q := fun e r ds w => e = .exit 0 ∧ ds = [] ∧ Has [(11, bool v126)] r ∧ Hp G61 (bx g33 [int .i64 a16.Scale, int .i64 a16.Line, int .i64 a16.Align, int .i64 a16.Dir, int .i64 a16.Width, int .i64 a16.Y] 30 :: bx g29 [int .i64 a10.Before, int .i64 a10.Behind, slice A11 a10.Keep.length c12] 28 :: bx g25 [slice A2 a1.Glyphs.length c3, slice A6 a1.Kerns.length c7] 25 :: tk (slice A66 y65.length c67) 5 50 :: L) w ∧ True) ?_ ?_
 refine have hI293:=Hp.front hI64 3 z;have hI294:=Hp.front hI293 3 z;have hI295:=Hp.front hI294 3 z;wpc_loop fun I hLp=>?_
 refine formelaw21_WrapClear_l125.partial_correctness a16 a17 y65 (fun v117 v118 o => ∀ (r : Rg) (w : World), Has [(4, slice A18 a17.length c19), (8, pointer (some ⟨g33, 0, none⟩)), (11, bool v117), (58, slice A66 y65.length c67), (59, int .i64 (y65.length : Int)), (60, int .i64 v118)] r → Hp G61 (bx g33 [int .i64 a16.Scale, int .i64 a16.Line, int .i64 a16.Align, int .i64 a16.Dir, int .i64 a16.Width, int .i64 a16.Y] 30 :: bx g29 [int .i64 a10.Before, int .i64 a10.Behind, slice A11 a10.Keep.length c12] 28 :: bx g25 [slice A2 a1.Glyphs.length c3, slice A6 a1.Kerns.length c7] 25 :: tk (slice A66 y65.length c67) 5 50 :: L) w → o = v126 → I r [] w) ?_ y43 0 _ hC _ _ ⟨rfl, rfl, rfl, rfl, rfl, rfl, tv⟩ hI295 rfl
 intro _ ih v117 v118 o H r wd134 hHas hI135 ho
 rw [ho] at H; clear ho
 rw [hHas.eq]; clear hHas
 refine hLp _ _ _<|sr fun K136 hK137=>q_lss z z<|nl<|hK137 _ _ _<|sQ fun K138 hK139=>dC (v118 < (y65.length : Int)) (fun h140=>?_) fun h140=>?_
 refine yK h140 H fun H=>wt (bY h140)<|ws<|hK139 _ _ _<|sQ fun K141 hK142=>wb<|sr fun K143 hK144=>iK H fun⟨h145, h145'⟩H=>?_
 obtain ⟨ad146, cs147, hA148, hK149, hn150, hc151⟩ := Dat.get hD69 z_api_Seen (v118) h145 h145'
 obtain ⟨rfl⟩ := open_api_Seen hK149
 refine q_ia el34 z hA148 z h145 h145'<|q_lfA hI135 ag50 z (cs := [string ((y65.getD (Int.toNat v118) z_api_Seen).Text), int .i64 ((y65.getD (Int.toNat v118) z_api_Seen).X), int .i64 ((y65.getD (Int.toNat v118) z_api_Seen).Y), int .i64 ((y65.getD (Int.toNat v118) z_api_Seen).W), int .i64 ((y65.getD (Int.toNat v118) z_api_Seen).H)]) z (fun j v hv => gR.cel _ _ (hc151 j v hv))<|q_alloc hI135 ze50 fun g153 wd154 hI155=>stk hI155 0 ag50 z z z z z z z fun wd156 hI157=>nl<|hK144 _ _ _<|sr fun K158 hK159=>mv z<|fa fl30_4 z<|ld hI157 1 ag3 z z z<|fa fl50_2 z<|ld hI157 0 ag3 z z z<|fa fl30_1 z<|ld hI157 1 ag3 z z z<|?_
 refine bK2 H fun y165 y166 hy160 H=>cv bo18 (floats_Room_spec hy160 hI157 hl20 (Dat.mono hG62 hD21)) z z fun wd163 hI164=>mv z<|exk z z<|exk z z<|q_alloc hI164 ze53 fun g168 wd169 hI170=>stk hI170 0 ag53 z z z z z z z fun wd171 hI172=>asn z<|nl<|hK159 _ _ _<|sr fun K173 hK174=>asn z<|nl<|hK174 _ _ _<|?_
 refine sQ fun K175 hK176=>sr fun K177 hK178=>mv z<|q_len so31 z<|mv z<|nl<|hK178 _ _ _<|wb<|bK H fun v192 hC H=>?_
 refine wpc_mono (Q := fun e r ds w => e = .exit 2 ∧ ds = [] ∧ Has [(4, slice A18 a17.length c19), (8, pointer (some ⟨g33, 0, none⟩)), (11, bool v117), (16, pointer (some ⟨g153, 0, none⟩)), (17, pointer (some ⟨g168, 0, none⟩)), (18, int .i64 y166), (19, bool v192), (58, slice A66 y65.length c67), (59, int .i64 (y65.length : Int)), (60, int .i64 v118)] r ∧ Hp G61 (bx g168 [int .i64 y165.Lo, int .i64 y165.Hi] 53 :: bx g153 [string ((y65.getD (Int.toNat v118) z_api_Seen).Text), int .i64 ((y65.getD (Int.toNat v118) z_api_Seen).X), int .i64 ((y65.getD (Int.toNat v118) z_api_Seen).Y), int .i64 ((y65.getD (Int.toNat v118) z_api_Seen).W), int .i64 ((y65.getD (Int.toNat v118) z_api_Seen).H)] 50 :: bx g33 [int .i64 a16.Scale, int .i64 a16.Line, int .i64 a16.Align, int .i64 a16.Dir, int .i64 a16.Width, int .i64 a16.Y] 30 :: bx g29 [int .i64 a10.Before, int .i64 a10.Behind, slice A11 a10.Keep.length c12] 28 :: bx g25 [slice A2 a1.Glyphs.length c3, slice A6 a1.Kerns.length c7] 25 :: tk (slice A66 y65.length c67) 5 50 :: L) w ∧ True) ?_ ?_
 refine wpc_loop fun I hLp=>?_
 refine formelaw21_WrapClear_l191.partial_correctness a16 a17 y65 v118 (fun v183 v184 o => ∀ (r : Rg) (w : World), Has [(4, slice A18 a17.length c19), (8, pointer (some ⟨g33, 0, none⟩)), (11, bool v117), (16, pointer (some ⟨g153, 0, none⟩)), (17, pointer (some ⟨g168, 0, none⟩)), (18, int .i64 y166), (19, bool v183), (58, slice A66 y65.length c67), (59, int .i64 (y65.length : Int)), (60, int .i64 v118), (75, slice A18 a17.length c19), (76, int .i64 (a17.length : Int)), (77, int .i64 v184)] r → Hp G61 (bx g168 [int .i64 y165.Lo, int .i64 y165.Hi] 53 :: bx g153 [string ((y65.getD (Int.toNat v118) z_api_Seen).Text), int .i64 ((y65.getD (Int.toNat v118) z_api_Seen).X), int .i64 ((y65.getD (Int.toNat v118) z_api_Seen).Y), int .i64 ((y65.getD (Int.toNat v118) z_api_Seen).W), int .i64 ((y65.getD (Int.toNat v118) z_api_Seen).H)] 50 :: bx g33 [int .i64 a16.Scale, int .i64 a16.Line, int .i64 a16.Align, int .i64 a16.Dir, int .i64 a16.Width, int .i64 a16.Y] 30 :: bx g29 [int .i64 a10.Before, int .i64 a10.Behind, slice A11 a10.Keep.length c12] 28 :: bx g25 [slice A2 a1.Glyphs.length c3, slice A6 a1.Kerns.length c7] 25 :: tk (slice A66 y65.length c67) 5 50 :: L) w → o = v192 → I r [] w) ?_ false 0 _ hC _ _ ⟨rfl, rfl, rfl, rfl, rfl, rfl, rfl, rfl, rfl, rfl, rfl, rfl, rfl, tv⟩ hI172 rfl
 intro _ ih v183 v184 o H r wd200 hHas hI201 ho
 rw [ho] at H; clear ho
 rw [hHas.eq]; clear hHas
 refine hLp _ _ _<|sr fun K202 hK203=>q_lss z z<|nl<|hK203 _ _ _<|sQ fun K204 hK205=>dC (v184 < (a17.length : Int)) (fun h206=>?_) fun h206=>?_
 refine yK h206 H fun H=>wt (bY h206)<|ws<|hK205 _ _ _<|sQ fun K207 hK208=>wb<|sr fun K209 hK210=>iK H fun⟨h211, h211'⟩H=>?_
 obtain ⟨ad212, cs213, hA214, hK215, hn216, hc217⟩ := Dat.get (Dat.mono hG62 hD21) z_api_Float (v184) h211 h211'
 obtain ⟨rfl⟩ := open_api_Float hK215
 refine q_ia el31 z hA214 z h211 h211'<|q_lfA hI201 ag57 z (cs := [int .i64 ((a17.getD (Int.toNat v184) z_api_Float).Side), int .i64 ((a17.getD (Int.toNat v184) z_api_Float).X), int .i64 ((a17.getD (Int.toNat v184) z_api_Float).Y), int .i64 ((a17.getD (Int.toNat v184) z_api_Float).W), int .i64 ((a17.getD (Int.toNat v184) z_api_Float).H)]) z (fun j v hv => gR.cel _ _ (hc217 j v hv))<|q_alloc hI201 ze57 fun g219 wd220 hI221=>stk hI221 0 ag57 z z z z z z z fun wd222 hI223=>nl<|hK210 _ _ _<|wpc_region<|mv z<|mv z<|bK H fun v224 hC H=>?_
 refine js 7 hI223 [(4, slice A18 a17.length c19), (8, pointer (some ⟨g33, 0, none⟩)), (11, bool v117), (16, pointer (some ⟨g153, 0, none⟩)), (17, pointer (some ⟨g168, 0, none⟩)), (18, int .i64 y166), (58, slice A66 y65.length c67), (59, int .i64 (y65.length : Int)), (60, int .i64 v118), (75, slice A18 a17.length c19), (76, int .i64 (a17.length : Int)), (77, int .i64 v184), (89, bool v224)] ?_ fun _ wd227 hI228=>?_
 refine have H:=hC;dC (v183 = true) (fun h230=>?_) fun h230=>?_
 refine yK h230 H fun H=>Sk 6 z z (vY h230) z<|pkt (vY h230) z<|nl<|?_
 cases H
 exact je ⟨z, z, z, z, z, z, z, z, z, z, z, z, z, tv⟩ hI223
 refine nK h230 H fun H=>lda (hw:=gY z z z (vN h230)) hI223 0 ag57 z z z z<|fa (hw:=gY z z z (vN h230)) fl50_2 z<|ld (hw:=gY z z z (vN h230)) hI223 2 ag3 z z z<|fa (hw:=gY z z z (vN h230)) fl30_1 z<|ld (hw:=gY z z z (vN h230)) hI223 3 ag3 z z z<|bK H fun y236 hy231 H=>cv (hw:=gY z z z (vN h230)) bo19 (formeref20_Beside_spec (a1 := (a17.getD (Int.toNat v184) z_api_Float)) hy231 hI223) z z fun wd234 hI235=>pkf (vN h230) z<|nl<|?_
 cases H
 exact je ⟨z, z, z, z, z, z, z, z, z, z, z, z, z, tv⟩ hI235
 refine asn z<|nl<|hK208 _ _ _<|wpc_region<|q_add z z<|mv z<|nl<|have hI237:=Hp.front hI228 6 z;have hI238:=Hp.front hI237 6 z;have hI239:=Hp.front hI238 6 z;have hI240:=Hp.front hI239 6 z;have hI241:=Hp.front hI240 6 z;have hI242:=Hp.front hI241 6 z;have hI243:=Hp.sub hI242 (sk (sk (sk (sk (sk (sk (sd se)))))));?_
 exact ih _ _ _ H _ _ ⟨z, z, z, z, z, z, z, z, z, z, z, z, z, tv⟩ hI243 z
 refine nK h206 H fun H=>wf (bN h206)<|wx<|?_
 cases H
 exact ⟨z, z, ⟨z, z, z, z, z, z, z, z, z, z, tv⟩, hI201, tv⟩
 rintro e r ds wd195 ⟨rfl, rfl, hHas, hI196, _⟩
 rw [hHas.eq]; clear hHas
 refine hK176 _ _ _<|sr fun K244 hK245=>fa fl50_3 z<|ld hI196 1 ag3 z z z<|fa fl53_1 z<|ld hI196 0 ag3 z z z<|fa fl53_0 z<|ld hI196 0 ag3 z z z<|q_sub z z<|q_leq z z<|asn z<|nl<|hK245 _ _ _<|wpc_region<|?_
 refine mv z<|mv z<|bK H fun v246 hC H=>?_
 refine js 3 hI196 [(4, slice A18 a17.length c19), (8, pointer (some ⟨g33, 0, none⟩)), (16, pointer (some ⟨g153, 0, none⟩)), (17, pointer (some ⟨g168, 0, none⟩)), (19, bool v192), (22, bool (decide (((y65.getD (Int.toNat v118) z_api_Seen).W) ≤ (w64 (y165.Hi - y165.Lo))))), (58, slice A66 y65.length c67), (59, int .i64 (y65.length : Int)), (60, int .i64 v118), (103, bool v246)] ?_ fun _ wd249 hI250=>?_
 refine have H:=hC;dC (v117 = true) (fun h252=>?_) fun h252=>?_
 refine yK h252 H fun H=>mv (hw:=gY z z z (vY h252)) z<|q_eql (hw:=gY z z z (vY h252)) z z<|pkt (vY h252) z<|nl<|?_
 cases H
 exact je ⟨z, z, z, z, z, z, z, z, z, z, tv⟩ hI196
 refine nK h252 H fun H=>Sk 2 z z (vN h252) z<|pkf (vN h252) z<|nl<|?_
 cases H
 exact je ⟨z, z, z, z, z, z, z, z, z, z, tv⟩ hI196
 refine mv z<|bK H fun v253 hC H=>js 27 hI250 [(4, slice A18 a17.length c19), (8, pointer (some ⟨g33, 0, none⟩)), (58, slice A66 y65.length c67), (59, int .i64 (y65.length : Int)), (60, int .i64 v118), (131, bool v253)] ?_ fun _ wd256 hI257=>?_
 refine have H:=hC;dC (v246 = true) (fun h259=>?_) fun h259=>?_
 refine yK h259 H fun H=>mv (hw:=gY z z z (vY h259)) z<|mv (hw:=gY z z z (vY h259)) z<|bK H fun v260 hC H=>?_
 refine js 6 hI250 [(4, slice A18 a17.length c19), (8, pointer (some ⟨g33, 0, none⟩)), (16, pointer (some ⟨g153, 0, none⟩)), (17, pointer (some ⟨g168, 0, none⟩)), (19, bool v192), (22, bool (decide (((y65.getD (Int.toNat v118) z_api_Seen).W) ≤ (w64 (y165.Hi - y165.Lo))))), (58, slice A66 y65.length c67), (59, int .i64 (y65.length : Int)), (60, int .i64 v118), (104, bool v246), (105, bool (decide (((y65.getD (Int.toNat v118) z_api_Seen).W) ≤ (w64 (y165.Hi - y165.Lo))))), (106, bool (decide (((y65.getD (Int.toNat v118) z_api_Seen).W) ≤ (w64 (y165.Hi - y165.Lo))))), (112, bool v260)] ?_ fun _ wd263 hI264=>?_
 refine have H:=hC;dC (((y65.getD (Int.toNat v118) z_api_Seen).W) ≤ (w64 (y165.Hi - y165.Lo))) (fun h266=>?_) fun h266=>?_
 refine yK h266 H fun H=>fa (hw:=gY z z z (bY h266)) fl53_0 z<|ld (hw:=gY z z z (bY h266)) hI250 0 ag3 z z z<|fa (hw:=gY z z z (bY h266)) fl50_1 z<|ld (hw:=gY z z z (bY h266)) hI250 1 ag3 z z z<|q_leq (hw:=gY z z z (bY h266)) z z<|pkt (hw:=gY z z z (vY h259)) (bY h266) z<|nl<|?_
 cases H
 exact je ⟨z, z, z, z, z, z, z, z, z, z, z, z, z, tv⟩ hI250
 refine nK h266 H fun H=>Sk 5 z z (bN h266) z<|pkf (hw:=gY z z z (vY h259)) (bN h266) z<|nl<|?_
 cases H
 exact je ⟨z, z, z, z, z, z, z, z, z, z, z, z, z, tv⟩ hI250
 refine mv (hw:=gY z z z (vY h259)) z<|bK H fun v267 hC H=>?_
 refine js 9 hI264 [(4, slice A18 a17.length c19), (8, pointer (some ⟨g33, 0, none⟩)), (19, bool v192), (22, bool (decide (((y65.getD (Int.toNat v118) z_api_Seen).W) ≤ (w64 (y165.Hi - y165.Lo))))), (58, slice A66 y65.length c67), (59, int .i64 (y65.length : Int)), (60, int .i64 v118), (104, bool v246), (105, bool (decide (((y65.getD (Int.toNat v118) z_api_Seen).W) ≤ (w64 (y165.Hi - y165.Lo))))), (106, bool (decide (((y65.getD (Int.toNat v118) z_api_Seen).W) ≤ (w64 (y165.Hi - y165.Lo))))), (112, bool v260), (113, bool v260), (122, bool v267)] ?_ fun _ wd270 hI271=>?_
 refine have H:=hC;dC (v260 = true) (fun h273=>?_) fun h273=>?_
 refine yK h273 H fun H=>fa (hw:=gY z z z (vY h273)) fl50_1 z<|ld (hw:=gY z z z (vY h273)) hI264 1 ag3 z z z<|fa (hw:=gY z z z (vY h273)) fl50_3 z<|ld (hw:=gY z z z (vY h273)) hI264 1 ag3 z z z<|q_add (hw:=gY z z z (vY h273)) z z<|fa (hw:=gY z z z (vY h273)) fl53_1 z<|ld (hw:=gY z z z (vY h273)) hI264 0 ag3 z z z<|q_leq (hw:=gY z z z (vY h273)) z z<|pkt (hw:=gY z z z (vY h259)) (vY h273) z<|nl<|?_
 cases H
 exact je ⟨z, z, z, z, z, z, z, z, z, z, z, z, z, tv⟩ hI264
 refine nK h273 H fun H=>Sk 8 z z (vN h273) z<|pkf (hw:=gY z z z (vY h259)) (vN h273) z<|nl<|?_
 cases H
 exact je ⟨z, z, z, z, z, z, z, z, z, z, z, z, z, tv⟩ hI264
 refine mv (hw:=gY z z z (vY h259)) z<|bK H fun v274 hC H=>?_
 refine js 7 hI271 [(4, slice A18 a17.length c19), (8, pointer (some ⟨g33, 0, none⟩)), (58, slice A66 y65.length c67), (59, int .i64 (y65.length : Int)), (60, int .i64 v118), (104, bool v246), (105, bool (decide (((y65.getD (Int.toNat v118) z_api_Seen).W) ≤ (w64 (y165.Hi - y165.Lo))))), (106, bool (decide (((y65.getD (Int.toNat v118) z_api_Seen).W) ≤ (w64 (y165.Hi - y165.Lo))))), (112, bool v260), (113, bool v260), (122, bool v267), (123, bool v267), (130, bool v274)] ?_ fun _ wd277 hI278=>?_
 refine have H:=hC;dC (v267 = true) (fun h280=>?_) fun h280=>?_
 refine yK h280 H fun H=>Sk 3 z z (vY h280) z<|Su 2 z<|wN (gN z z z (vY h280) z)<|pkt (hw:=gY z z z (vY h259)) (vY h280) z<|nl<|?_
 cases H
 exact je ⟨z, z, z, z, z, z, z, z, z, z, z, z, z, tv⟩ hI271
 refine nK h280 H fun H=>mv (hw:=gY z z z (vN h280)) z<|q_notd (hw:=gY z z z (vN h280)) (p := ((y65.getD (Int.toNat v118) z_api_Seen).W) ≤ (w64 (y165.Hi - y165.Lo))) z<|mv (hw:=gY z z z (vN h280)) z<|bK H fun v281 hC H=>?_
 refine js 3 hI271 [(4, slice A18 a17.length c19), (8, pointer (some ⟨g33, 0, none⟩)), (58, slice A66 y65.length c67), (59, int .i64 (y65.length : Int)), (60, int .i64 v118), (104, bool v246), (105, bool (decide (((y65.getD (Int.toNat v118) z_api_Seen).W) ≤ (w64 (y165.Hi - y165.Lo))))), (106, bool (decide (((y65.getD (Int.toNat v118) z_api_Seen).W) ≤ (w64 (y165.Hi - y165.Lo))))), (112, bool v260), (113, bool v260), (122, bool v267), (123, bool v267), (124, bool (decide (((y65.getD (Int.toNat v118) z_api_Seen).W) ≤ (w64 (y165.Hi - y165.Lo))))), (125, bool (decide (¬ (((y65.getD (Int.toNat v118) z_api_Seen).W) ≤ (w64 (y165.Hi - y165.Lo)))))), (126, bool (decide (¬ (((y65.getD (Int.toNat v118) z_api_Seen).W) ≤ (w64 (y165.Hi - y165.Lo)))))), (129, bool v281)] ?_ fun _ wd284 hI285=>?_
 refine have H:=hC;dC (¬ (((y65.getD (Int.toNat v118) z_api_Seen).W) ≤ (w64 (y165.Hi - y165.Lo)))) (fun h287=>?_) fun h287=>?_
 refine yK h287 H fun H=>mv (hw:=gY z z z (bY h287)) z<|q_not (hw:=gY z z z (bY h287)) z<|pkt (hw:=gY z z z (vN h280)) (bY h287) z<|nl<|?_
 cases H
 exact je ⟨z, z, z, z, z, z, z, z, z, z, z, z, z, z, z, z, tv⟩ hI271
 refine nK h287 H fun H=>Sk 2 z z (bN h287) z<|pkf (hw:=gY z z z (vN h280)) (bN h287) z<|nl<|?_
 cases H
 exact je ⟨z, z, z, z, z, z, z, z, z, z, z, z, z, z, z, z, tv⟩ hI271
 refine pkf (hw:=gY z z z (vY h259)) (vN h280) z<|nl<|?_
 cases H
 exact je ⟨z, z, z, z, z, z, z, z, z, z, z, z, z, tv⟩ hI285
 refine pkt (vY h259) z<|nl<|?_
 cases H
 exact je ⟨z, z, z, z, z, z, tv⟩ hI278
 refine nK h259 H fun H=>Sk 2 z z (vN h259) z<|Su 5 z<|Sk 2 z z (vN h259) z<|Su 8 z<|Sk 2 z z (vN h259) z<|Su 6 z<|wN (gN z z z (vN h259) z)<|pkf (vN h259) z<|nl<|?_
 cases H
 exact je ⟨z, z, z, z, z, z, tv⟩ hI250
 exact asn z<|nl<|hK142 _ _ _<|wpc_region<|q_add z z<|mv z<|nl<|have hI288:=Hp.front hI257 5 z;have hI289:=Hp.front hI288 5 z;have hI290:=Hp.front hI289 5 z;have hI291:=Hp.front hI290 5 z;have hI292:=Hp.sub hI291 (sk (sk (sk (sk (sd (sd se))))));ih _ _ _ H _ _ ⟨z, z, z, z, z, z, tv⟩ hI292 z
 refine nK h140 H fun H=>wf (bN h140)<|wx<|?_
 cases H
 exact ⟨z, z, ⟨z, tv⟩, hI135, tv⟩
 rintro e r ds wd129 ⟨rfl, rfl, hHas, hI130, _⟩
 rw [hHas.eq]; clear hHas
 refine hK110 _ _ _<|sr fun K296 hK297=>mv z<|asn z<|nl<|hK297 _ _ _<|wr<|have hI298:=Hp.sub hI130 (sd (sd (sd (sd se))));?_
 cases H
 exact rt ⟨_, _, z, z, z⟩ (Hp.low hG62 hI298)
end Go.Proofs.YtaemgcpcfnbmdaaGreatDoor.LG
