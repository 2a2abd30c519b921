/-
  The walks: each function computes its plain function: printed by a program out of the translation.
-/
import Derived.Test.YtaemgcpcfnbmdaaGreatDoorSd
set_option linter.unusedVariables false
set_option linter.unusedSimpArgs false
set_option maxRecDepth 100000
namespace Go.Proofs.YtaemgcpcfnbmdaaGreatDoor.LG
open Go Go.LG Go.RowKit Go.Value
set_option maxHeartbeats 1000000
open Go.Lib Go.Shelf Go.Proofs
theorem formelaw21_WrapDown_spec {a1 a10 a15 a16 a17 A2 c3 A6 c7 A11 c12 A18 c19 r1022 G L w} (H : formelaw21_WrapDown a1 a10 a15 a16 a17 = some r1022) (hI : Hp G L w) (hl4 : a1.Glyphs.length ≤ c3) (hD5 : Dat k_api_Glyph G A2 a1.Glyphs) (hl8 : a1.Kerns.length ≤ c7) (hD9 : Dat k_api_Kern G A6 a1.Kerns) (hl13 : a10.Keep.length ≤ c12) (hD14 : Dat Kd.str G A11 a10.Keep) (hl20 : a17.length ≤ c19) (hD21 : Dat k_api_Float G A18 a17) (hgl : Gl G) :
    Calls Tryz.prog 6 [agg [slice A2 a1.Glyphs.length c3, slice A6 a1.Kerns.length c7].toArray, agg [int .i64 a10.Before, int .i64 a10.Behind, slice A11 a10.Keep.length c12].toArray, string a15, agg [int .i64 a16.Scale, int .i64 a16.Line, int .i64 a16.Align, int .i64 a16.Dir, int .i64 a16.Width, int .i64 a16.Y].toArray, slice A18 a17.length c19].toArray w fun e w' => Hp G L w' ∧ e = .returned (bool r1022) := by
 refine calls_intro (N := 165) Tryz.func6 z z (Nat.le_of_ble_eq_true z)<|?_
 unfold formelaw21_WrapDown at H
 refine sr fun K22 hK23=>bxk hI z z fun g25 wd26 hI27=>bxk hI27 z z fun g29 wd30 hI31=>bxk hI31 z z fun g33 wd34 hI35=>asn z<|nl<|hK23 _ _ _<|sr fun K36 hK37=>bK H fun y43 hy38 H=>cv bo10 (formelaw21_head_spec hy38 hI35 (hgl.mono gR)) z z fun wd41 hI42=>asn z<|nl<|hK37 _ _ _<|sQ fun K44 hK45=>?_
 refine sr fun K46 hK47=>lda hI42 2 ag25 z z z z<|lda hI42 1 ag28 z z z z<|mv z<|lda hI42 0 ag30 z z z z<|mv z<|bK H fun y53 hy48 H=>cv bo15 (formelaw21_usable_spec hy48 hI42 hl4 hD5 hl8 hD9 hl13 hD14 hl20 hD21) z z fun wd51 hI52=>q_not z<|nl<|hK47 _ _ _<|dC ((!y53) = true) (fun h54=>?_) fun h54=>?_
 refine yK h54 H fun H=>wt (vY h54)<|sr fun K55 hK56=>mv z<|asn z<|nl<|hK56 _ _ _<|wr<|have hI57:=Hp.sub hI52 (sd (sd (sd se)));?_
 cases H
 exact rt ⟨_, _, z, z, z⟩ hI57
 refine nK h54 H fun H=>wf (vN h54)<|ws<|hK45 _ _ _<|sr fun K58 hK59=>lda hI52 2 ag25 z z z z<|lda hI52 1 ag28 z z z z<|mv z<|lda hI52 0 ag30 z z z z<|mv z<|bK3 H fun y65 y72 y73 hy60 H=>q_cv (vs := [agg [slice A2 a1.Glyphs.length c3, slice A6 a1.Kerns.length c7].toArray, agg [int .i64 a10.Before, int .i64 a10.Behind, slice A11 a10.Keep.length c12].toArray, string a15, agg [int .i64 a16.Scale, int .i64 a16.Line, int .i64 a16.Align, int .i64 a16.Dir, int .i64 a16.Width, int .i64 a16.Y].toArray, slice A18 a17.length c19]) bo12 z z (formelaw21_lines_spec hy60 hI52 hl4 hD5 hl8 hD9 hl13 hD14 hl20 hD21 (hgl.mono gR))<|?_
 rintro _ wd63 ⟨A66, c67, G61, hG62, hI64, hl68, hD69, ho70, rfl⟩
 refine ⟨_, rfl, ?_⟩
 refine mv z<|exk z z<|exk z z<|exk z z<|asn z<|asn z<|asn z<|nl<|hK59 _ _ _<|sQ fun K74 hK75=>sr fun K76 hK77=>mv z<|q_neq z z<|nl<|?_
 refine hK77 _ _ _<|dC (¬ y73 = 0) (fun h78=>?_) fun h78=>?_
 refine yK h78 H fun H=>wt (bY h78)<|sr fun K79 hK80=>mv z<|asn z<|nl<|hK80 _ _ _<|wr<|have hI81:=Hp.sub hI64 (sd (sd (sd (sd se))));?_
 cases H
 exact rt ⟨_, _, z, z, z⟩ (Hp.low hG62 hI81)
 refine nK h78 H fun H=>wf (bN h78)<|ws<|hK75 _ _ _<|sr fun K82 hK83=>fa fl30_5 z<|ld hI64 1 ag3 z z z<|asn z<|nl<|hK83 _ _ _<|sQ fun K84 hK85=>sr fun K86 hK87=>mv z<|q_len so34 z<|?_
 refine mv z<|nl<|hK87 _ _ _<|wb<|bK H fun o113 hC H=>?_
 refine wpc_mono (Q := fun e r ds w => match (generalizing := false) o113 with | (Sum.inl _) => e = .ret ∧ ds = [] ∧ Has [(10, bool false)] r ∧ Hp G61 (bx g33 [int .i64 a16.Scale, int .i64 a16.Line, int .i64 a16.Align, int .i64 a16.Dir, int .i64 a16.Width, int .i64 a16.Y] 30 :: bx g29 [int .i64 a10.Before, int .i64 a10.Behind, slice A11 a10.Keep.length c12] 28 :: bx g25 [slice A2 a1.Glyphs.length c3, slice A6 a1.Kerns.length c7] 25 :: tk (slice A66 y65.length c67) 5 50 :: L) w ∧ True | (Sum.inr (v103, v104)) => e = .exit 0 ∧ ds = [] ∧ Has [(11, bool v103), (13, int .i64 y72), (15, int .i64 v104)] r ∧ Hp G61 (bx g33 [int .i64 a16.Scale, int .i64 a16.Line, int .i64 a16.Align, int .i64 a16.Dir, int .i64 a16.Width, int .i64 a16.Y] 30 :: bx g29 [int .i64 a10.Before, int .i64 a10.Behind, slice A11 a10.Keep.length c12] 28 :: bx g25 [slice A2 a1.Glyphs.length c3, slice A6 a1.Kerns.length c7] 25 :: tk (slice A66 y65.length c67) 5 50 :: L) w ∧ True) ?_ ?_
 refine have hI304:=Hp.front hI64 3 z;have hI305:=Hp.front hI304 3 z;have hI306:=Hp.front hI305 3 z;wpc_loop fun I hLp=>?_
 refine formelaw21_WrapDown_l102.partial_correctness a16 a17 y65 (fun v92 v93 v94 o => ∀ (r : Rg) (w : World), Has [(4, slice A18 a17.length c19), (8, pointer (some ⟨g33, 0, none⟩)), (11, bool v92), (13, int .i64 y72), (15, int .i64 v93), (50, slice A66 y65.length c67), (51, int .i64 (y65.length : Int)), (52, int .i64 v94)] r → Hp G61 (bx g33 [int .i64 a16.Scale, int .i64 a16.Line, int .i64 a16.Align, int .i64 a16.Dir, int .i64 a16.Width, int .i64 a16.Y] 30 :: bx g29 [int .i64 a10.Before, int .i64 a10.Behind, slice A11 a10.Keep.length c12] 28 :: bx g25 [slice A2 a1.Glyphs.length c3, slice A6 a1.Kerns.length c7] 25 :: tk (slice A66 y65.length c67) 5 50 :: L) w → o = o113 → I r [] w) ?_ y43 a16.Y 0 _ hC _ _ ⟨rfl, rfl, rfl, rfl, rfl, rfl, rfl, rfl, tv⟩ hI306 rfl
 intro _ ih v92 v93 v94 o H r wd116 hHas hI117 ho
 rw [ho] at H; clear ho
 rw [hHas.eq]; clear hHas
 refine hLp _ _ _<|sr fun K118 hK119=>q_lss z z<|nl<|hK119 _ _ _<|sQ fun K120 hK121=>dC (v94 < (y65.length : Int)) (fun h122=>?_) fun h122=>?_
 refine yK h122 H fun H=>wt (bY h122)<|ws<|hK121 _ _ _<|sQ fun K123 hK124=>wb<|sr fun K125 hK126=>iK H fun⟨h127, h127'⟩H=>?_
 obtain ⟨ad128, cs129, hA130, hK131, hn132, hc133⟩ := Dat.get hD69 z_api_Seen (v94) h127 h127'
 obtain ⟨rfl⟩ := open_api_Seen hK131
 refine q_ia el34 z hA130 z h127 h127'<|q_lfA hI117 ag50 z (cs := [string ((y65.getD (Int.toNat v94) z_api_Seen).Text), int .i64 ((y65.getD (Int.toNat v94) z_api_Seen).X), int .i64 ((y65.getD (Int.toNat v94) z_api_Seen).Y), int .i64 ((y65.getD (Int.toNat v94) z_api_Seen).W), int .i64 ((y65.getD (Int.toNat v94) z_api_Seen).H)]) z (fun j v hv => gR.cel _ _ (hc133 j v hv))<|q_alloc hI117 ze50 fun g135 wd136 hI137=>stk hI137 0 ag50 z z z z z z z fun wd138 hI139=>nl<|hK126 _ _ _<|sr fun K140 hK141=>fa fl50_2 z<|ld hI139 0 ag3 z z z<|mv z<|q_eql z z<|asn z<|nl<|hK141 _ _ _<|?_
 refine sQ fun K142 hK143=>sr fun K144 hK145=>mv z<|q_len so31 z<|mv z<|nl<|hK145 _ _ _<|wb<|bK H fun v159 hC H=>?_
 refine wpc_mono (Q := fun e r ds w => e = .exit 2 ∧ ds = [] ∧ Has [(4, slice A18 a17.length c19), (8, pointer (some ⟨g33, 0, none⟩)), (11, bool v92), (13, int .i64 y72), (15, int .i64 v93), (17, pointer (some ⟨g135, 0, none⟩)), (18, bool v159), (50, slice A66 y65.length c67), (51, int .i64 (y65.length : Int)), (52, int .i64 v94)] r ∧ Hp G61 (bx g135 [string ((y65.getD (Int.toNat v94) z_api_Seen).Text), int .i64 ((y65.getD (Int.toNat v94) z_api_Seen).X), int .i64 ((y65.getD (Int.toNat v94) z_api_Seen).Y), int .i64 ((y65.getD (Int.toNat v94) z_api_Seen).W), int .i64 ((y65.getD (Int.toNat v94) z_api_Seen).H)] 50 :: bx g33 [int .i64 a16.Scale, int .i64 a16.Line, int .i64 a16.Align, int .i64 a16.Dir, int .i64 a16.Width, int .i64 a16.Y] 30 :: bx g29 [int .i64 a10.Before, int .i64 a10.Behind, slice A11 a10.Keep.length c12] 28 :: bx g25 [slice A2 a1.Glyphs.length c3, slice A6 a1.Kerns.length c7] 25 :: tk (slice A66 y65.length c67) 5 50 :: L) w ∧ True) ?_ ?_
 refine wpc_loop fun I hLp=>?_
 refine formelaw21_WrapDown_l158.partial_correctness a17 y65 v93 v94 (fun v150 v151 o => ∀ (r : Rg) (w : World), Has [(4, slice A18 a17.length c19), (8, pointer (some ⟨g33, 0, none⟩)), (11, bool v92), (13, int .i64 y72), (15, int .i64 v93), (17, pointer (some ⟨g135, 0, none⟩)), (18, bool v150), (50, slice A66 y65.length c67), (51, int .i64 (y65.length : Int)), (52, int .i64 v94), (60, slice A18 a17.length c19), (61, int .i64 (a17.length : Int)), (62, int .i64 v151)] r → Hp G61 (bx g135 [string ((y65.getD (Int.toNat v94) z_api_Seen).Text), int .i64 ((y65.getD (Int.toNat v94) z_api_Seen).X), int .i64 ((y65.getD (Int.toNat v94) z_api_Seen).Y), int .i64 ((y65.getD (Int.toNat v94) z_api_Seen).W), int .i64 ((y65.getD (Int.toNat v94) z_api_Seen).H)] 50 :: bx g33 [int .i64 a16.Scale, int .i64 a16.Line, int .i64 a16.Align, int .i64 a16.Dir, int .i64 a16.Width, int .i64 a16.Y] 30 :: bx g29 [int .i64 a10.Before, int .i64 a10.Behind, slice A11 a10.Keep.length c12] 28 :: bx g25 [slice A2 a1.Glyphs.length c3, slice A6 a1.Kerns.length c7] 25 :: tk (slice A66 y65.length c67) 5 50 :: L) w → o = v159 → I r [] w) ?_ (decide (((y65.getD (Int.toNat v94) z_api_Seen).Y) = v93)) 0 _ hC _ _ ⟨rfl, rfl, rfl, rfl, rfl, rfl, rfl, rfl, rfl, rfl, rfl, rfl, rfl, tv⟩ hI139 rfl
 intro _ ih v150 v151 o H r wd167 hHas hI168 ho
 rw [ho] at H; clear ho
 rw [hHas.eq]; clear hHas
 refine hLp _ _ _<|sr fun K169 hK170=>q_lss z z<|nl<|hK170 _ _ _<|sQ fun K171 hK172=>dC (v151 < (a17.length : Int)) (fun h173=>?_) fun h173=>?_
 refine yK h173 H fun H=>wt (bY h173)<|ws<|hK172 _ _ _<|sQ fun K174 hK175=>wb<|sr fun K176 hK177=>iK H fun⟨h178, h178'⟩H=>?_
 obtain ⟨ad179, cs180, hA181, hK182, hn183, hc184⟩ := Dat.get (Dat.mono hG62 hD21) z_api_Float (v151) h178 h178'
 obtain ⟨rfl⟩ := open_api_Float hK182
 refine q_ia el31 z hA181 z h178 h178'<|q_lfA hI168 ag57 z (cs := [int .i64 ((a17.getD (Int.toNat v151) z_api_Float).Side), int .i64 ((a17.getD (Int.toNat v151) z_api_Float).X), int .i64 ((a17.getD (Int.toNat v151) z_api_Float).Y), int .i64 ((a17.getD (Int.toNat v151) z_api_Float).W), int .i64 ((a17.getD (Int.toNat v151) z_api_Float).H)]) z (fun j v hv => gR.cel _ _ (hc184 j v hv))<|q_alloc hI168 ze57 fun g186 wd187 hI188=>stk hI188 0 ag57 z z z z z z z fun wd189 hI190=>nl<|hK177 _ _ _<|wpc_region<|mv z<|mv z<|bK H fun v191 hC H=>?_
 refine js 15 hI190 [(4, slice A18 a17.length c19), (8, pointer (some ⟨g33, 0, none⟩)), (11, bool v92), (13, int .i64 y72), (15, int .i64 v93), (17, pointer (some ⟨g135, 0, none⟩)), (50, slice A66 y65.length c67), (51, int .i64 (y65.length : Int)), (52, int .i64 v94), (60, slice A18 a17.length c19), (61, int .i64 (a17.length : Int)), (62, int .i64 v151), (82, bool v191)] ?_ fun _ wd194 hI195=>?_
 refine have H:=hC;dC (v150 = true) (fun h197=>?_) fun h197=>?_
 refine yK h197 H fun H=>Sk 5 z z (vY h197) z<|Su 8 z<|wN (gN z z z (vY h197) z)<|pkt (vY h197) z<|nl<|?_
 cases H
 exact je ⟨z, z, z, z, z, z, z, z, z, z, z, z, z, tv⟩ hI190
 refine nK h197 H fun H=>fa (hw:=gY z z z (vN h197)) fl50_2 z<|ld (hw:=gY z z z (vN h197)) hI190 1 ag3 z z z<|mv (hw:=gY z z z (vN h197)) z<|q_gtr (hw:=gY z z z (vN h197)) z z<|mv (hw:=gY z z z (vN h197)) z<|bK H fun v198 hC H=>?_
 refine js 9 hI190 [(4, slice A18 a17.length c19), (8, pointer (some ⟨g33, 0, none⟩)), (11, bool v92), (13, int .i64 y72), (15, int .i64 v93), (17, pointer (some ⟨g135, 0, none⟩)), (50, slice A66 y65.length c67), (51, int .i64 (y65.length : Int)), (52, int .i64 v94), (60, slice A18 a17.length c19), (61, int .i64 (a17.length : Int)), (62, int .i64 v151), (67, bool v150), (68, pointer (some ⟨g135, 2, none⟩)), (69, int .i64 ((y65.getD (Int.toNat v94) z_api_Seen).Y)), (70, int .i64 v93), (71, bool (decide (v93 < ((y65.getD (Int.toNat v94) z_api_Seen).Y)))), (72, bool (decide (v93 < ((y65.getD (Int.toNat v94) z_api_Seen).Y)))), (81, bool v198)] ?_ fun _ wd201 hI202=>?_
 refine have H:=hC;dC (v93 < ((y65.getD (Int.toNat v94) z_api_Seen).Y)) (fun h204=>?_) fun h204=>?_
 refine yK h204 H fun H=>fa (hw:=gY z z z (bY h204)) fl57_2 z<|ld (hw:=gY z z z (bY h204)) hI190 0 ag3 z z z<|fa (hw:=gY z z z (bY h204)) fl57_4 z<|ld (hw:=gY z z z (bY h204)) hI190 0 ag3 z z z<|q_add (hw:=gY z z z (bY h204)) z z<|fa (hw:=gY z z z (bY h204)) fl50_2 z<|ld (hw:=gY z z z (bY h204)) hI190 1 ag3 z z z<|q_eql (hw:=gY z z z (bY h204)) z z<|pkt (hw:=gY z z z (vN h197)) (bY h204) z<|nl<|?_
 cases H
 exact je ⟨z, z, z, z, z, z, z, z, z, z, z, z, z, z, z, z, z, z, z, tv⟩ hI190
 refine nK h204 H fun H=>Sk 8 z z (bN h204) z<|pkf (hw:=gY z z z (vN h197)) (bN h204) z<|nl<|?_
 cases H
 exact je ⟨z, z, z, z, z, z, z, z, z, z, z, z, z, z, z, z, z, z, z, tv⟩ hI190
 refine pkf (vN h197) z<|nl<|?_
 cases H
 exact je ⟨z, z, z, z, z, z, z, z, z, z, z, z, z, tv⟩ hI202
 exact asn z<|nl<|hK175 _ _ _<|wpc_region<|q_add z z<|mv z<|nl<|have hI205:=Hp.front hI195 5 z;have hI206:=Hp.front hI205 5 z;have hI207:=Hp.front hI206 5 z;have hI208:=Hp.front hI207 5 z;have hI209:=Hp.front hI208 5 z;have hI210:=Hp.sub hI209 (sk (sk (sk (sk (sk (sd se))))));ih _ _ _ H _ _ ⟨z, z, z, z, z, z, z, z, z, z, z, z, z, tv⟩ hI210 z
 refine nK h173 H fun H=>wf (bN h173)<|wx<|?_
 cases H
 exact ⟨z, z, ⟨z, z, z, z, z, z, z, z, z, z, tv⟩, hI168, tv⟩
 rintro e r ds wd162 ⟨rfl, rfl, hHas, hI163, _⟩
 rw [hHas.eq]; clear hHas
 refine hK143 _ _ _<|sQ fun K211 hK212=>sr fun K213 hK214=>mv z<|q_not z<|mv z<|bK H fun v215 hC H=>?_
 refine js 6 hI163 [(4, slice A18 a17.length c19), (8, pointer (some ⟨g33, 0, none⟩)), (11, bool v92), (13, int .i64 y72), (15, int .i64 v93), (17, pointer (some ⟨g135, 0, none⟩)), (50, slice A66 y65.length c67), (51, int .i64 (y65.length : Int)), (52, int .i64 v94), (92, bool v215)] ?_ fun _ wd218 hI219=>?_
 refine have H:=hC;dC ((!v159) = true) (fun h221=>?_) fun h221=>?_
 refine yK h221 H fun H=>Sk 5 z z (vY h221) z<|pkt (vY h221) z<|nl<|?_
 cases H
 exact je ⟨z, z, z, z, z, z, z, z, z, z, tv⟩ hI163
 refine nK h221 H fun H=>fa (hw:=gY z z z (vN h221)) fl50_4 z<|ld (hw:=gY z z z (vN h221)) hI163 0 ag3 z z z<|fa (hw:=gY z z z (vN h221)) fl30_1 z<|ld (hw:=gY z z z (vN h221)) hI163 1 ag3 z z z<|q_neq (hw:=gY z z z (vN h221)) z z<|pkf (vN h221) z<|nl<|?_
 cases H
 exact je ⟨z, z, z, z, z, z, z, z, z, z, tv⟩ hI163
 refine nl<|hK214 _ _ _<|dC (v215 = true) (fun h222=>?_) fun h222=>?_
 refine yK h222 H fun H=>wt (vY h222)<|sr fun K223 hK224=>asn z<|nl<|hK224 _ _ _<|wr<|have hI225:=Hp.front hI219 4 z;have hI226:=Hp.front hI225 4 z;have hI227:=Hp.front hI226 4 z;have hI228:=Hp.front hI227 4 z;have hI229:=Hp.sub hI228 (sk (sk (sk (sk (sd se)))));?_
 cases H
 exact ⟨z, z, ⟨z, tv⟩, hI229, tv⟩
 refine nK h222 H fun H=>wf (vN h222)<|ws<|hK212 _ _ _<|sr fun K230 hK231=>mv z<|fa fl30_4 z<|ld hI219 1 ag3 z z z<|fa fl50_2 z<|ld hI219 0 ag3 z z z<|fa fl30_1 z<|ld hI219 1 ag3 z z z<|bK2 H fun y237 y238 hy232 H=>cv bo18 (floats_Room_spec hy232 hI219 hl20 (Dat.mono hG62 hD21)) z z fun wd235 hI236=>?_
 refine mv z<|exk z z<|exk z z<|q_alloc hI236 ze53 fun g240 wd241 hI242=>stk hI242 0 ag53 z z z z z z z fun wd243 hI244=>asn z<|nl<|hK231 _ _ _<|sr fun K245 hK246=>mv z<|fa fl30_4 z<|ld hI244 2 ag3 z z z<|mv z<|fa fl30_1 z<|?_
 refine ld hI244 2 ag3 z z z<|bK2 H fun y252 y253 hy247 H=>cv bo18 (floats_Room_spec hy247 hI244 hl20 (Dat.mono hG62 hD21)) z z fun wd250 hI251=>mv z<|exk z z<|exk z z<|q_alloc hI251 ze53 fun g255 wd256 hI257=>stk hI257 0 ag53 z z z z z z z fun wd258 hI259=>asn z<|nl<|hK246 _ _ _<|sr fun K260 hK261=>fa fl53_1 z<|ld hI259 0 ag3 z z z<|?_
 refine fa fl53_0 z<|ld hI259 0 ag3 z z z<|q_sub z z<|fa fl53_1 z<|ld hI259 1 ag3 z z z<|fa fl53_0 z<|ld hI259 1 ag3 z z z<|q_sub z z<|q_lss z z<|mv z<|bK H fun v262 hC H=>?_
 refine js 9 hI259 [(4, slice A18 a17.length c19), (8, pointer (some ⟨g33, 0, none⟩)), (11, bool v92), (13, int .i64 y72), (15, int .i64 v93), (17, pointer (some ⟨g135, 0, none⟩)), (22, int .i64 y238), (24, int .i64 y253), (50, slice A66 y65.length c67), (51, int .i64 (y65.length : Int)), (52, int .i64 v94), (134, bool v262)] ?_ fun _ wd265 hI266=>?_
 refine have H:=hC;dC ((w64 (y252.Hi - y252.Lo)) < (w64 (y237.Hi - y237.Lo))) (fun h268=>?_) fun h268=>?_
 refine yK h268 H fun H=>Sk 8 z z (bY h268) z<|pkt (bY h268) z<|nl<|?_
 cases H
 exact je ⟨z, z, z, z, z, z, z, z, z, z, z, z, tv⟩ hI259
 refine nK h268 H fun H=>fa (hw:=gY z z z (bN h268)) fl53_1 z<|ld (hw:=gY z z z (bN h268)) hI259 0 ag3 z z z<|fa (hw:=gY z z z (bN h268)) fl53_0 z<|ld (hw:=gY z z z (bN h268)) hI259 0 ag3 z z z<|q_sub (hw:=gY z z z (bN h268)) z z<|fa (hw:=gY z z z (bN h268)) fl50_3 z<|ld (hw:=gY z z z (bN h268)) hI259 2 ag3 z z z<|q_lss (hw:=gY z z z (bN h268)) z z<|pkf (bN h268) z<|nl<|?_
 cases H
 exact je ⟨z, z, z, z, z, z, z, z, z, z, z, z, tv⟩ hI259
 refine asn z<|nl<|hK261 _ _ _<|sr fun K269 hK270=>mv z<|mv z<|bK H fun v271 hC H=>?_
 refine js 3 hI266 [(4, slice A18 a17.length c19), (8, pointer (some ⟨g33, 0, none⟩)), (13, int .i64 y72), (15, int .i64 v93), (17, pointer (some ⟨g135, 0, none⟩)), (24, int .i64 y253), (25, bool v262), (50, slice A66 y65.length c67), (51, int .i64 (y65.length : Int)), (52, int .i64 v94), (139, bool v271)] ?_ fun _ wd274 hI275=>?_
 refine have H:=hC;dC (v92 = true) (fun h277=>?_) fun h277=>?_
 refine yK h277 H fun H=>mv (hw:=gY z z z (vY h277)) z<|q_eql (hw:=gY z z z (vY h277)) z z<|pkt (vY h277) z<|nl<|?_
 cases H
 exact je ⟨z, z, z, z, z, z, z, z, z, z, z, tv⟩ hI266
 refine nK h277 H fun H=>Sk 2 z z (vN h277) z<|pkf (vN h277) z<|nl<|?_
 cases H
 exact je ⟨z, z, z, z, z, z, z, z, z, z, z, tv⟩ hI266
 refine mv z<|bK H fun v278 hC H=>?_
 refine js 3 hI275 [(4, slice A18 a17.length c19), (8, pointer (some ⟨g33, 0, none⟩)), (13, int .i64 y72), (15, int .i64 v93), (17, pointer (some ⟨g135, 0, none⟩)), (25, bool v262), (50, slice A66 y65.length c67), (51, int .i64 (y65.length : Int)), (52, int .i64 v94), (143, bool v278)] ?_ fun _ wd281 hI282=>?_
 refine have H:=hC;dC (v271 = true) (fun h284=>?_) fun h284=>?_
 refine yK h284 H fun H=>mv (hw:=gY z z z (vY h284)) z<|q_eql (hw:=gY z z z (vY h284)) z z<|pkt (vY h284) z<|nl<|?_
 cases H
 exact je ⟨z, z, z, z, z, z, z, z, z, z, tv⟩ hI275
 refine nK h284 H fun H=>Sk 2 z z (vN h284) z<|pkf (vN h284) z<|nl<|?_
 cases H
 exact je ⟨z, z, z, z, z, z, z, z, z, z, tv⟩ hI275
 refine mv z<|bK H fun v285 hC H=>js 8 hI282 [(4, slice A18 a17.length c19), (8, pointer (some ⟨g33, 0, none⟩)), (13, int .i64 y72), (17, pointer (some ⟨g135, 0, none⟩)), (50, slice A66 y65.length c67), (51, int .i64 (y65.length : Int)), (52, int .i64 v94), (152, bool v285)] ?_ fun _ wd288 hI289=>?_
 refine have H:=hC;dC (v278 = true) (fun h291=>?_) fun h291=>?_
 refine yK h291 H fun H=>fa (hw:=gY z z z (vY h291)) fl50_2 z<|ld (hw:=gY z z z (vY h291)) hI282 2 ag3 z z z<|mv (hw:=gY z z z (vY h291)) z<|q_eql (hw:=gY z z z (vY h291)) z z<|mv (hw:=gY z z z (vY h291)) z<|bK H fun v292 hC H=>?_
 refine js 2 hI282 [(4, slice A18 a17.length c19), (8, pointer (some ⟨g33, 0, none⟩)), (13, int .i64 y72), (17, pointer (some ⟨g135, 0, none⟩)), (50, slice A66 y65.length c67), (51, int .i64 (y65.length : Int)), (52, int .i64 v94), (144, bool v278), (145, pointer (some ⟨g135, 2, none⟩)), (146, int .i64 ((y65.getD (Int.toNat v94) z_api_Seen).Y)), (147, int .i64 v93), (148, bool (decide (((y65.getD (Int.toNat v94) z_api_Seen).Y) = v93))), (149, bool (decide (((y65.getD (Int.toNat v94) z_api_Seen).Y) = v93))), (151, bool v292)] ?_ fun _ wd295 hI296=>?_
 refine have H:=hC;dC (((y65.getD (Int.toNat v94) z_api_Seen).Y) = v93) (fun h298=>?_) fun h298=>?_
 refine yK h298 H fun H=>wN (gN z z z (bY h298) z)<|pkt (hw:=gY z z z (vY h291)) (bY h298) z<|nl<|?_
 cases H
 exact je ⟨z, z, z, z, z, z, z, z, z, z, z, z, z, z, tv⟩ hI282
 refine nK h298 H fun H=>mv (hw:=gY z z z (bN h298)) z<|pkf (hw:=gY z z z (vY h291)) (bN h298) z<|nl<|?_
 cases H
 exact je ⟨z, z, z, z, z, z, z, z, z, z, z, z, z, z, tv⟩ hI282
 refine pkt (vY h291) z<|nl<|?_
 cases H
 exact je ⟨z, z, z, z, z, z, z, z, tv⟩ hI296
 refine nK h291 H fun H=>Sk 5 z z (vN h291) z<|wN (gN z z z z z)<|wN (gN z z z (vN h291) z)<|pkf (vN h291) z<|nl<|?_
 cases H
 exact je ⟨z, z, z, z, z, z, z, z, tv⟩ hI282
 refine asn z<|nl<|hK270 _ _ _<|wpc_region<|fa fl50_2 z<|ld hI289 2 ag3 z z z<|fa fl30_1 z<|ld hI289 3 ag3 z z z<|q_add z z<|asn z<|nl<|hK124 _ _ _<|wpc_region<|q_add z z<|?_
 exact mv z<|nl<|have hI299:=Hp.front hI289 6 z;have hI300:=Hp.front hI299 6 z;have hI301:=Hp.front hI300 6 z;have hI302:=Hp.front hI301 6 z;have hI303:=Hp.sub hI302 (sk (sk (sk (sk (sd (sd (sd se)))))));ih _ _ _ _ H _ _ ⟨z, z, z, z, z, z, z, z, tv⟩ hI303 z
 refine nK h122 H fun H=>wf (bN h122)<|wx<|?_
 cases H
 exact ⟨z, z, ⟨z, z, z, tv⟩, hI117, tv⟩
 rcases o113 with _ | ⟨v103, v104⟩
 rintro e r ds wd107 ⟨rfl, rfl, hHas, hI108, _⟩
 rw [hHas.eq]; clear hHas
 refine have hI307:=Hp.sub hI108 (sd (sd (sd (sd se))));?_
 cases H
 exact rt ⟨_, _, z, z, z⟩ (Hp.low hG62 hI307)
 rintro e r ds wd111 ⟨rfl, rfl, hHas, hI112, _⟩
 rw [hHas.eq]; clear hHas
 refine hK85 _ _ _<|sr fun K308 hK309=>mv z<|mv z<|bK H fun v310 hC H=>js 4 hI112 [(164, bool v310)] ?_ fun _ wd313 hI314=>?_
 refine have H:=hC;dC (v103 = true) (fun h316=>?_) fun h316=>?_
 refine yK h316 H fun H=>mv (hw:=gY z z z (vY h316)) z<|mv (hw:=gY z z z (vY h316)) z<|q_eql (hw:=gY z z z (vY h316)) z z<|pkt (vY h316) z<|nl<|?_
 cases H
 exact je ⟨z, tv⟩ hI112
 refine nK h316 H fun H=>Sk 3 z z (vN h316) z<|pkf (vN h316) z<|nl<|?_
 cases H
 exact je ⟨z, tv⟩ hI112
 refine asn z<|nl<|hK309 _ _ _<|wr<|have hI317:=Hp.sub hI314 (sd (sd (sd (sd se))));?_
 cases H
 exact rt ⟨_, _, z, z, z⟩ (Hp.low hG62 hI317)
end Go.Proofs.YtaemgcpcfnbmdaaGreatDoor.LG
