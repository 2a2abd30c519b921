/-
  The walks: each function computes its plain function: printed by a program out of the translation.
-/
import Derived.Test.YtaemgcpcfnbmdaaGreatDoorSd
set_option linter.unusedVariables false
set_option linter.unusedSimpArgs false
set_option maxRecDepth 100000
namespace Go.Proofs.YtaemgcpcfnbmdaaGreatDoor.LG
open Go Go.LG Go.RowKit Go.Value
set_option maxHeartbeats 1000000
open Go.Lib Go.Shelf Go.Proofs
theorem formelaw21_WrapPlain_spec {a1 a10 a15 a16 A2 c3 A6 c7 A11 c12 r1017 G L w} (H : formelaw21_WrapPlain a1 a10 a15 a16 = some r1017) (hI : Hp G L w) (hl4 : a1.Glyphs.length ≤ c3) (hD5 : Dat k_api_Glyph G A2 a1.Glyphs) (hl8 : a1.Kerns.length ≤ c7) (hD9 : Dat k_api_Kern G A6 a1.Kerns) (hl13 : a10.Keep.length ≤ c12) (hD14 : Dat Kd.str G A11 a10.Keep) (hgl : Gl G) :
    Calls Tryz.prog 4 [agg [slice A2 a1.Glyphs.length c3, slice A6 a1.Kerns.length c7].toArray, agg [int .i64 a10.Before, int .i64 a10.Behind, slice A11 a10.Keep.length c12].toArray, string a15, agg [int .i64 a16.Scale, int .i64 a16.Line, int .i64 a16.Align, int .i64 a16.Dir, int .i64 a16.Width, int .i64 a16.Y].toArray].toArray w fun e w' => Hp G L w' ∧ e = .returned (bool r1017) := by
 refine calls_intro (N := 134) Tryz.func4 z z (Nat.le_of_ble_eq_true z)<|?_
 unfold formelaw21_WrapPlain at H
 refine sr fun K17 hK18=>bxk hI z z fun g20 wd21 hI22=>bxk hI22 z z fun g24 wd25 hI26=>bxk hI26 z z fun g28 wd29 hI30=>asn z<|nl<|hK18 _ _ _<|sr fun K31 hK32=>bK H fun y38 hy33 H=>cv bo10 (formelaw21_head_spec hy33 hI30 (hgl.mono gR)) z z fun wd36 hI37=>asn z<|nl<|hK32 _ _ _<|sQ fun K39 hK40=>?_
 refine sr fun K41 hK42=>lda hI37 2 ag25 z z z z<|lda hI37 1 ag28 z z z z<|mv z<|lda hI37 0 ag30 z z z z<|bK H fun y48 hy43 H=>cv bo15 (formelaw21_usable_spec (a17 := ([] : List api_Float)) hy43 hI37 hl4 hD5 hl8 hD9 hl13 hD14 (show ([] : List api_Float).length ≤ 0 from Nat.le_refl 0) (Dat.nil _ _ _)) z z fun wd46 hI47=>q_not z<|mv z<|bK H fun v49 hC H=>js 4 hI47 [(2, string a15), (4, pointer (some ⟨g20, 0, none⟩)), (5, pointer (some ⟨g24, 0, none⟩)), (7, pointer (some ⟨g28, 0, none⟩)), (9, bool y38), (31, bool v49)] ?_ fun _ wd52 hI53=>?_
 refine have H:=hC;dC ((!y48) = true) (fun h55=>?_) fun h55=>?_
 refine yK h55 H fun H=>Sk 3 z z (vY h55) z<|pkt (vY h55) z<|nl<|?_
 cases H
 exact je ⟨z, z, z, z, z, z, tv⟩ hI47
 refine nK h55 H fun H=>fa (hw:=gY z z z (vN h55)) fl30_5 z<|ld (hw:=gY z z z (vN h55)) hI47 0 ag3 z z z<|q_gtr (hw:=gY z z z (vN h55)) z z<|pkf (vN h55) z<|nl<|?_
 cases H
 exact je ⟨z, z, z, z, z, z, tv⟩ hI47
 refine nl<|hK42 _ _ _<|dC (v49 = true) (fun h56=>?_) fun h56=>?_
 refine yK h56 H fun H=>wt (vY h56)<|sr fun K57 hK58=>mv z<|asn z<|nl<|hK58 _ _ _<|wr<|have hI59:=Hp.sub hI53 (sd (sd (sd se)));?_
 cases H
 exact rt ⟨_, _, z, z, z⟩ hI59
 refine nK h56 H fun H=>wf (vN h56)<|ws<|hK40 _ _ _<|sr fun K60 hK61=>lda hI53 2 ag25 z z z z<|lda hI53 1 ag28 z z z z<|mv z<|lda hI53 0 ag30 z z z z<|bK3 H fun y67 y74 y75 hy62 H=>q_cv (vs := [agg [slice A2 a1.Glyphs.length c3, slice A6 a1.Kerns.length c7].toArray, agg [int .i64 a10.Before, int .i64 a10.Behind, slice A11 a10.Keep.length c12].toArray, string a15, agg [int .i64 a16.Scale, int .i64 a16.Line, int .i64 a16.Align, int .i64 a16.Dir, int .i64 a16.Width, int .i64 a16.Y].toArray, slice none 0 0]) bo12 z z (formelaw21_lines_spec (a17 := ([] : List api_Float)) hy62 hI53 hl4 hD5 hl8 hD9 hl13 hD14 (show ([] : List api_Float).length ≤ 0 from Nat.le_refl 0) (Dat.nil _ _ _) (hgl.mono gR))<|?_
 rintro _ wd65 ⟨A68, c69, G63, hG64, hI66, hl70, hD71, ho72, rfl⟩
 refine ⟨_, rfl, ?_⟩
 refine mv z<|exk z z<|exk z z<|exk z z<|asn z<|asn z<|asn z<|nl<|hK61 _ _ _<|sr fun K76 hK77=>lda hI66 3 ag25 z z z z<|lda hI66 2 ag28 z z z z<|mv z<|fa fl30_0 z<|?_
 refine ld hI66 1 ag3 z z z<|fa fl30_4 z<|ld hI66 1 ag3 z z z<|?_
 refine q_bs hI66 (vs := [(0, int .i64 a16.Width)]) (cs := [int .i64 a16.Width]) el44 ze3 rfl (by decide) rfl rfl (fun g79 wd80 hI81 => ?_)
 obtain ⟨G82, hG83, hI85, hD84⟩ := Hp.publish (xs := ([a16.Width] : List Int)) (n := 1) (Kd.int .i64) hI81 ⟨[int .i64 a16.Width], _, rfl, rfl, rfl⟩ rfl
 refine bK2 H fun y91 y98 hy86 H=>q_cv (vs := [agg [slice A2 a1.Glyphs.length c3, slice A6 a1.Kerns.length c7].toArray, agg [int .i64 a10.Before, int .i64 a10.Behind, slice A11 a10.Keep.length c12].toArray, string a15, int .i64 a16.Scale, slice (some ⟨g79, 0, none⟩) ([a16.Width] : List Int).length 1]) bo16 z z (inline_Lines_spec (a17 := ([a16.Width] : List Int)) hy86 hI85 hl4 (Dat.mono (gT hG64 hG83) hD5) hl8 (Dat.mono (gT hG64 hG83) hD9) hl13 (Dat.mono (gT hG64 hG83) hD14) (show ([a16.Width] : List Int).length ≤ 1 from Nat.le_of_ble_eq_true z) hD84 (hgl.mono (gT hG64 hG83)))<|?_
 rintro _ wd89 ⟨A92, c93, G87, hG88, hI90, hl94, hD95, ho96, rfl⟩
 refine ⟨_, rfl, ?_⟩
 refine mv z<|exk z z<|exk z z<|asn z<|asn z<|nl<|hK77 _ _ _<|sQ fun K99 hK100=>sr fun K101 hK102=>mv z<|q_neq z z<|mv z<|bK H fun v103 hC H=>?_
 refine jS 3 G87 [(2, string a15), (4, pointer (some ⟨g20, 0, none⟩)), (7, pointer (some ⟨g28, 0, none⟩)), (9, bool y38), (10, slice A68 y67.length c69), (11, int .i64 y74), (12, int .i64 y75), (13, slice A92 y91.length c93), (14, int .i64 y98), (59, bool v103)] (bx g28 [int .i64 a16.Scale, int .i64 a16.Line, int .i64 a16.Align, int .i64 a16.Dir, int .i64 a16.Width, int .i64 a16.Y] 30 :: bx g24 [int .i64 a10.Before, int .i64 a10.Behind, slice A11 a10.Keep.length c12] 28 :: bx g20 [slice A2 a1.Glyphs.length c3, slice A6 a1.Kerns.length c7] 25 :: tk (slice A92 y91.length c93) 4 46 :: tk (slice (some ⟨g79, 0, none⟩) ([a16.Width] : List Int).length 1) 1 3 :: tk (slice A68 y67.length c69) 5 50 :: L) ?_ fun _ wd106 hI107=>?_
 refine have H:=hC;dC (¬ y75 = 0) (fun h109=>?_) fun h109=>?_
 refine yK h109 H fun H=>Sk 2 z z (bY h109) z<|pkt (bY h109) z<|nl<|have hI110:=Hp.front hI90 2 z;have hI111:=Hp.front hI110 2 z;have hI112:=Hp.front hI111 2 z;have hI113:=Hp.front hI112 5 z;have hI114:=Hp.front hI113 5 z;have hI115:=Hp.front hI114 5 z;?_
 cases H
 exact je ⟨z, z, z, z, z, z, z, z, z, z, tv⟩ hI115
 refine nK h109 H fun H=>mv (hw:=gY z z z (bN h109)) z<|q_neq (hw:=gY z z z (bN h109)) z z<|pkf (bN h109) z<|nl<|have hI116:=Hp.front hI90 2 z;have hI117:=Hp.front hI116 2 z;have hI118:=Hp.front hI117 2 z;have hI119:=Hp.front hI118 5 z;have hI120:=Hp.front hI119 5 z;have hI121:=Hp.front hI120 5 z;?_
 cases H
 exact je ⟨z, z, z, z, z, z, z, z, z, z, tv⟩ hI121
 refine nl<|hK102 _ _ _<|dC (v103 = true) (fun h122=>?_) fun h122=>?_
 refine yK h122 H fun H=>wt (vY h122)<|sr fun K123 hK124=>mv z<|mv z<|bK H fun v125 hC H=>js 4 hI107 [(65, bool v125)] ?_ fun _ wd128 hI129=>?_
 refine have H:=hC;dC (y38 = true) (fun h131=>?_) fun h131=>?_
 refine yK h131 H fun H=>mv (hw:=gY z z z (vY h131)) z<|mv (hw:=gY z z z (vY h131)) z<|q_eql (hw:=gY z z z (vY h131)) z z<|pkt (vY h131) z<|nl<|?_
 cases H
 exact je ⟨z, tv⟩ hI107
 refine nK h131 H fun H=>Sk 3 z z (vN h131) z<|pkf (vN h131) z<|nl<|?_
 cases H
 exact je ⟨z, tv⟩ hI107
 refine asn z<|nl<|hK124 _ _ _<|wr<|have hI132:=Hp.sub hI129 (sd (sd (sd (sd (sd (sd se))))));?_
 cases H
 exact rt ⟨_, _, z, z, z⟩ (Hp.low (gT (gT hG64 hG83) hG88) hI132)
 refine nK h122 H fun H=>wf (vN h122)<|ws<|hK100 _ _ _<|sQ fun K133 hK134=>sr fun K135 hK136=>mv z<|q_len so34 z<|mv z<|q_len so41 z<|q_neq z z<|mv z<|bK H fun v137 hC H=>js 11 hI107 [(2, string a15), (4, pointer (some ⟨g20, 0, none⟩)), (7, pointer (some ⟨g28, 0, none⟩)), (9, bool y38), (10, slice A68 y67.length c69), (13, slice A92 y91.length c93), (82, bool v137)] ?_ fun _ wd140 hI141=>?_
 refine have H:=hC;dC (¬ (y67.length : Int) = (y91.length : Int)) (fun h143=>?_) fun h143=>?_
 refine yK h143 H fun H=>Sk 10 z z (bY h143) z<|pkt (bY h143) z<|nl<|?_
 cases H
 exact je ⟨z, z, z, z, z, z, z, tv⟩ hI107
 refine nK h143 H fun H=>mv (hw:=gY z z z (bN h143)) z<|fa (hw:=gY z z z (bN h143)) fl30_5 z<|ld (hw:=gY z z z (bN h143)) hI107 0 ag3 z z z<|mv (hw:=gY z z z (bN h143)) z<|q_len (hw:=gY z z z (bN h143)) so34 z<|fa (hw:=gY z z z (bN h143)) fl30_1 z<|ld (hw:=gY z z z (bN h143)) hI107 0 ag3 z z z<|q_mul (hw:=gY z z z (bN h143)) z z<|q_add (hw:=gY z z z (bN h143)) z z<|q_neq (hw:=gY z z z (bN h143)) z z<|pkf (bN h143) z<|nl<|?_
 cases H
 exact je ⟨z, z, z, z, z, z, z, tv⟩ hI107
 refine nl<|hK136 _ _ _<|dC (v137 = true) (fun h144=>?_) fun h144=>?_
 refine yK h144 H fun H=>wt (vY h144)<|sr fun K145 hK146=>asn z<|nl<|hK146 _ _ _<|wr<|have hI147:=Hp.sub hI141 (sd (sd (sd (sd (sd (sd se))))));?_
 cases H
 exact rt ⟨_, _, z, z, z⟩ (Hp.low (gT (gT hG64 hG83) hG88) hI147)
 refine nK h144 H fun H=>wf (vN h144)<|ws<|hK134 _ _ _<|sQ fun K148 hK149=>sr fun K150 hK151=>mv z<|q_len so41 z<|mv z<|nl<|hK151 _ _ _<|wb<|bK H fun v165 hC H=>?_
 refine wpc_mono (Q := fun e r ds w => e = .exit 0 ∧ ds = [] ∧ Has [(9, bool v165)] r ∧ Hp G87 (bx g28 [int .i64 a16.Scale, int .i64 a16.Line, int .i64 a16.Align, int .i64 a16.Dir, int .i64 a16.Width, int .i64 a16.Y] 30 :: bx g24 [int .i64 a10.Before, int .i64 a10.Behind, slice A11 a10.Keep.length c12] 28 :: bx g20 [slice A2 a1.Glyphs.length c3, slice A6 a1.Kerns.length c7] 25 :: tk (slice A92 y91.length c93) 4 46 :: tk (slice (some ⟨g79, 0, none⟩) ([a16.Width] : List Int).length 1) 1 3 :: tk (slice A68 y67.length c69) 5 50 :: L) w ∧ True) ?_ ?_
 refine wpc_loop fun I hLp=>?_
 refine formelaw21_WrapPlain_l164.partial_correctness a1 a15 a16 y67 y91 (fun v156 v157 o => ∀ (r : Rg) (w : World), Has [(2, string a15), (4, pointer (some ⟨g20, 0, none⟩)), (7, pointer (some ⟨g28, 0, none⟩)), (9, bool v156), (10, slice A68 y67.length c69), (83, slice A92 y91.length c93), (84, int .i64 (y91.length : Int)), (85, int .i64 v157)] r → Hp G87 (bx g28 [int .i64 a16.Scale, int .i64 a16.Line, int .i64 a16.Align, int .i64 a16.Dir, int .i64 a16.Width, int .i64 a16.Y] 30 :: bx g24 [int .i64 a10.Before, int .i64 a10.Behind, slice A11 a10.Keep.length c12] 28 :: bx g20 [slice A2 a1.Glyphs.length c3, slice A6 a1.Kerns.length c7] 25 :: tk (slice A92 y91.length c93) 4 46 :: tk (slice (some ⟨g79, 0, none⟩) ([a16.Width] : List Int).length 1) 1 3 :: tk (slice A68 y67.length c69) 5 50 :: L) w → o = v165 → I r [] w) ?_ y38 0 _ hC _ _ ⟨rfl, rfl, rfl, rfl, rfl, rfl, rfl, rfl, tv⟩ hI141 rfl
 intro _ ih v156 v157 o H r wd173 hHas hI174 ho
 rw [ho] at H; clear ho
 rw [hHas.eq]; clear hHas
 refine hLp _ _ _<|sr fun K175 hK176=>q_lss z z<|nl<|hK176 _ _ _<|sQ fun K177 hK178=>dC (v157 < (y91.length : Int)) (fun h179=>?_) fun h179=>?_
 refine yK h179 H fun H=>wt (bY h179)<|ws<|hK178 _ _ _<|sQ fun K180 hK181=>wb<|sr fun K182 hK183=>mv z<|iK H fun⟨h184, h184'⟩H=>?_
 obtain ⟨ad185, cs186, hA187, hK188, hn189, hc190⟩ := Dat.get hD95 z_api_Line (v157) h184 h184'
 obtain ⟨rfl⟩ := open_api_Line hK188
 refine q_ia el41 z hA187 z h184 h184'<|q_lfA hI174 ag46 z (cs := [int .i64 ((y91.getD (Int.toNat v157) z_api_Line).From), int .i64 ((y91.getD (Int.toNat v157) z_api_Line).Until), int .i64 ((y91.getD (Int.toNat v157) z_api_Line).Width), bool ((y91.getD (Int.toNat v157) z_api_Line).Hyphen)]) z (fun j v hv => gR.cel _ _ (hc190 j v hv))<|q_alloc hI174 ze46 fun g192 wd193 hI194=>asn z<|stk hI194 0 ag46 z z z z z z z fun wd195 hI196=>nl<|hK183 _ _ _<|sr fun K197 hK198=>lda hI196 3 ag25 z z z z<|mv z<|lda hI196 0 ag46 z z z z<|fa fl30_0 z<|ld hI196 1 ag3 z z z<|fa fl30_4 z<|?_
 refine ld hI196 1 ag3 z z z<|fa fl30_2 z<|ld hI196 1 ag3 z z z<|fa fl30_3 z<|ld hI196 1 ag3 z z z<|bK3 H fun y204 y205 y206 hy199 H=>cv bo17 (inline_Place_spec (a11 := (y91.getD (Int.toNat v157) z_api_Line)) hy199 hI196 hl4 (Dat.mono (gT (gT hG64 hG83) hG88) hD5) hl8 (Dat.mono (gT (gT hG64 hG83) hG88) hD9) (hgl.mono (gT (gT hG64 hG83) hG88))) z z fun wd202 hI203=>mv z<|exk z z<|exk z z<|exk z z<|asn z<|asn z<|asn z<|?_
 refine nl<|hK198 _ _ _<|bK H fun v207 hC H=>jc .normal hI203 [(2, string a15), (4, pointer (some ⟨g20, 0, none⟩)), (7, pointer (some ⟨g28, 0, none⟩)), (9, bool v207), (10, slice A68 y67.length c69), (83, slice A92 y91.length c93), (84, int .i64 (y91.length : Int)), (85, int .i64 v157)] ?_ fun _ wd210 hI211=>?_
 refine have H:=hC;?_
 refine wpc_quiet mixo (by kernel_rfl) ?_
 refine have hI213:=hI203.drew;wq (mv z wqd) z<|wq (mv z wqd) z<|dC (v156 = true) (fun h214=>?_) fun h214=>?_
 refine yK h214 H fun H=>wq (mv (hw:=gY z z z (vY h214)) z wqd) z<|wq (q_eql (hw:=gY z z z (vY h214)) z z wqd) z<|wq (pkt (vY h214) z wqd) z<|wq (mv z wqd) z<|dC (y206 = 0) (fun h215=>?_) fun h215=>?_
 refine yK h215 H fun H=>wq (mv (hw:=gY z z z (bY h215)) z wqd) z<|wq (mv (hw:=gY z z z (bY h215)) z wqd) z<|iK H fun⟨h216, h216'⟩H=>?_
 obtain ⟨ad217, cs218, hA219, hK220, hn221, hc222⟩ := Dat.get (Dat.mono (gT hG83 hG88) hD71) z_api_Seen (v157) h216 h216'
 obtain ⟨rfl⟩ := open_api_Seen hK220
 refine wq (q_ia (hw:=gY z z z (bY h215)) el34 z hA219 z h216 h216' wqd) z<|wq (q_lfA (hw:=gY z z z (bY h215)) hI213 ag50 z (cs := [string ((y67.getD (Int.toNat v157) z_api_Seen).Text), int .i64 ((y67.getD (Int.toNat v157) z_api_Seen).X), int .i64 ((y67.getD (Int.toNat v157) z_api_Seen).Y), int .i64 ((y67.getD (Int.toNat v157) z_api_Seen).W), int .i64 ((y67.getD (Int.toNat v157) z_api_Seen).H)]) z (fun j v hv => gR.cel _ _ (hc222 j v hv)) wqd) z<|wq (mv (hw:=gY z z z (bY h215)) z wqd) z<|wq (mv (hw:=gY z z z (bY h215)) z wqd) z<|wq (fa (hw:=gY z z z (bY h215)) fl30_5 z wqd) z<|wq (ld (hw:=gY z z z (bY h215)) hI213 1 ag3 z z z wqd) z<|wq (mv (hw:=gY z z z (bY h215)) z wqd) z<|wq (fa (hw:=gY z z z (bY h215)) fl30_1 z wqd) z<|wq (ld (hw:=gY z z z (bY h215)) hI213 1 ag3 z z z wqd) z<|wq (q_mul (hw:=gY z z z (bY h215)) z z wqd) z<|wq (q_add (hw:=gY z z z (bY h215)) z z wqd) z<|wq (fa (hw:=gY z z z (bY h215)) fl46_2 z wqd) z<|wq (ld (hw:=gY z z z (bY h215)) hI213 0 ag3 z z z wqd) z<|wq (fa (hw:=gY z z z (bY h215)) fl30_1 z wqd) z<|?_
 refine wq (ld (hw:=gY z z z (bY h215)) hI213 1 ag3 z z z wqd) z<|wq (q_build (hw:=gY z z z (bY h215)) (vs := [(0, string y204), (1, int .i64 y205), (2, int .i64 (w64 (a16.Y + (w64 (v157 * a16.Line))))), (3, int .i64 ((y91.getD (Int.toNat v157) z_api_Line).Width)), (4, int .i64 a16.Line)]) (cs := [string y204, int .i64 y205, int .i64 (w64 (a16.Y + (w64 (v157 * a16.Line)))), int .i64 ((y91.getD (Int.toNat v157) z_api_Line).Width), int .i64 a16.Line]) ze50 pl50 z z wqd) z<|wq (q_st_eql (hw:=gY z z z (bY h215)) (q := (y67.getD (Int.toNat v157) z_api_Seen) = (⟨y204, y205, w64 (a16.Y + (w64 (v157 * a16.Line))), (y91.getD (Int.toNat v157) z_api_Line).Width, a16.Line⟩ : api_Seen)) z z eqg_api_Seen (eqs_api_Seen (y67.getD (Int.toNat v157) z_api_Seen) (⟨y204, y205, w64 (a16.Y + (w64 (v157 * a16.Line))), (y91.getD (Int.toNat v157) z_api_Line).Width, a16.Line⟩ : api_Seen)) (eqd_api_Seen _ _) wqd) z<|wq (pkt (bY h215) z wqd) z<|wq (asn z wqd) z<|wqq_nil<|?_
 cases H
 exact je ⟨z, z, z, z, z, z, z, z, tv⟩ hI213
 refine nK h215 H fun H=>wq (wN (gN z z z (bN h215) z) wqd) z<|wq (wN (gN z z z (bN h215) z) wqd) z<|wq (wN (gN z z z (bN h215) z) wqd) z<|wq (wN (gN z z z (bN h215) z) wqd) z<|wq (wN (gN z z z (bN h215) z) wqd) z<|wq (wN (gN z z z (bN h215) z) wqd) z<|wq (wN (gN z z z (bN h215) z) wqd) z<|wq (wN (gN z z z (bN h215) z) wqd) z<|wq (wN (gN z z z (bN h215) z) wqd) z<|wq (wN (gN z z z (bN h215) z) wqd) z<|wq (wN (gN z z z (bN h215) z) wqd) z<|wq (wN (gN z z z (bN h215) z) wqd) z<|wq (wN (gN z z z (bN h215) z) wqd) z<|?_
 refine wq (wN (gN z z z (bN h215) z) wqd) z<|wq (wN (gN z z z (bN h215) z) wqd) z<|wq (wN (gN z z z (bN h215) z) wqd) z<|wq (wN (gN z z z (bN h215) z) wqd) z<|wq (wN (gN z z z (bN h215) z) wqd) z<|wq (wN (gN z z z (bN h215) z) wqd) z<|wq (pkf (bN h215) z wqd) z<|wq (asn z wqd) z<|wqq_nil<|?_
 cases H
 exact je ⟨z, z, z, z, z, z, z, z, tv⟩ hI213
 refine nK h214 H fun H=>wq (wN (gN z z z (vN h214) z) wqd) z<|wq (wN (gN z z z (vN h214) z) wqd) z<|wq (pkf (vN h214) z wqd) z<|wq (mv z wqd) z<|wq (wN (gN z z z z z) wqd) z<|wq (wN (gN z z z z z) wqd) z<|wq (wN (gN z z z z z) wqd) z<|wq (wN (gN z z z z z) wqd) z<|wq (wN (gN z z z z z) wqd) z<|wq (wN (gN z z z z z) wqd) z<|wq (wN (gN z z z z z) wqd) z<|wq (wN (gN z z z z z) wqd) z<|wq (wN (gN z z z z z) wqd) z<|?_
 refine wq (wN (gN z z z z z) wqd) z<|wq (wN (gN z z z z z) wqd) z<|wq (wN (gN z z z z z) wqd) z<|wq (wN (gN z z z z z) wqd) z<|wq (wN (gN z z z z z) wqd) z<|wq (wN (gN z z z z z) wqd) z<|wq (wN (gN z z z z z) wqd) z<|wq (wN (gN z z z z z) wqd) z<|wq (wN (gN z z z z z) wqd) z<|wq (wN (gN z z z z z) wqd) z<|wq (pkf z z wqd) z<|wq (asn z wqd) z<|wqq_nil<|?_
 cases H
 exact je ⟨z, z, z, z, z, z, z, z, tv⟩ hI213
 exact hK181 _ _ _<|wpc_region<|q_add z z<|mv z<|nl<|have hI223:=Hp.front hI211 6 z;have hI224:=Hp.front hI223 6 z;have hI225:=Hp.front hI224 6 z;have hI226:=Hp.front hI225 6 z;have hI227:=Hp.front hI226 6 z;have hI228:=Hp.front hI227 6 z;have hI229:=Hp.sub hI228 (sk (sk (sk (sk (sk (sk (sd se)))))));ih _ _ _ H _ _ ⟨z, z, z, z, z, z, z, z, tv⟩ hI229 z
 refine nK h179 H fun H=>wf (bN h179)<|wx<|?_
 cases H
 exact ⟨z, z, ⟨z, tv⟩, hI174, tv⟩
 rintro e r ds wd168 ⟨rfl, rfl, hHas, hI169, _⟩
 rw [hHas.eq]; clear hHas
 refine hK149 _ _ _<|sr fun K230 hK231=>mv z<|asn z<|nl<|hK231 _ _ _<|wr<|have hI232:=Hp.sub hI169 (sd (sd (sd (sd (sd (sd se))))));?_
 cases H
 exact rt ⟨_, _, z, z, z⟩ (Hp.low (gT (gT hG64 hG83) hG88) hI232)
end Go.Proofs.YtaemgcpcfnbmdaaGreatDoor.LG
