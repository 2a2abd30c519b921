/-
  The walks: each function computes its plain function: printed by a program out of the translation.
-/
import Derived.Test.YtokeiiakkfdmgaaGreatDoorSd
set_option linter.unusedVariables false
set_option linter.unusedSimpArgs false
set_option maxRecDepth 100000
namespace Go.Proofs.YtokeiiakkfdmgaaGreatDoor.LG
open Go Go.LG Go.RowKit Go.Value
set_option maxHeartbeats 1000000
open Go.Lib Go.Shelf Go.Proofs
theorem formelaw17_InlineMatchesReference_spec {a1 a10 a15 a16 a17 a18 a23 a24 a25 A2 c3 A6 c7 A11 c12 A19 c20 r1026 G L w} (H : formelaw17_InlineMatchesReference a1 a10 a15 a16 a17 a18 a23 a24 a25 = some r1026) (hI : Hp G L w) (hl4 : a1.Glyphs.length ≤ c3) (hD5 : Dat k_api_Glyph G A2 a1.Glyphs) (hl8 : a1.Kerns.length ≤ c7) (hD9 : Dat k_api_Kern G A6 a1.Kerns) (hl13 : a10.Keep.length ≤ c12) (hD14 : Dat Kd.str G A11 a10.Keep) (hl21 : a18.length ≤ c20) (hD22 : Dat (Kd.int .i64) G A19 a18) (hgl : Gl G) :
    Calls Tryz.prog 3 [agg [slice A2 a1.Glyphs.length c3, slice A6 a1.Kerns.length c7].toArray, agg [int .i64 a10.Before, int .i64 a10.Behind, slice A11 a10.Keep.length c12].toArray, string a15, int .i64 a16, int .i64 a17, slice A19 a18.length c20, agg [int .i64 a23.From, int .i64 a23.Until, int .i64 a23.Width, bool a23.Hyphen].toArray, int .i64 a24, int .i64 a25].toArray w fun e w' => Hp G L w' ∧ e = .returned (bool r1026) := by
 refine calls_intro (N := 149) Tryz.func3 z z (Nat.le_of_ble_eq_true z)<|?_
 unfold formelaw17_InlineMatchesReference at H
 refine sr fun K26 hK27=>bxk hI z z fun g29 wd30 hI31=>bxk hI31 z z fun g33 wd34 hI35=>bxk hI35 z z fun g37 wd38 hI39=>asn z<|nl<|hK27 _ _ _<|sr fun K40 hK41=>bK H fun y47 hy42 H=>cv bo9 (formelaw17_head_spec hy42 hI39 (hgl.mono gR)) z z fun wd45 hI46=>asn z<|nl<|hK41 _ _ _<|sQ fun K48 hK49=>?_
 refine sr fun K50 hK51=>lda hI46 2 ag25 z z z z<|lda hI46 1 ag28 z z z z<|mv z<|bK H fun y57 hy52 H=>cv bo10 (formelaw17_few_spec hy52 hI46 hl4 hD5 hl8 hD9 hl13 hD14) z z fun wd55 hI56=>q_not z<|mv z<|bK H fun v58 hC H=>js 4 hI56 [(2, string a15), (3, int .i64 a16), (4, int .i64 a17), (5, slice A19 a18.length c20), (7, int .i64 a24), (8, int .i64 a25), (9, pointer (some ⟨g29, 0, none⟩)), (10, pointer (some ⟨g33, 0, none⟩)), (15, pointer (some ⟨g37, 0, none⟩)), (19, bool y47), (41, bool v58)] ?_ fun _ wd61 hI62=>?_
 refine have H:=hC;dC ((!y57) = true) (fun h64=>?_) fun h64=>?_
 refine yK h64 H fun H=>Sk 3 z z (vY h64) z<|pkt (vY h64) z<|nl<|?_
 cases H
 exact je ⟨z, z, z, z, z, z, z, z, z, z, z, tv⟩ hI56
 refine nK h64 H fun H=>mv (hw:=gY z z z (vN h64)) z<|q_len (hw:=gY z z z (vN h64)) so29 z<|q_gtr (hw:=gY z z z (vN h64)) z z<|pkf (vN h64) z<|nl<|?_
 cases H
 exact je ⟨z, z, z, z, z, z, z, z, z, z, z, tv⟩ hI56
 refine nl<|hK51 _ _ _<|dC (v58 = true) (fun h65=>?_) fun h65=>?_
 refine yK h65 H fun H=>wt (vY h65)<|sr fun K66 hK67=>mv z<|asn z<|nl<|hK67 _ _ _<|wr<|have hI68:=Hp.sub hI62 (sd (sd (sd se)));?_
 cases H
 exact rt ⟨_, _, z, z, z⟩ hI68
 refine nK h65 H fun H=>wf (vN h65)<|ws<|hK49 _ _ _<|sr fun K69 hK70=>asn z<|nl<|hK70 _ _ _<|sQ fun K71 hK72=>sr fun K73 hK74=>mv z<|q_len so29 z<|q_gtr z z<|nl<|?_
 refine hK74 _ _ _<|dC (0 < (a18.length : Int)) (fun h75=>?_) fun h75=>?_
 refine yK h75 H fun H=>wt (bY h75)<|wpc_region<|mv z<|iK H fun⟨h76, h76'⟩H=>?_
 obtain ⟨ad77, cs78, hA79, hK80, hn81, hc82⟩ := Dat.get hD22 (0 : Int) (0) h76 h76'
 obtain rfl := hK80
 refine q_ia el29 z hA79 z h76 h76'<|q_lf hI62 ag3 z (gR.cel _ _ (hc82 0 _ z))<|asn z<|nl<|hK72 _ _ _<|sr fun K83 hK84=>lda hI62 2 ag25 z z z z<|lda hI62 1 ag28 z z z z<|mv z<|mv z<|mv z<|mv z<|bK2 H fun y90 y91 hy85 H=>cv bo11 (inline_Next_spec hy85 hI62 hl4 hD5 hl8 hD9 hl13 hD14 (hgl.mono gR)) z z fun wd88 hI89=>?_
 refine mv z<|exk z z<|exk z z<|q_alloc hI89 ze31 fun g93 wd94 hI95=>stk hI95 0 ag31 z z z z z z z fun wd96 hI97=>asn z<|nl<|hK84 _ _ _<|sr fun K98 hK99=>lda hI97 3 ag25 z z z z<|lda hI97 2 ag28 z z z z<|mv z<|mv z<|mv z<|?_
 refine mv z<|bK2 H fun y105 y106 hy100 H=>cv bo12 (formeref17_Next_spec hy100 hI97 hl4 hD5 hl8 hD9 hl13 hD14) z z fun wd103 hI104=>mv z<|exk z z<|exk z z<|q_alloc hI104 ze31 fun g108 wd109 hI110=>stk hI110 0 ag31 z z z z z z z fun wd111 hI112=>asn z<|nl<|hK99 _ _ _<|sr fun K113 hK114=>mv z<|mv z<|?_
 refine bK H fun v115 hC H=>?_
 refine js 4 hI112 [(2, string a15), (4, int .i64 a17), (5, slice A19 a18.length c20), (7, int .i64 a24), (8, int .i64 a25), (9, pointer (some ⟨g29, 0, none⟩)), (10, pointer (some ⟨g33, 0, none⟩)), (15, pointer (some ⟨g37, 0, none⟩)), (20, int .i64 (a18.getD (Int.toNat 0) (0 : Int))), (22, int .i64 y91), (24, int .i64 y106), (74, bool v115)] ?_ fun _ wd118 hI119=>?_
 refine have H:=hC;dC (y47 = true) (fun h121=>?_) fun h121=>?_
 refine yK h121 H fun H=>lda (hw:=gY z z z (vY h121)) hI112 1 ag31 z z z z<|lda (hw:=gY z z z (vY h121)) hI112 0 ag31 z z z z<|q_st_eql (hw:=gY z z z (vY h121)) (q := y90 = y105) z z eqg_api_Line (eqs_api_Line y90 y105) (eqd_api_Line _ _)<|pkt (vY h121) z<|nl<|?_
 cases H
 exact je ⟨z, z, z, z, z, z, z, z, z, z, z, z, tv⟩ hI112
 refine nK h121 H fun H=>Sk 3 z z (vN h121) z<|pkf (vN h121) z<|nl<|?_
 cases H
 exact je ⟨z, z, z, z, z, z, z, z, z, z, z, z, tv⟩ hI112
 refine mv z<|bK H fun v122 hC H=>?_
 refine js 4 hI119 [(2, string a15), (4, int .i64 a17), (5, slice A19 a18.length c20), (7, int .i64 a24), (8, int .i64 a25), (9, pointer (some ⟨g29, 0, none⟩)), (10, pointer (some ⟨g33, 0, none⟩)), (15, pointer (some ⟨g37, 0, none⟩)), (20, int .i64 (a18.getD (Int.toNat 0) (0 : Int))), (79, bool v122)] ?_ fun _ wd125 hI126=>?_
 refine have H:=hC;dC (v115 = true) (fun h128=>?_) fun h128=>?_
 refine yK h128 H fun H=>mv (hw:=gY z z z (vY h128)) z<|mv (hw:=gY z z z (vY h128)) z<|q_eql (hw:=gY z z z (vY h128)) z z<|pkt (vY h128) z<|nl<|?_
 cases H
 exact je ⟨z, z, z, z, z, z, z, z, z, z, tv⟩ hI119
 refine nK h128 H fun H=>Sk 3 z z (vN h128) z<|pkf (vN h128) z<|nl<|?_
 cases H
 exact je ⟨z, z, z, z, z, z, z, z, z, z, tv⟩ hI119
 refine asn z<|nl<|hK114 _ _ _<|sr fun K129 hK130=>lda hI126 4 ag25 z z z z<|lda hI126 3 ag28 z z z z<|mv z<|mv z<|mv z<|bK2 H fun y136 y143 hy131 H=>q_cv (vs := [agg [slice A2 a1.Glyphs.length c3, slice A6 a1.Kerns.length c7].toArray, agg [int .i64 a10.Before, int .i64 a10.Behind, slice A11 a10.Keep.length c12].toArray, string a15, int .i64 a17, slice A19 a18.length c20]) bo13 z z (inline_Lines_spec hy131 hI126 hl4 hD5 hl8 hD9 hl13 hD14 hl21 hD22 (hgl.mono gR))<|?_
 rintro _ wd134 ⟨A137, c138, G132, hG133, hI135, hl139, hD140, ho141, rfl⟩
 refine ⟨_, rfl, ?_⟩
 refine mv z<|exk z z<|exk z z<|asn z<|asn z<|nl<|hK130 _ _ _<|sr fun K144 hK145=>lda hI135 5 ag25 z z z z<|lda hI135 4 ag28 z z z z<|mv z<|mv z<|mv z<|bK2 H fun y151 y158 hy146 H=>?_
 refine q_cv (vs := [agg [slice A2 a1.Glyphs.length c3, slice A6 a1.Kerns.length c7].toArray, agg [int .i64 a10.Before, int .i64 a10.Behind, slice A11 a10.Keep.length c12].toArray, string a15, int .i64 a17, slice A19 a18.length c20]) bo14 z z (formeref17_Lines_spec hy146 hI135 hl4 (Dat.mono hG133 hD5) hl8 (Dat.mono hG133 hD9) hl13 (Dat.mono hG133 hD14) hl21 (Dat.mono hG133 hD22))<|?_
 rintro _ wd149 ⟨A152, c153, G147, hG148, hI150, hl154, hD155, ho156, rfl⟩
 refine ⟨_, rfl, ?_⟩
 refine mv z<|exk z z<|exk z z<|asn z<|asn z<|nl<|hK145 _ _ _<|sr fun K159 hK160=>mv z<|mv z<|bK H fun v161 hC H=>?_
 refine jS 4 G147 [(2, string a15), (4, int .i64 a17), (7, int .i64 a24), (8, int .i64 a25), (9, pointer (some ⟨g29, 0, none⟩)), (15, pointer (some ⟨g37, 0, none⟩)), (20, int .i64 (a18.getD (Int.toNat 0) (0 : Int))), (22, int .i64 y143), (24, int .i64 y158), (103, bool v161)] (bx g108 [int .i64 y105.From, int .i64 y105.Until, int .i64 y105.Width, bool y105.Hyphen] 31 :: bx g93 [int .i64 y90.From, int .i64 y90.Until, int .i64 y90.Width, bool y90.Hyphen] 31 :: bx g37 [int .i64 a23.From, int .i64 a23.Until, int .i64 a23.Width, bool a23.Hyphen] 31 :: bx g33 [int .i64 a10.Before, int .i64 a10.Behind, slice A11 a10.Keep.length c12] 28 :: bx g29 [slice A2 a1.Glyphs.length c3, slice A6 a1.Kerns.length c7] 25 :: tk (slice A152 y151.length c153) 4 31 :: tk (slice A137 y136.length c138) 4 31 :: L) ?_ fun _ wd164 hI165=>?_
 refine have H:=hC;dC (v122 = true) (fun h167=>?_) fun h167=>?_
 refine yK h167 H fun H=>mv (hw:=gY z z z (vY h167)) z<|mv (hw:=gY z z z (vY h167)) z<|bK H fun y173 hy168 H=>cv (hw:=gY z z z (vY h167)) bo15 (formeref17_Same_spec hy168 hI150 hl139 (Dat.mono hG148 hD140) hl154 hD155) z z fun wd171 hI172=>pkt (vY h167) z<|nl<|have hI174:=Hp.front hI172 1 z;have hI175:=Hp.front hI174 1 z;have hI176:=Hp.front hI175 6 z;have hI177:=Hp.front hI176 6 z;have hI178:=Hp.front hI177 6 z;have hI179:=Hp.front hI178 6 z;have hI180:=Hp.front hI179 6 z;?_
 cases H
 exact je ⟨z, z, z, z, z, z, z, z, z, z, tv⟩ hI180
 refine nK h167 H fun H=>Sk 3 z z (vN h167) z<|pkf (vN h167) z<|nl<|have hI181:=Hp.front hI150 1 z;have hI182:=Hp.front hI181 1 z;have hI183:=Hp.front hI182 6 z;have hI184:=Hp.front hI183 6 z;have hI185:=Hp.front hI184 6 z;have hI186:=Hp.front hI185 6 z;have hI187:=Hp.front hI186 6 z;?_
 cases H
 exact je ⟨z, z, z, z, z, z, z, z, z, z, tv⟩ hI187
 refine mv z<|bK H fun v188 hC H=>js 4 hI165 [(2, string a15), (4, int .i64 a17), (7, int .i64 a24), (8, int .i64 a25), (9, pointer (some ⟨g29, 0, none⟩)), (15, pointer (some ⟨g37, 0, none⟩)), (20, int .i64 (a18.getD (Int.toNat 0) (0 : Int))), (108, bool v188)] ?_ fun _ wd191 hI192=>?_
 refine have H:=hC;dC (v161 = true) (fun h194=>?_) fun h194=>?_
 refine yK h194 H fun H=>mv (hw:=gY z z z (vY h194)) z<|mv (hw:=gY z z z (vY h194)) z<|q_eql (hw:=gY z z z (vY h194)) z z<|pkt (vY h194) z<|nl<|?_
 cases H
 exact je ⟨z, z, z, z, z, z, z, z, tv⟩ hI165
 refine nK h194 H fun H=>Sk 3 z z (vN h194) z<|pkf (vN h194) z<|nl<|?_
 cases H
 exact je ⟨z, z, z, z, z, z, z, z, tv⟩ hI165
 refine asn z<|nl<|hK160 _ _ _<|sr fun K195 hK196=>lda hI192 4 ag25 z z z z<|mv z<|lda hI192 2 ag31 z z z z<|mv z<|mv z<|mv z<|mv z<|bK3 H fun y202 y203 y204 hy197 H=>cv bo16 (inline_Place_spec hy197 hI192 hl4 (Dat.mono (gT hG133 hG148) hD5) hl8 (Dat.mono (gT hG133 hG148) hD9) (hgl.mono (gT hG133 hG148))) z z fun wd200 hI201=>mv z<|?_
 refine exk z z<|exk z z<|exk z z<|asn z<|asn z<|asn z<|nl<|hK196 _ _ _<|sr fun K205 hK206=>lda hI201 4 ag25 z z z z<|mv z<|lda hI201 2 ag31 z z z z<|mv z<|mv z<|?_
 refine mv z<|mv z<|bK3 H fun y212 y213 y214 hy207 H=>cv bo17 (formeref17_Place_spec hy207 hI201 hl4 (Dat.mono (gT hG133 hG148) hD5) hl8 (Dat.mono (gT hG133 hG148) hD9)) z z fun wd210 hI211=>mv z<|exk z z<|exk z z<|exk z z<|asn z<|asn z<|asn z<|nl<|hK206 _ _ _<|sr fun K215 hK216=>?_
 refine mv z<|mv z<|bK H fun v217 hC H=>js 4 hI211 [(22, int .i64 y204), (24, int .i64 y214), (28, int .i64 y203), (30, int .i64 y213), (138, bool v217)] ?_ fun _ wd220 hI221=>?_
 refine have H:=hC;dC (v188 = true) (fun h223=>?_) fun h223=>?_
 refine yK h223 H fun H=>mv (hw:=gY z z z (vY h223)) z<|mv (hw:=gY z z z (vY h223)) z<|q_str_eql (hw:=gY z z z (vY h223)) z z<|pkt (vY h223) z<|nl<|?_
 cases H
 exact je ⟨z, z, z, z, z, tv⟩ hI211
 refine nK h223 H fun H=>Sk 3 z z (vN h223) z<|pkf (vN h223) z<|nl<|?_
 cases H
 exact je ⟨z, z, z, z, z, tv⟩ hI211
 refine mv z<|bK H fun v224 hC H=>js 4 hI221 [(22, int .i64 y204), (24, int .i64 y214), (143, bool v224)] ?_ fun _ wd227 hI228=>?_
 refine have H:=hC;dC (v217 = true) (fun h230=>?_) fun h230=>?_
 refine yK h230 H fun H=>mv (hw:=gY z z z (vY h230)) z<|mv (hw:=gY z z z (vY h230)) z<|q_eql (hw:=gY z z z (vY h230)) z z<|pkt (vY h230) z<|nl<|?_
 cases H
 exact je ⟨z, z, z, tv⟩ hI221
 refine nK h230 H fun H=>Sk 3 z z (vN h230) z<|pkf (vN h230) z<|nl<|?_
 cases H
 exact je ⟨z, z, z, tv⟩ hI221
 refine mv z<|bK H fun v231 hC H=>js 4 hI228 [(148, bool v231)] ?_ fun _ wd234 hI235=>?_
 refine have H:=hC;dC (v224 = true) (fun h237=>?_) fun h237=>?_
 refine yK h237 H fun H=>mv (hw:=gY z z z (vY h237)) z<|mv (hw:=gY z z z (vY h237)) z<|q_eql (hw:=gY z z z (vY h237)) z z<|pkt (vY h237) z<|nl<|?_
 cases H
 exact je ⟨z, tv⟩ hI228
 refine nK h237 H fun H=>Sk 3 z z (vN h237) z<|pkf (vN h237) z<|nl<|?_
 cases H
 exact je ⟨z, tv⟩ hI228
 refine asn z<|nl<|hK216 _ _ _<|wr<|have hI238:=Hp.sub hI235 (sd (sd (sd (sd (sd (sd (sd se)))))));?_
 cases H
 exact rt ⟨_, _, z, z, z⟩ (Hp.low (gT hG133 hG148) hI238)
 refine nK h75 H fun H=>wf (bN h75)<|ws<|hK72 _ _ _<|sr fun K239 hK240=>lda hI62 2 ag25 z z z z<|lda hI62 1 ag28 z z z z<|mv z<|mv z<|mv z<|mv z<|bK2 H fun y246 y247 hy241 H=>cv bo11 (inline_Next_spec hy241 hI62 hl4 hD5 hl8 hD9 hl13 hD14 (hgl.mono gR)) z z fun wd244 hI245=>mv z<|?_
 refine exk z z<|exk z z<|q_alloc hI245 ze31 fun g249 wd250 hI251=>stk hI251 0 ag31 z z z z z z z fun wd252 hI253=>asn z<|nl<|hK240 _ _ _<|sr fun K254 hK255=>lda hI253 3 ag25 z z z z<|lda hI253 2 ag28 z z z z<|mv z<|mv z<|mv z<|mv z<|?_
 refine bK2 H fun y261 y262 hy256 H=>cv bo12 (formeref17_Next_spec hy256 hI253 hl4 hD5 hl8 hD9 hl13 hD14) z z fun wd259 hI260=>mv z<|exk z z<|exk z z<|q_alloc hI260 ze31 fun g264 wd265 hI266=>stk hI266 0 ag31 z z z z z z z fun wd267 hI268=>asn z<|nl<|hK255 _ _ _<|sr fun K269 hK270=>mv z<|mv z<|bK H fun v271 hC H=>?_
 refine js 4 hI268 [(2, string a15), (4, int .i64 a17), (5, slice A19 a18.length c20), (7, int .i64 a24), (8, int .i64 a25), (9, pointer (some ⟨g29, 0, none⟩)), (10, pointer (some ⟨g33, 0, none⟩)), (15, pointer (some ⟨g37, 0, none⟩)), (20, int .i64 0), (22, int .i64 y247), (24, int .i64 y262), (74, bool v271)] ?_ fun _ wd274 hI275=>?_
 refine have H:=hC;dC (y47 = true) (fun h277=>?_) fun h277=>?_
 refine yK h277 H fun H=>lda (hw:=gY z z z (vY h277)) hI268 1 ag31 z z z z<|lda (hw:=gY z z z (vY h277)) hI268 0 ag31 z z z z<|q_st_eql (hw:=gY z z z (vY h277)) (q := y246 = y261) z z eqg_api_Line (eqs_api_Line y246 y261) (eqd_api_Line _ _)<|pkt (vY h277) z<|nl<|?_
 cases H
 exact je ⟨z, z, z, z, z, z, z, z, z, z, z, z, tv⟩ hI268
 refine nK h277 H fun H=>Sk 3 z z (vN h277) z<|pkf (vN h277) z<|nl<|?_
 cases H
 exact je ⟨z, z, z, z, z, z, z, z, z, z, z, z, tv⟩ hI268
 refine mv z<|bK H fun v278 hC H=>js 4 hI275 [(2, string a15), (4, int .i64 a17), (5, slice A19 a18.length c20), (7, int .i64 a24), (8, int .i64 a25), (9, pointer (some ⟨g29, 0, none⟩)), (10, pointer (some ⟨g33, 0, none⟩)), (15, pointer (some ⟨g37, 0, none⟩)), (20, int .i64 0), (79, bool v278)] ?_ fun _ wd281 hI282=>?_
 refine have H:=hC;dC (v271 = true) (fun h284=>?_) fun h284=>?_
 refine yK h284 H fun H=>mv (hw:=gY z z z (vY h284)) z<|mv (hw:=gY z z z (vY h284)) z<|q_eql (hw:=gY z z z (vY h284)) z z<|pkt (vY h284) z<|nl<|?_
 cases H
 exact je ⟨z, z, z, z, z, z, z, z, z, z, tv⟩ hI275
 refine nK h284 H fun H=>Sk 3 z z (vN h284) z<|pkf (vN h284) z<|nl<|?_
 cases H
 exact je ⟨z, z, z, z, z, z, z, z, z, z, tv⟩ hI275
 refine asn z<|nl<|hK270 _ _ _<|sr fun K285 hK286=>lda hI282 4 ag25 z z z z<|lda hI282 3 ag28 z z z z<|mv z<|mv z<|mv z<|bK2 H fun y292 y299 hy287 H=>q_cv (vs := [agg [slice A2 a1.Glyphs.length c3, slice A6 a1.Kerns.length c7].toArray, agg [int .i64 a10.Before, int .i64 a10.Behind, slice A11 a10.Keep.length c12].toArray, string a15, int .i64 a17, slice A19 a18.length c20]) bo13 z z (inline_Lines_spec hy287 hI282 hl4 hD5 hl8 hD9 hl13 hD14 hl21 hD22 (hgl.mono gR))<|?_
 rintro _ wd290 ⟨A293, c294, G288, hG289, hI291, hl295, hD296, ho297, rfl⟩
 refine ⟨_, rfl, ?_⟩
 refine mv z<|exk z z<|exk z z<|asn z<|asn z<|nl<|hK286 _ _ _<|sr fun K300 hK301=>lda hI291 5 ag25 z z z z<|lda hI291 4 ag28 z z z z<|mv z<|mv z<|mv z<|bK2 H fun y307 y314 hy302 H=>?_
 refine q_cv (vs := [agg [slice A2 a1.Glyphs.length c3, slice A6 a1.Kerns.length c7].toArray, agg [int .i64 a10.Before, int .i64 a10.Behind, slice A11 a10.Keep.length c12].toArray, string a15, int .i64 a17, slice A19 a18.length c20]) bo14 z z (formeref17_Lines_spec hy302 hI291 hl4 (Dat.mono hG289 hD5) hl8 (Dat.mono hG289 hD9) hl13 (Dat.mono hG289 hD14) hl21 (Dat.mono hG289 hD22))<|?_
 rintro _ wd305 ⟨A308, c309, G303, hG304, hI306, hl310, hD311, ho312, rfl⟩
 refine ⟨_, rfl, ?_⟩
 refine mv z<|exk z z<|exk z z<|asn z<|asn z<|nl<|hK301 _ _ _<|sr fun K315 hK316=>mv z<|mv z<|bK H fun v317 hC H=>?_
 refine jS 4 G303 [(2, string a15), (4, int .i64 a17), (7, int .i64 a24), (8, int .i64 a25), (9, pointer (some ⟨g29, 0, none⟩)), (15, pointer (some ⟨g37, 0, none⟩)), (20, int .i64 0), (22, int .i64 y299), (24, int .i64 y314), (103, bool v317)] (bx g264 [int .i64 y261.From, int .i64 y261.Until, int .i64 y261.Width, bool y261.Hyphen] 31 :: bx g249 [int .i64 y246.From, int .i64 y246.Until, int .i64 y246.Width, bool y246.Hyphen] 31 :: bx g37 [int .i64 a23.From, int .i64 a23.Until, int .i64 a23.Width, bool a23.Hyphen] 31 :: bx g33 [int .i64 a10.Before, int .i64 a10.Behind, slice A11 a10.Keep.length c12] 28 :: bx g29 [slice A2 a1.Glyphs.length c3, slice A6 a1.Kerns.length c7] 25 :: tk (slice A308 y307.length c309) 4 31 :: tk (slice A293 y292.length c294) 4 31 :: L) ?_ fun _ wd320 hI321=>?_
 refine have H:=hC;dC (v278 = true) (fun h323=>?_) fun h323=>?_
 refine yK h323 H fun H=>mv (hw:=gY z z z (vY h323)) z<|mv (hw:=gY z z z (vY h323)) z<|bK H fun y329 hy324 H=>cv (hw:=gY z z z (vY h323)) bo15 (formeref17_Same_spec hy324 hI306 hl295 (Dat.mono hG304 hD296) hl310 hD311) z z fun wd327 hI328=>pkt (vY h323) z<|nl<|have hI330:=Hp.front hI328 1 z;have hI331:=Hp.front hI330 1 z;have hI332:=Hp.front hI331 6 z;have hI333:=Hp.front hI332 6 z;have hI334:=Hp.front hI333 6 z;have hI335:=Hp.front hI334 6 z;have hI336:=Hp.front hI335 6 z;?_
 cases H
 exact je ⟨z, z, z, z, z, z, z, z, z, z, tv⟩ hI336
 refine nK h323 H fun H=>Sk 3 z z (vN h323) z<|pkf (vN h323) z<|nl<|have hI337:=Hp.front hI306 1 z;have hI338:=Hp.front hI337 1 z;have hI339:=Hp.front hI338 6 z;have hI340:=Hp.front hI339 6 z;have hI341:=Hp.front hI340 6 z;have hI342:=Hp.front hI341 6 z;have hI343:=Hp.front hI342 6 z;?_
 cases H
 exact je ⟨z, z, z, z, z, z, z, z, z, z, tv⟩ hI343
 refine mv z<|bK H fun v344 hC H=>js 4 hI321 [(2, string a15), (4, int .i64 a17), (7, int .i64 a24), (8, int .i64 a25), (9, pointer (some ⟨g29, 0, none⟩)), (15, pointer (some ⟨g37, 0, none⟩)), (20, int .i64 0), (108, bool v344)] ?_ fun _ wd347 hI348=>?_
 refine have H:=hC;dC (v317 = true) (fun h350=>?_) fun h350=>?_
 refine yK h350 H fun H=>mv (hw:=gY z z z (vY h350)) z<|mv (hw:=gY z z z (vY h350)) z<|q_eql (hw:=gY z z z (vY h350)) z z<|pkt (vY h350) z<|nl<|?_
 cases H
 exact je ⟨z, z, z, z, z, z, z, z, tv⟩ hI321
 refine nK h350 H fun H=>Sk 3 z z (vN h350) z<|pkf (vN h350) z<|nl<|?_
 cases H
 exact je ⟨z, z, z, z, z, z, z, z, tv⟩ hI321
 refine asn z<|nl<|hK316 _ _ _<|sr fun K351 hK352=>lda hI348 4 ag25 z z z z<|mv z<|lda hI348 2 ag31 z z z z<|mv z<|mv z<|mv z<|mv z<|bK3 H fun y358 y359 y360 hy353 H=>cv bo16 (inline_Place_spec hy353 hI348 hl4 (Dat.mono (gT hG289 hG304) hD5) hl8 (Dat.mono (gT hG289 hG304) hD9) (hgl.mono (gT hG289 hG304))) z z fun wd356 hI357=>mv z<|?_
 refine exk z z<|exk z z<|exk z z<|asn z<|asn z<|asn z<|nl<|hK352 _ _ _<|sr fun K361 hK362=>lda hI357 4 ag25 z z z z<|mv z<|lda hI357 2 ag31 z z z z<|mv z<|mv z<|?_
 refine mv z<|mv z<|bK3 H fun y368 y369 y370 hy363 H=>cv bo17 (formeref17_Place_spec hy363 hI357 hl4 (Dat.mono (gT hG289 hG304) hD5) hl8 (Dat.mono (gT hG289 hG304) hD9)) z z fun wd366 hI367=>mv z<|exk z z<|exk z z<|exk z z<|asn z<|asn z<|asn z<|nl<|hK362 _ _ _<|sr fun K371 hK372=>?_
 refine mv z<|mv z<|bK H fun v373 hC H=>js 4 hI367 [(22, int .i64 y360), (24, int .i64 y370), (28, int .i64 y359), (30, int .i64 y369), (138, bool v373)] ?_ fun _ wd376 hI377=>?_
 refine have H:=hC;dC (v344 = true) (fun h379=>?_) fun h379=>?_
 refine yK h379 H fun H=>mv (hw:=gY z z z (vY h379)) z<|mv (hw:=gY z z z (vY h379)) z<|q_str_eql (hw:=gY z z z (vY h379)) z z<|pkt (vY h379) z<|nl<|?_
 cases H
 exact je ⟨z, z, z, z, z, tv⟩ hI367
 refine nK h379 H fun H=>Sk 3 z z (vN h379) z<|pkf (vN h379) z<|nl<|?_
 cases H
 exact je ⟨z, z, z, z, z, tv⟩ hI367
 refine mv z<|bK H fun v380 hC H=>js 4 hI377 [(22, int .i64 y360), (24, int .i64 y370), (143, bool v380)] ?_ fun _ wd383 hI384=>?_
 refine have H:=hC;dC (v373 = true) (fun h386=>?_) fun h386=>?_
 refine yK h386 H fun H=>mv (hw:=gY z z z (vY h386)) z<|mv (hw:=gY z z z (vY h386)) z<|q_eql (hw:=gY z z z (vY h386)) z z<|pkt (vY h386) z<|nl<|?_
 cases H
 exact je ⟨z, z, z, tv⟩ hI377
 refine nK h386 H fun H=>Sk 3 z z (vN h386) z<|pkf (vN h386) z<|nl<|?_
 cases H
 exact je ⟨z, z, z, tv⟩ hI377
 refine mv z<|bK H fun v387 hC H=>js 4 hI384 [(148, bool v387)] ?_ fun _ wd390 hI391=>?_
 refine have H:=hC;dC (v380 = true) (fun h393=>?_) fun h393=>?_
 refine yK h393 H fun H=>mv (hw:=gY z z z (vY h393)) z<|mv (hw:=gY z z z (vY h393)) z<|q_eql (hw:=gY z z z (vY h393)) z z<|pkt (vY h393) z<|nl<|?_
 cases H
 exact je ⟨z, tv⟩ hI384
 refine nK h393 H fun H=>Sk 3 z z (vN h393) z<|pkf (vN h393) z<|nl<|?_
 cases H
 exact je ⟨z, tv⟩ hI384
 refine asn z<|nl<|hK372 _ _ _<|wr<|have hI394:=Hp.sub hI391 (sd (sd (sd (sd (sd (sd (sd se)))))));?_
 cases H
 exact rt ⟨_, _, z, z, z⟩ (Hp.low (gT hG289 hG304) hI394)
end Go.Proofs.YtokeiiakkfdmgaaGreatDoor.LG
