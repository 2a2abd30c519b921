/-
  The walks: each function computes its plain function: printed by a program out of the translation.
-/
import Derived.Test.YtoladeanenmepaaGreatDoorSa
set_option linter.unusedVariables false
set_option linter.unusedSimpArgs false
set_option maxRecDepth 100000
namespace Go.Proofs.YtoladeanenmepaaGreatDoor.LG
open Go Go.LG Go.RowKit Go.Value
set_option maxHeartbeats 20000000
open Go.Lib hiding add_plain
open Go.Shelf Go.Proofs
theorem formelaw41_RefsParts_spec {a1 a2 a3 A4 c5 r1008 G L w} (H : formelaw41_RefsParts a1 a2 a3 = some r1008) (hI : Hp G L w) (hl6 : a3.length ≤ c5) (hD7 : Dat k_api_Page G A4 a3) (hgl : Gl G) :
    Calls Tryz.prog 3 [string a1, string a2, slice A4 a3.length c5].toArray w fun e w' => Hp G L w' ∧ e = .returned (bool r1008) := by
 refine calls_intro (N := 124) Tryz.func3 z z (Nat.le_of_ble_eq_true z)<|?_
 unfold formelaw41_RefsParts at H
 refine sr fun K8 hK9=>asn z<|nl<|hK9 _ _ _<|sr fun K10 hK11=>bK H fun y17 hy12 H=>cv bo5 (formelaw41_head_spec hy12 hI (hgl.mono gR)) z z fun wd15 hI16=>asn z<|nl<|hK11 _ _ _<|sQ fun K18 hK19=>sr fun K20 hK21=>mv z<|q_lens so9 z<|?_
 refine q_gtr z z<|mv z<|bK H fun v22 hC H=>js 4 hI16 [(0, string a1), (1, string a2), (2, slice A4 a3.length c5), (7, bool y17), (28, bool v22)] ?_ fun _ wd25 hI26=>?_
 refine have H:=hC;dC (300 < (a1.size : Int)) (fun h28=>?_) fun h28=>?_
 refine yK h28 H fun H=>Sk 3 z z (bY h28) z<|pkt (bY h28) z<|nl<|?_
 cases H
 exact je ⟨z, z, z, z, z, tv⟩ hI16
 refine nK h28 H fun H=>mv (hw:=gY z z z (bN h28)) z<|q_lens (hw:=gY z z z (bN h28)) so9 z<|q_gtr (hw:=gY z z z (bN h28)) z z<|pkf (bN h28) z<|nl<|?_
 cases H
 exact je ⟨z, z, z, z, z, tv⟩ hI16
 refine mv z<|bK H fun v29 hC H=>js 4 hI26 [(0, string a1), (1, string a2), (2, slice A4 a3.length c5), (7, bool y17), (33, bool v29)] ?_ fun _ wd32 hI33=>?_
 refine have H:=hC;dC (v22 = true) (fun h35=>?_) fun h35=>?_
 refine yK h35 H fun H=>Sk 3 z z (vY h35) z<|pkt (vY h35) z<|nl<|?_
 cases H
 exact je ⟨z, z, z, z, z, tv⟩ hI26
 refine nK h35 H fun H=>mv (hw:=gY z z z (vN h35)) z<|bK H fun y41 hy36 H=>cv (hw:=gY z z z (vN h35)) bo6 (formelaw41_few_spec hy36 hI26 hl6 hD7) z z fun wd39 hI40=>q_not (hw:=gY z z z (vN h35)) z<|pkf (vN h35) z<|nl<|?_
 cases H
 exact je ⟨z, z, z, z, z, tv⟩ hI40
 refine nl<|hK21 _ _ _<|dC (v29 = true) (fun h42=>?_) fun h42=>?_
 refine yK h42 H fun H=>wt (vY h42)<|sr fun K43 hK44=>mv z<|asn z<|nl<|hK44 _ _ _<|wr<|?_
 cases H
 exact rt ⟨_, _, z, z, z⟩ hI33
 refine nK h42 H fun H=>wf (vN h42)<|ws<|hK19 _ _ _<|sr fun K45 hK46=>mv z<|bK2 H fun y52 y59 hy47 H=>q_cv (vs := [string a1]) bo7 z z (refs_Refs_spec hy47 hI33 (hgl.mono gR))<|?_
 rintro _ wd50 ⟨A53, c54, G48, hG49, hI51, hl55, hD56, ho57, rfl⟩
 refine ⟨_, rfl, ?_⟩
 refine mv z<|exk z z<|exk z z<|asn z<|asn z<|nl<|hK46 _ _ _<|sr fun K60 hK61=>mv z<|bK2 H fun y67 y74 hy62 H=>q_cv (vs := [string a2]) bo7 z z (refs_Refs_spec hy62 hI51 (hgl.mono hG49))<|?_
 rintro _ wd65 ⟨A68, c69, G63, hG64, hI66, hl70, hD71, ho72, rfl⟩
 refine ⟨_, rfl, ?_⟩
 refine mv z<|exk z z<|exk z z<|asn z<|asn z<|nl<|hK61 _ _ _<|sr fun K75 hK76=>mv z<|iK H fun h77 H=>q_str_add z z h77<|mv z<|iK H fun h78 H=>q_str_add z z h78<|?_
 refine bK2 H fun y84 y91 hy79 H=>q_cv (vs := [string ((a1 ++ (⟨#[32]⟩ : ByteArray)) ++ a2)]) bo7 z z (refs_Refs_spec hy79 hI66 (hgl.mono (gT hG49 hG64)))<|?_
 rintro _ wd82 ⟨A85, c86, G80, hG81, hI83, hl87, hD88, ho89, rfl⟩
 refine ⟨_, rfl, ?_⟩
 refine mv z<|exk z z<|exk z z<|asn z<|asn z<|nl<|hK76 _ _ _<|sr fun K92 hK93=>mv z<|mv z<|bK2 H fun y99 y100 hy94 H=>cv bo8 (refs_Fill_spec hy94 hI83 hl6 (Dat.mono (gT (gT hG49 hG64) hG81) hD7) (hgl.mono (gT (gT hG49 hG64) hG81))) z z fun wd97 hI98=>mv z<|exk z z<|?_
 refine exk z z<|asn z<|asn z<|nl<|hK93 _ _ _<|sr fun K101 hK102=>mv z<|mv z<|bK2 H fun y108 y109 hy103 H=>cv bo8 (refs_Fill_spec hy103 hI98 hl6 (Dat.mono (gT (gT hG49 hG64) hG81) hD7) (hgl.mono (gT (gT hG49 hG64) hG81))) z z fun wd106 hI107=>mv z<|exk z z<|exk z z<|asn z<|?_
 refine asn z<|nl<|hK102 _ _ _<|sr fun K110 hK111=>mv z<|iK H fun h112 H=>q_str_add z z h112<|mv z<|iK H fun h113 H=>q_str_add z z h113<|mv z<|bK2 H fun y119 y120 hy114 H=>cv bo8 (refs_Fill_spec hy114 hI107 hl6 (Dat.mono (gT (gT hG49 hG64) hG81) hD7) (hgl.mono (gT (gT hG49 hG64) hG81))) z z fun wd117 hI118=>mv z<|?_
 refine exk z z<|exk z z<|asn z<|asn z<|nl<|hK111 _ _ _<|sQ fun K121 hK122=>sr fun K123 hK124=>mv z<|q_neq z z<|mv z<|bK H fun v125 hC H=>?_
 refine js 3 hI118 [(7, bool y17), (8, slice A53 y52.length c54), (10, slice A68 y67.length c69), (12, slice A85 y84.length c86), (13, int .i64 y91), (14, string y99), (15, int .i64 y100), (16, string y108), (17, int .i64 y109), (18, string y119), (19, int .i64 y120), (79, bool v125)] ?_ fun _ wd128 hI129=>?_
 refine have H:=hC;dC (¬ y59 = 0) (fun h131=>?_) fun h131=>?_
 refine yK h131 H fun H=>Sk 2 z z (bY h131) z<|pkt (bY h131) z<|nl<|?_
 cases H
 exact je ⟨z, z, z, z, z, z, z, z, z, z, z, z, tv⟩ hI118
 refine nK h131 H fun H=>mv (hw:=gY z z z (bN h131)) z<|q_neq (hw:=gY z z z (bN h131)) z z<|pkf (bN h131) z<|nl<|?_
 cases H
 exact je ⟨z, z, z, z, z, z, z, z, z, z, z, z, tv⟩ hI118
 refine nl<|hK124 _ _ _<|dC (v125 = true) (fun h132=>?_) fun h132=>?_
 refine yK h132 H fun H=>wt (vY h132)<|sr fun K133 hK134=>mv z<|mv z<|bK H fun v135 hC H=>js 3 hI129 [(19, int .i64 y120), (84, bool v135)] ?_ fun _ wd138 hI139=>?_
 refine have H:=hC;dC (y17 = true) (fun h141=>?_) fun h141=>?_
 refine yK h141 H fun H=>mv (hw:=gY z z z (vY h141)) z<|q_eql (hw:=gY z z z (vY h141)) z z<|pkt (vY h141) z<|nl<|?_
 cases H
 exact je ⟨z, z, tv⟩ hI129
 refine nK h141 H fun H=>Sk 2 z z (vN h141) z<|pkf (vN h141) z<|nl<|?_
 cases H
 exact je ⟨z, z, tv⟩ hI129
 refine mv z<|bK H fun v142 hC H=>js 3 hI139 [(88, bool v142)] ?_ fun _ wd145 hI146=>?_
 refine have H:=hC;dC (v135 = true) (fun h148=>?_) fun h148=>?_
 refine yK h148 H fun H=>mv (hw:=gY z z z (vY h148)) z<|q_eql (hw:=gY z z z (vY h148)) z z<|pkt (vY h148) z<|nl<|?_
 cases H
 exact je ⟨z, tv⟩ hI139
 refine nK h148 H fun H=>Sk 2 z z (vN h148) z<|pkf (vN h148) z<|nl<|?_
 cases H
 exact je ⟨z, tv⟩ hI139
 refine asn z<|nl<|hK134 _ _ _<|wr<|have hI149:=Hp.pick 3 [] hI146 z;?_
 cases H
 exact rt ⟨_, _, z, z, z⟩ (Hp.low (gT (gT hG49 hG64) hG81) hI149)
 refine nK h132 H fun H=>wf (vN h132)<|ws<|hK122 _ _ _<|sQ fun K150 hK151=>sr fun K152 hK153=>mv z<|q_neq z z<|mv z<|bK H fun v154 hC H=>js 9 hI129 [(7, bool y17), (14, string y99), (15, int .i64 y100), (16, string y108), (17, int .i64 y109), (18, string y119), (19, int .i64 y120), (100, bool v154)] ?_ fun _ wd157 hI158=>?_
 refine have H:=hC;dC (¬ y91 = 0) (fun h160=>?_) fun h160=>?_
 refine yK h160 H fun H=>Sk 8 z z (bY h160) z<|pkt (bY h160) z<|nl<|?_
 cases H
 exact je ⟨z, z, z, z, z, z, z, z, tv⟩ hI129
 refine nK h160 H fun H=>mv (hw:=gY z z z (bN h160)) z<|?_
 refine q_bs hI129 (vs := []) (cs := []) el25 ze3 rfl (by decide) rfl (by kernel_rfl) (fun g162 wd163 hI164 => ?_) (hw := gY rfl rfl rfl (bool_no h160))
 obtain ⟨G165, hG166, hI168, hD167⟩ := Hp.publish (xs := ([] : List Int)) (n := 0) (Kd.int .i64) hI164 rfl rfl
 refine mv (hw:=gY z z z (bN h160)) z<|?_
 obtain ⟨nw179, hs180, hf181⟩ := src_dat (u := 25) hI168 so25 (Dat.mono (gT (gT hG64 hG81) hG166) hD56)
 refine iK H fun h178 H=>?_
 refine q_app (xs := ([] : List Int)) (ys := y52) (Kd.int .i64) hI168 0 el25 ze3 rfl rfl rfl rfl (Own.mk _ _ _) (show ([] : List Int).length ≤ 0 from Nat.le_of_ble_eq_true rfl) hD167 hs180 hf181 rfl (by (try simp only [List.length_cons, List.length_nil]); omega) (by (try simp only [List.length_cons, List.length_nil]); omega) (fun A169 c170 G171 wd172 hG173 ho174 hl175 hD176 hI177 => ?_) (hw := gY rfl rfl rfl (bool_no h160))
 refine mv (hw:=gY z z z (bN h160)) z<|?_
 obtain ⟨nw192, hs193, hf194⟩ := src_dat (u := 25) hI177 so25 (Dat.mono (gT (gT hG81 hG166) hG173) hD71)
 refine iK H fun h191 H=>?_
 refine q_app (xs := ([] : List Int) ++ y52) (ys := y67) (Kd.int .i64) hI177 0 el25 ze3 rfl rfl rfl rfl ho174 hl175 hD176 hs193 hf194 rfl (by (try simp only [List.length_cons, List.length_nil]); omega) (by (try simp only [List.length_cons, List.length_nil]); omega) (fun A182 c183 G184 wd185 hG186 ho187 hl188 hD189 hI190 => ?_) (hw := gY rfl rfl rfl (bool_no h160))
 refine bK H fun y200 hy195 H=>cv (hw:=gY z z z (bN h160)) bo9 (formeref02_SameInts_spec (a6 := (([] : List Int) ++ y52) ++ y67) hy195 hI190 hl87 (Dat.mono (gT (gT hG166 hG173) hG186) hD88) hl188 hD189) z z fun wd198 hI199=>q_not (hw:=gY z z z (bN h160)) z<|pkf (bN h160) z<|nl<|have hI204:=Hp.pick 4 [1, 2, 3] hI199 z;?_
 cases H
 exact je ⟨z, z, z, z, z, z, z, z, tv⟩ (Hp.low (gT (gT hG166 hG173) hG186) hI204)
 refine nl<|hK153 _ _ _<|dC (v154 = true) (fun h205=>?_) fun h205=>?_
 refine yK h205 H fun H=>wt (vY h205)<|sr fun K206 hK207=>asn z<|nl<|hK207 _ _ _<|wr<|have hI208:=Hp.pick 3 [] hI158 z;?_
 cases H
 exact rt ⟨_, _, z, z, z⟩ (Hp.low (gT (gT hG49 hG64) hG81) hI208)
 refine nK h205 H fun H=>wf (vN h205)<|ws<|hK151 _ _ _<|sr fun K209 hK210=>mv z<|mv z<|bK H fun v211 hC H=>js 4 hI158 [(14, string y99), (15, int .i64 y100), (16, string y108), (18, string y119), (19, int .i64 y120), (106, bool v211)] ?_ fun _ wd214 hI215=>?_
 refine have H:=hC;dC (y17 = true) (fun h217=>?_) fun h217=>?_
 refine yK h217 H fun H=>mv (hw:=gY z z z (vY h217)) z<|mv (hw:=gY z z z (vY h217)) z<|q_eql (hw:=gY z z z (vY h217)) z z<|pkt (vY h217) z<|nl<|?_
 cases H
 exact je ⟨z, z, z, z, z, z, tv⟩ hI158
 refine nK h217 H fun H=>Sk 3 z z (vN h217) z<|pkf (vN h217) z<|nl<|?_
 cases H
 exact je ⟨z, z, z, z, z, z, tv⟩ hI158
 refine mv z<|bK H fun v218 hC H=>js 4 hI215 [(14, string y99), (15, int .i64 y100), (16, string y108), (18, string y119), (111, bool v218)] ?_ fun _ wd221 hI222=>?_
 refine have H:=hC;dC (v211 = true) (fun h224=>?_) fun h224=>?_
 refine yK h224 H fun H=>mv (hw:=gY z z z (vY h224)) z<|mv (hw:=gY z z z (vY h224)) z<|q_eql (hw:=gY z z z (vY h224)) z z<|pkt (vY h224) z<|nl<|?_
 cases H
 exact je ⟨z, z, z, z, z, tv⟩ hI215
 refine nK h224 H fun H=>Sk 3 z z (vN h224) z<|pkf (vN h224) z<|nl<|?_
 cases H
 exact je ⟨z, z, z, z, z, tv⟩ hI215
 refine mv z<|bK H fun v225 hC H=>js 11 hI222 [(123, bool v225)] ?_ fun _ wd228 hI229=>?_
 refine have H:=hC;dC (v218 = true) (fun h231=>?_) fun h231=>?_
 refine yK h231 H fun H=>mv (hw:=gY z z z (vY h231)) z<|q_neq (hw:=gY z z z (vY h231)) z z<|mv (hw:=gY z z z (vY h231)) z<|bK H fun v232 hC H=>js 7 hI222 [(112, bool v218), (122, bool v232)] ?_ fun _ wd235 hI236=>?_
 refine have H:=hC;dC (¬ y100 = 0) (fun h238=>?_) fun h238=>?_
 refine yK h238 H fun H=>Sk 6 z z (bY h238) z<|pkt (hw:=gY z z z (vY h231)) (bY h238) z<|nl<|?_
 cases H
 exact je ⟨z, z, tv⟩ hI222
 refine nK h238 H fun H=>mv (hw:=gY z z z (bN h238)) z<|mv (hw:=gY z z z (bN h238)) z<|iK H fun h239 H=>q_str_add (hw:=gY z z z (bN h238)) z z h239<|mv (hw:=gY z z z (bN h238)) z<|iK H fun h240 H=>q_str_add (hw:=gY z z z (bN h238)) z z h240<|q_str_eql (hw:=gY z z z (bN h238)) z z<|pkf (hw:=gY z z z (vY h231)) (bN h238) z<|nl<|?_
 cases H
 exact je ⟨z, z, tv⟩ hI222
 refine pkt (vY h231) z<|nl<|?_
 cases H
 exact je ⟨z, tv⟩ hI236
 refine nK h231 H fun H=>Sk 3 z z (vN h231) z<|Su 6 z<|wN (gN z z z (vN h231) z)<|pkf (vN h231) z<|nl<|?_
 cases H
 exact je ⟨z, tv⟩ hI222
 refine asn z<|nl<|hK210 _ _ _<|wr<|have hI241:=Hp.pick 3 [] hI229 z;?_
 cases H
 exact rt ⟨_, _, z, z, z⟩ (Hp.low (gT (gT hG49 hG64) hG81) hI241)
end Go.Proofs.YtoladeanenmepaaGreatDoor.LG
