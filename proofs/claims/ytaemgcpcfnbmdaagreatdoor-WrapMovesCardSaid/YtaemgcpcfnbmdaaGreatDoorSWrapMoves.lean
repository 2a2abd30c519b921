/-
  The walks: each function computes its plain function: printed by a program out of the translation.
-/
import Derived.Test.YtaemgcpcfnbmdaaGreatDoorSd
set_option linter.unusedVariables false
set_option linter.unusedSimpArgs false
set_option maxRecDepth 100000
namespace Go.Proofs.YtaemgcpcfnbmdaaGreatDoor.LG
open Go Go.LG Go.RowKit Go.Value
set_option maxHeartbeats 1000000
open Go.Lib Go.Shelf Go.Proofs
theorem formelaw21_WrapMoves_spec {a1 a10 a15 a16 a17 a22 A2 c3 A6 c7 A11 c12 A18 c19 r1023 G L w} (H : formelaw21_WrapMoves a1 a10 a15 a16 a17 a22 = some r1023) (hI : Hp G L w) (hl4 : a1.Glyphs.length ≤ c3) (hD5 : Dat k_api_Glyph G A2 a1.Glyphs) (hl8 : a1.Kerns.length ≤ c7) (hD9 : Dat k_api_Kern G A6 a1.Kerns) (hl13 : a10.Keep.length ≤ c12) (hD14 : Dat Kd.str G A11 a10.Keep) (hl20 : a17.length ≤ c19) (hD21 : Dat k_api_Float G A18 a17) (hgl : Gl G) :
    Calls Tryz.prog 9 [agg [slice A2 a1.Glyphs.length c3, slice A6 a1.Kerns.length c7].toArray, agg [int .i64 a10.Before, int .i64 a10.Behind, slice A11 a10.Keep.length c12].toArray, string a15, agg [int .i64 a16.Scale, int .i64 a16.Line, int .i64 a16.Align, int .i64 a16.Dir, int .i64 a16.Width, int .i64 a16.Y].toArray, slice A18 a17.length c19, int .u16 a22].toArray w fun e w' => Hp G L w' ∧ e = .returned (bool r1023) := by
 refine calls_intro (N := 144) Tryz.func9 z z (Nat.le_of_ble_eq_true z)<|?_
 unfold formelaw21_WrapMoves at H
 refine sr fun K23 hK24=>bxk hI z z fun g26 wd27 hI28=>bxk hI28 z z fun g30 wd31 hI32=>bxk hI32 z z fun g34 wd35 hI36=>asn z<|nl<|hK24 _ _ _<|sr fun K37 hK38=>bK H fun y44 hy39 H=>cv bo10 (formelaw21_head_spec hy39 hI36 (hgl.mono gR)) z z fun wd42 hI43=>asn z<|nl<|hK38 _ _ _<|sQ fun K45 hK46=>?_
 refine sr fun K47 hK48=>lda hI43 2 ag25 z z z z<|lda hI43 1 ag28 z z z z<|mv z<|lda hI43 0 ag30 z z z z<|mv z<|bK H fun y54 hy49 H=>cv bo15 (formelaw21_usable_spec hy49 hI43 hl4 hD5 hl8 hD9 hl13 hD14 hl20 hD21) z z fun wd52 hI53=>q_not z<|nl<|hK48 _ _ _<|dC ((!y54) = true) (fun h55=>?_) fun h55=>?_
 refine yK h55 H fun H=>wt (vY h55)<|sr fun K56 hK57=>mv z<|asn z<|nl<|hK57 _ _ _<|wr<|have hI58:=Hp.pick 3 [] hI53 z;?_
 cases H
 exact rt ⟨_, _, z, z, z⟩ hI58
 refine nK h55 H fun H=>wf (vN h55)<|ws<|hK46 _ _ _<|sr fun K59 hK60=>asn z<|nl<|hK60 _ _ _<|sQ fun K61 hK62=>sr fun K63 hK64=>mv z<|q_len so31 z<|mv z<|nl<|?_
 refine hK64 _ _ _<|wb<|bK H fun v90 hC H=>?_
 refine wpc_mono (Q := fun e r ds w => e = .exit 0 ∧ ∃ (A91 : Option Addr) (c92 : Nat) (G97 : Gh), ds = [] ∧ G ≤ G97 ∧ Has [(2, string a15), (4, slice A18 a17.length c19), (5, int .u16 a22), (6, pointer (some ⟨g26, 0, none⟩)), (7, pointer (some ⟨g30, 0, none⟩)), (9, pointer (some ⟨g34, 0, none⟩)), (13, bool y44), (14, slice A91 v90.length c92)] r ∧ Hp G97 (bx g34 [int .i64 a16.Scale, int .i64 a16.Line, int .i64 a16.Align, int .i64 a16.Dir, int .i64 a16.Width, int .i64 a16.Y] 30 :: bx g30 [int .i64 a10.Before, int .i64 a10.Behind, slice A11 a10.Keep.length c12] 28 :: bx g26 [slice A2 a1.Glyphs.length c3, slice A6 a1.Kerns.length c7] 25 :: tk (slice A91 v90.length c92) 5 57 :: L) w ∧ v90.length ≤ c92 ∧ Dat k_api_Float G97 A91 v90 ∧ Own A91 c92 ∧ True) ?_ ?_
 refine have hI151:=Hp.emp hI53;have hI155:=Hp.pick 4 [1, 2, 3, 0] hI151 z;wpc_loop fun I hLp=>?_
 refine formelaw21_WrapMoves_l89.partial_correctness a17 a22 (fun v69 v76 o => ∀ (A70 : Option Addr) (c71 : Nat) (G102 : Gh) (r : Rg) (w : World), G ≤ G102 → Has [(2, string a15), (4, slice A18 a17.length c19), (5, int .u16 a22), (6, pointer (some ⟨g26, 0, none⟩)), (7, pointer (some ⟨g30, 0, none⟩)), (9, pointer (some ⟨g34, 0, none⟩)), (13, bool y44), (14, slice A70 v69.length c71), (35, slice A18 a17.length c19), (36, int .i64 (a17.length : Int)), (37, int .i64 v76)] r → Hp G102 (bx g34 [int .i64 a16.Scale, int .i64 a16.Line, int .i64 a16.Align, int .i64 a16.Dir, int .i64 a16.Width, int .i64 a16.Y] 30 :: bx g30 [int .i64 a10.Before, int .i64 a10.Behind, slice A11 a10.Keep.length c12] 28 :: bx g26 [slice A2 a1.Glyphs.length c3, slice A6 a1.Kerns.length c7] 25 :: tk (slice A70 v69.length c71) 5 57 :: L) w → v69.length ≤ c71 → Dat k_api_Float G102 A70 v69 → Own A70 c71 → o = v90 → I r [] w) ?_ ([] : List api_Float) 0 _ hC none 0 _ _ _ gR ⟨rfl, rfl, rfl, rfl, rfl, rfl, rfl, rfl, rfl, rfl, rfl, tv⟩ hI155 (show ([] : List api_Float).length ≤ 0 from Nat.le_refl 0) (Dat.nil _ _ _) Own.nil rfl
 intro _ ih v69 v76 o H A70 c71 G102 r wd104 hG103 hHas hI105 hl72 hD73 ho74 ho
 rw [ho] at H; clear ho
 rw [hHas.eq]; clear hHas
 refine hLp _ _ _<|sr fun K106 hK107=>q_lss z z<|nl<|hK107 _ _ _<|sQ fun K108 hK109=>dC (v76 < (a17.length : Int)) (fun h110=>?_) fun h110=>?_
 refine yK h110 H fun H=>wt (bY h110)<|ws<|hK109 _ _ _<|sQ fun K111 hK112=>wb<|sr fun K113 hK114=>iK H fun⟨h115, h115'⟩H=>?_
 obtain ⟨ad116, cs117, hA118, hK119, hn120, hc121⟩ := Dat.get (Dat.mono hG103 hD21) z_api_Float (v76) h115 h115'
 obtain ⟨rfl⟩ := open_api_Float hK119
 refine q_ia el31 z hA118 z h115 h115'<|q_lfA hI105 ag57 z (cs := [int .i64 ((a17.getD (Int.toNat v76) z_api_Float).Side), int .i64 ((a17.getD (Int.toNat v76) z_api_Float).X), int .i64 ((a17.getD (Int.toNat v76) z_api_Float).Y), int .i64 ((a17.getD (Int.toNat v76) z_api_Float).W), int .i64 ((a17.getD (Int.toNat v76) z_api_Float).H)]) z (fun j v hv => gR.cel _ _ (hc121 j v hv))<|q_alloc hI105 ze57 fun g123 wd124 hI125=>stk hI125 0 ag57 z z z z z z z fun wd126 hI127=>nl<|hK114 _ _ _<|sr fun K128 hK129=>fa fl57_2 z<|ld hI127 0 ag3 z z z<|mv z<|q_cvi ik66 ik3 z<|q_add z z<|fa fl57_2 z<|stk hI127 0 ag3 z z z z z z z fun wd130 hI131=>?_
 refine nl<|hK129 _ _ _<|wpc_region<|mv z<|lda hI131 0 ag57 z z z z<|?_
 refine q_bs hI131 (vs := [(0, agg [int .i64 ((a17.getD (Int.toNat v76) z_api_Float).Side), int .i64 ((a17.getD (Int.toNat v76) z_api_Float).X), int .i64 (w64 (((a17.getD (Int.toNat v76) z_api_Float).Y) + (w64 (a22)))), int .i64 ((a17.getD (Int.toNat v76) z_api_Float).W), int .i64 ((a17.getD (Int.toNat v76) z_api_Float).H)].toArray)]) (cs := [int .i64 ((a17.getD (Int.toNat v76) z_api_Float).Side), int .i64 ((a17.getD (Int.toNat v76) z_api_Float).X), int .i64 (w64 (((a17.getD (Int.toNat v76) z_api_Float).Y) + (w64 (a22)))), int .i64 ((a17.getD (Int.toNat v76) z_api_Float).W), int .i64 ((a17.getD (Int.toNat v76) z_api_Float).H)]) el31 ze57 rfl (by decide) rfl rfl (fun g133 wd134 hI135 => ?_)
 refine iK H fun h145 H=>?_
 refine q_app (xs := v69) (ys := [(⟨(a17.getD (Int.toNat v76) z_api_Float).Side, (a17.getD (Int.toNat v76) z_api_Float).X, w64 (((a17.getD (Int.toNat v76) z_api_Float).Y) + (w64 (a22))), (a17.getD (Int.toNat v76) z_api_Float).W, (a17.getD (Int.toNat v76) z_api_Float).H⟩ : api_Float)]) k_api_Float hI135 5 el31 ze57 rfl rfl rfl rfl ho74 hl72 hD73 (src_bx hI135 0 so31 rfl rfl) ⟨[int .i64 ((a17.getD (Int.toNat v76) z_api_Float).Side), int .i64 ((a17.getD (Int.toNat v76) z_api_Float).X), int .i64 (w64 (((a17.getD (Int.toNat v76) z_api_Float).Y) + (w64 (a22)))), int .i64 ((a17.getD (Int.toNat v76) z_api_Float).W), int .i64 ((a17.getD (Int.toNat v76) z_api_Float).H)], _, rfl, (mk_api_Float (x := (⟨(a17.getD (Int.toNat v76) z_api_Float).Side, (a17.getD (Int.toNat v76) z_api_Float).X, w64 (((a17.getD (Int.toNat v76) z_api_Float).Y) + (w64 (a22))), (a17.getD (Int.toNat v76) z_api_Float).W, (a17.getD (Int.toNat v76) z_api_Float).H⟩ : api_Float))), rfl⟩ rfl (by simp only [List.length_cons, List.length_nil]; omega) (by simp only [List.length_cons, List.length_nil]; omega) (fun A136 c137 G138 wd139 hG140 ho141 hl142 hD143 hI144 => ?_)
 exact asn z<|nl<|hK112 _ _ _<|wpc_region<|q_add z z<|mv z<|nl<|have hI150:=Hp.pick 6 [2, 3, 4, 5] hI144 z;ih _ _ _ H A136 c137 _ _ _ (gT hG103 hG140) ⟨z, z, z, z, z, z, z, z, z, z, z, tv⟩ hI150 hl142 hD143 ho141 z
 refine nK h110 H fun H=>wf (bN h110)<|wx<|?_
 cases H
 exact ⟨z, A70, c71, _, z, hG103, ⟨z, z, z, z, z, z, z, z, tv⟩, hI105, hl72, hD73, ho74, tv⟩
 rintro e r ds wd99 ⟨rfl, A91, c92, G97, rfl, hG98, hHas, hI100, hl93, hD94, ho95, _⟩
 rw [hHas.eq]; clear hHas
 refine hK62 _ _ _<|sr fun K156 hK157=>lda hI100 0 ag30 z z z z<|q_alloc hI100 ze30 fun g159 wd160 hI161=>stk hI161 0 ag30 z z z z z z z fun wd162 hI163=>nl<|hK157 _ _ _<|sr fun K164 hK165=>fa fl30_5 z<|ld hI163 0 ag3 z z z<|mv z<|q_cvi ik66 ik3 z<|q_add z z<|fa fl30_5 z<|?_
 refine stk hI163 0 ag3 z z z z z z z fun wd166 hI167=>nl<|hK165 _ _ _<|sr fun K168 hK169=>lda hI167 3 ag25 z z z z<|lda hI167 2 ag28 z z z z<|mv z<|lda hI167 1 ag30 z z z z<|mv z<|bK3 H fun y175 y182 y183 hy170 H=>q_cv (vs := [agg [slice A2 a1.Glyphs.length c3, slice A6 a1.Kerns.length c7].toArray, agg [int .i64 a10.Before, int .i64 a10.Behind, slice A11 a10.Keep.length c12].toArray, string a15, agg [int .i64 a16.Scale, int .i64 a16.Line, int .i64 a16.Align, int .i64 a16.Dir, int .i64 a16.Width, int .i64 a16.Y].toArray, slice A18 a17.length c19]) bo12 z z (formelaw21_lines_spec hy170 hI167 hl4 (Dat.mono hG98 hD5) hl8 (Dat.mono hG98 hD9) hl13 (Dat.mono hG98 hD14) hl20 (Dat.mono hG98 hD21) (hgl.mono hG98))<|?_
 rintro _ wd173 ⟨A176, c177, G171, hG172, hI174, hl178, hD179, ho180, rfl⟩
 refine ⟨_, rfl, ?_⟩
 refine mv z<|exk z z<|exk z z<|exk z z<|asn z<|asn z<|asn z<|nl<|hK169 _ _ _<|sQ fun K184 hK185=>sr fun K186 hK187=>lda hI174 4 ag25 z z z z<|lda hI174 3 ag28 z z z z<|mv z<|?_
 refine lda hI174 1 ag30 z z z z<|mv z<|bK H fun y193 hy188 H=>cv bo15 (formelaw21_usable_spec (a16 := (⟨a16.Scale, a16.Line, a16.Align, a16.Dir, a16.Width, w64 (a16.Y + (w64 (a22)))⟩ : formelaw21_Set)) hy188 hI174 hl4 (Dat.mono (gT hG98 hG172) hD5) hl8 (Dat.mono (gT hG98 hG172) hD9) hl13 (Dat.mono (gT hG98 hG172) hD14) hl93 (Dat.mono hG172 hD94)) z z fun wd191 hI192=>q_not z<|mv z<|bK H fun v194 hC H=>?_
 refine jS 3 G171 [(2, string a15), (5, int .u16 a22), (6, pointer (some ⟨g26, 0, none⟩)), (7, pointer (some ⟨g30, 0, none⟩)), (13, bool y44), (14, slice A91 v90.length c92), (17, pointer (some ⟨g159, 0, none⟩)), (18, slice A176 y175.length c177), (19, int .i64 y182), (20, int .i64 y183), (79, bool v194)] (bx g159 [int .i64 a16.Scale, int .i64 a16.Line, int .i64 a16.Align, int .i64 a16.Dir, int .i64 a16.Width, int .i64 (w64 (a16.Y + (w64 (a22))))] 30 :: bx g34 [int .i64 a16.Scale, int .i64 a16.Line, int .i64 a16.Align, int .i64 a16.Dir, int .i64 a16.Width, int .i64 a16.Y] 30 :: bx g30 [int .i64 a10.Before, int .i64 a10.Behind, slice A11 a10.Keep.length c12] 28 :: bx g26 [slice A2 a1.Glyphs.length c3, slice A6 a1.Kerns.length c7] 25 :: tk (slice A176 y175.length c177) 5 50 :: tk (slice A91 v90.length c92) 5 57 :: L) ?_ fun _ wd197 hI198=>?_
 refine have H:=hC;dC ((!y193) = true) (fun h200=>?_) fun h200=>?_
 refine yK h200 H fun H=>Sk 2 z z (vY h200) z<|pkt (vY h200) z<|nl<|have hI206:=Hp.pick 6 [1, 2, 3, 4, 0, 5] hI192 z;?_
 cases H
 exact je ⟨z, z, z, z, z, z, z, z, z, z, z, tv⟩ hI206
 refine nK h200 H fun H=>mv (hw:=gY z z z (vN h200)) z<|q_eql (hw:=gY z z z (vN h200)) z z<|pkf (vN h200) z<|nl<|have hI212:=Hp.pick 6 [1, 2, 3, 4, 0, 5] hI192 z;?_
 cases H
 exact je ⟨z, z, z, z, z, z, z, z, z, z, z, tv⟩ hI212
 refine mv z<|bK H fun v213 hC H=>?_
 refine js 6 hI198 [(2, string a15), (5, int .u16 a22), (6, pointer (some ⟨g26, 0, none⟩)), (7, pointer (some ⟨g30, 0, none⟩)), (13, bool y44), (14, slice A91 v90.length c92), (17, pointer (some ⟨g159, 0, none⟩)), (18, slice A176 y175.length c177), (19, int .i64 y182), (20, int .i64 y183), (86, bool v213)] ?_ fun _ wd216 hI217=>?_
 refine have H:=hC;dC (v194 = true) (fun h219=>?_) fun h219=>?_
 refine yK h219 H fun H=>Sk 5 z z (vY h219) z<|pkt (vY h219) z<|nl<|?_
 cases H
 exact je ⟨z, z, z, z, z, z, z, z, z, z, z, tv⟩ hI198
 refine nK h219 H fun H=>mv (hw:=gY z z z (vN h219)) z<|mv (hw:=gY z z z (vN h219)) z<|q_cvi (hw:=gY z z z (vN h219)) ik66 ik3 z<|q_add (hw:=gY z z z (vN h219)) z z<|q_gtr (hw:=gY z z z (vN h219)) z z<|pkf (vN h219) z<|nl<|?_
 cases H
 exact je ⟨z, z, z, z, z, z, z, z, z, z, z, tv⟩ hI198
 refine nl<|hK187 _ _ _<|dC (v213 = true) (fun h220=>?_) fun h220=>?_
 refine yK h220 H fun H=>wt (vY h220)<|sr fun K221 hK222=>mv z<|asn z<|nl<|hK222 _ _ _<|wr<|have hI223:=Hp.pick 6 [] hI217 z;?_
 cases H
 exact rt ⟨_, _, z, z, z⟩ (Hp.low (gT hG98 hG172) hI223)
 refine nK h220 H fun H=>wf (vN h220)<|ws<|hK185 _ _ _<|sr fun K224 hK225=>lda hI217 3 ag25 z z z z<|lda hI217 2 ag28 z z z z<|mv z<|lda hI217 0 ag30 z z z z<|mv z<|bK3 H fun y231 y238 y239 hy226 H=>q_cv (vs := [agg [slice A2 a1.Glyphs.length c3, slice A6 a1.Kerns.length c7].toArray, agg [int .i64 a10.Before, int .i64 a10.Behind, slice A11 a10.Keep.length c12].toArray, string a15, agg [int .i64 a16.Scale, int .i64 a16.Line, int .i64 a16.Align, int .i64 a16.Dir, int .i64 a16.Width, int .i64 (w64 (a16.Y + (w64 (a22))))].toArray, slice A91 v90.length c92]) bo12 z z (formelaw21_lines_spec (a16 := (⟨a16.Scale, a16.Line, a16.Align, a16.Dir, a16.Width, w64 (a16.Y + (w64 (a22)))⟩ : formelaw21_Set)) hy226 hI217 hl4 (Dat.mono (gT hG98 hG172) hD5) hl8 (Dat.mono (gT hG98 hG172) hD9) hl13 (Dat.mono (gT hG98 hG172) hD14) hl93 (Dat.mono hG172 hD94) (hgl.mono (gT hG98 hG172)))<|?_
 rintro _ wd229 ⟨A232, c233, G227, hG228, hI230, hl234, hD235, ho236, rfl⟩
 refine ⟨_, rfl, ?_⟩
 refine mv z<|exk z z<|exk z z<|exk z z<|asn z<|asn z<|asn z<|nl<|hK225 _ _ _<|sQ fun K240 hK241=>sr fun K242 hK243=>mv z<|mv z<|q_neq z z<|?_
 refine mv z<|bK H fun v244 hC H=>?_
 refine jS 6 G227 [(5, int .u16 a22), (13, bool y44), (18, slice A176 y175.length c177), (19, int .i64 y182), (20, int .i64 y183), (21, slice A232 y231.length c233), (22, int .i64 y238), (107, bool v244)] (bx g159 [int .i64 a16.Scale, int .i64 a16.Line, int .i64 a16.Align, int .i64 a16.Dir, int .i64 a16.Width, int .i64 (w64 (a16.Y + (w64 (a22))))] 30 :: bx g34 [int .i64 a16.Scale, int .i64 a16.Line, int .i64 a16.Align, int .i64 a16.Dir, int .i64 a16.Width, int .i64 a16.Y] 30 :: bx g30 [int .i64 a10.Before, int .i64 a10.Behind, slice A11 a10.Keep.length c12] 28 :: bx g26 [slice A2 a1.Glyphs.length c3, slice A6 a1.Kerns.length c7] 25 :: tk (slice A232 y231.length c233) 5 50 :: tk (slice A176 y175.length c177) 5 50 :: tk (slice A91 v90.length c92) 5 57 :: L) ?_ fun _ wd247 hI248=>?_
 refine have H:=hC;dC (¬ y183 = y239) (fun h250=>?_) fun h250=>?_
 refine yK h250 H fun H=>Sk 5 z z (bY h250) z<|pkt (bY h250) z<|nl<|have hI257:=Hp.pick 7 [1, 2, 3, 4, 0, 5, 6] hI230 z;?_
 cases H
 exact je ⟨z, z, z, z, z, z, z, z, tv⟩ hI257
 refine nK h250 H fun H=>mv (hw:=gY z z z (bN h250)) z<|q_len (hw:=gY z z z (bN h250)) so34 z<|mv (hw:=gY z z z (bN h250)) z<|q_len (hw:=gY z z z (bN h250)) so34 z<|q_neq (hw:=gY z z z (bN h250)) z z<|pkf (bN h250) z<|nl<|have hI264:=Hp.pick 7 [1, 2, 3, 4, 0, 5, 6] hI230 z;?_
 cases H
 exact je ⟨z, z, z, z, z, z, z, z, tv⟩ hI264
 refine nl<|hK243 _ _ _<|dC (v244 = true) (fun h265=>?_) fun h265=>?_
 refine yK h265 H fun H=>wt (vY h265)<|sr fun K266 hK267=>asn z<|nl<|hK267 _ _ _<|wr<|have hI268:=Hp.pick 7 [] hI248 z;?_
 cases H
 exact rt ⟨_, _, z, z, z⟩ (Hp.low (gT (gT hG98 hG172) hG228) hI268)
 refine nK h265 H fun H=>wf (vN h265)<|ws<|hK241 _ _ _<|sQ fun K269 hK270=>sr fun K271 hK272=>mv z<|q_len so34 z<|mv z<|nl<|hK272 _ _ _<|wb<|bK H fun v286 hC H=>?_
 refine wpc_mono (Q := fun e r ds w => e = .exit 2 ∧ ds = [] ∧ Has [(5, int .u16 a22), (13, bool v286), (19, int .i64 y182), (20, int .i64 y183), (22, int .i64 y238)] r ∧ Hp G227 (bx g159 [int .i64 a16.Scale, int .i64 a16.Line, int .i64 a16.Align, int .i64 a16.Dir, int .i64 a16.Width, int .i64 (w64 (a16.Y + (w64 (a22))))] 30 :: bx g34 [int .i64 a16.Scale, int .i64 a16.Line, int .i64 a16.Align, int .i64 a16.Dir, int .i64 a16.Width, int .i64 a16.Y] 30 :: bx g30 [int .i64 a10.Before, int .i64 a10.Behind, slice A11 a10.Keep.length c12] 28 :: bx g26 [slice A2 a1.Glyphs.length c3, slice A6 a1.Kerns.length c7] 25 :: tk (slice A232 y231.length c233) 5 50 :: tk (slice A176 y175.length c177) 5 50 :: tk (slice A91 v90.length c92) 5 57 :: L) w ∧ True) ?_ ?_
 refine wpc_loop fun I hLp=>?_
 refine formelaw21_WrapMoves_l285.partial_correctness a22 y175 y231 (fun v277 v278 o => ∀ (r : Rg) (w : World), Has [(5, int .u16 a22), (13, bool v277), (19, int .i64 y182), (20, int .i64 y183), (21, slice A232 y231.length c233), (22, int .i64 y238), (108, slice A176 y175.length c177), (109, int .i64 (y175.length : Int)), (110, int .i64 v278)] r → Hp G227 (bx g159 [int .i64 a16.Scale, int .i64 a16.Line, int .i64 a16.Align, int .i64 a16.Dir, int .i64 a16.Width, int .i64 (w64 (a16.Y + (w64 (a22))))] 30 :: bx g34 [int .i64 a16.Scale, int .i64 a16.Line, int .i64 a16.Align, int .i64 a16.Dir, int .i64 a16.Width, int .i64 a16.Y] 30 :: bx g30 [int .i64 a10.Before, int .i64 a10.Behind, slice A11 a10.Keep.length c12] 28 :: bx g26 [slice A2 a1.Glyphs.length c3, slice A6 a1.Kerns.length c7] 25 :: tk (slice A232 y231.length c233) 5 50 :: tk (slice A176 y175.length c177) 5 50 :: tk (slice A91 v90.length c92) 5 57 :: L) w → o = v286 → I r [] w) ?_ y44 0 _ hC _ _ ⟨rfl, rfl, rfl, rfl, rfl, rfl, rfl, rfl, rfl, tv⟩ hI248 rfl
 intro _ ih v277 v278 o H r wd294 hHas hI295 ho
 rw [ho] at H; clear ho
 rw [hHas.eq]; clear hHas
 refine hLp _ _ _<|sr fun K296 hK297=>q_lss z z<|nl<|hK297 _ _ _<|sQ fun K298 hK299=>dC (v278 < (y175.length : Int)) (fun h300=>?_) fun h300=>?_
 refine yK h300 H fun H=>wt (bY h300)<|ws<|hK299 _ _ _<|sQ fun K301 hK302=>wb<|sr fun K303 hK304=>mv z<|iK H fun⟨h305, h305'⟩H=>?_
 obtain ⟨ad306, cs307, hA308, hK309, hn310, hc311⟩ := Dat.get (Dat.mono hG228 hD179) z_api_Seen (v278) h305 h305'
 obtain ⟨rfl⟩ := open_api_Seen hK309
 refine q_ia el34 z hA308 z h305 h305'<|q_lfA hI295 ag50 z (cs := [string ((y175.getD (Int.toNat v278) z_api_Seen).Text), int .i64 ((y175.getD (Int.toNat v278) z_api_Seen).X), int .i64 ((y175.getD (Int.toNat v278) z_api_Seen).Y), int .i64 ((y175.getD (Int.toNat v278) z_api_Seen).W), int .i64 ((y175.getD (Int.toNat v278) z_api_Seen).H)]) z (fun j v hv => gR.cel _ _ (hc311 j v hv))<|q_alloc hI295 ze50 fun g313 wd314 hI315=>asn z<|stk hI315 0 ag50 z z z z z z z fun wd316 hI317=>nl<|hK304 _ _ _<|sr fun K318 hK319=>fa fl50_2 z<|ld hI317 0 ag3 z z z<|mv z<|q_cvi ik66 ik3 z<|q_add z z<|fa fl50_2 z<|?_
 refine stk hI317 0 ag3 z z z z z z z fun wd320 hI321=>nl<|hK319 _ _ _<|bK H fun v322 hC H=>jc .normal hI321 [(5, int .u16 a22), (13, bool v322), (19, int .i64 y182), (20, int .i64 y183), (21, slice A232 y231.length c233), (22, int .i64 y238), (108, slice A176 y175.length c177), (109, int .i64 (y175.length : Int)), (110, int .i64 v278)] ?_ fun _ wd325 hI326=>?_
 refine have H:=hC;?_
 refine wpc_quiet mixo (by kernel_rfl) ?_
 refine have hI328:=hI321.drew;wq (mv z wqd) z<|wq (mv z wqd) z<|dC (v277 = true) (fun h329=>?_) fun h329=>?_
 refine yK h329 H fun H=>wq (lda (hw:=gY z z z (vY h329)) hI328 0 ag50 z z z z wqd) z<|wq (mv (hw:=gY z z z (vY h329)) z wqd) z<|wq (mv (hw:=gY z z z (vY h329)) z wqd) z<|iK H fun⟨h330, h330'⟩H=>?_
 obtain ⟨ad331, cs332, hA333, hK334, hn335, hc336⟩ := Dat.get hD235 z_api_Seen (v278) h330 h330'
 obtain ⟨rfl⟩ := open_api_Seen hK334
 refine wq (q_ia (hw:=gY z z z (vY h329)) el34 z hA333 z h330 h330' wqd) z<|wq (q_lfA (hw:=gY z z z (vY h329)) hI328 ag50 z (cs := [string ((y231.getD (Int.toNat v278) z_api_Seen).Text), int .i64 ((y231.getD (Int.toNat v278) z_api_Seen).X), int .i64 ((y231.getD (Int.toNat v278) z_api_Seen).Y), int .i64 ((y231.getD (Int.toNat v278) z_api_Seen).W), int .i64 ((y231.getD (Int.toNat v278) z_api_Seen).H)]) z (fun j v hv => gR.cel _ _ (hc336 j v hv)) wqd) z<|wq (q_st_eql (hw:=gY z z z (vY h329)) (q := (⟨(y175.getD (Int.toNat v278) z_api_Seen).Text, (y175.getD (Int.toNat v278) z_api_Seen).X, w64 (((y175.getD (Int.toNat v278) z_api_Seen).Y) + (w64 (a22))), (y175.getD (Int.toNat v278) z_api_Seen).W, (y175.getD (Int.toNat v278) z_api_Seen).H⟩ : api_Seen) = (y231.getD (Int.toNat v278) z_api_Seen)) z z eqg_api_Seen (eqs_api_Seen (⟨(y175.getD (Int.toNat v278) z_api_Seen).Text, (y175.getD (Int.toNat v278) z_api_Seen).X, w64 (((y175.getD (Int.toNat v278) z_api_Seen).Y) + (w64 (a22))), (y175.getD (Int.toNat v278) z_api_Seen).W, (y175.getD (Int.toNat v278) z_api_Seen).H⟩ : api_Seen) (y231.getD (Int.toNat v278) z_api_Seen)) (eqd_api_Seen _ _) wqd) z<|wq (pkt (vY h329) z wqd) z<|wq (asn z wqd) z<|wqq_nil<|?_
 cases H
 exact je ⟨z, z, z, z, z, z, z, z, z, tv⟩ hI328
 refine nK h329 H fun H=>wq (wN (gN z z z (vN h329) z) wqd) z<|wq (wN (gN z z z (vN h329) z) wqd) z<|wq (wN (gN z z z (vN h329) z) wqd) z<|wq (wN (gN z z z (vN h329) z) wqd) z<|wq (wN (gN z z z (vN h329) z) wqd) z<|wq (wN (gN z z z (vN h329) z) wqd) z<|wq (pkf (vN h329) z wqd) z<|wq (asn z wqd) z<|wqq_nil<|?_
 cases H
 exact je ⟨z, z, z, z, z, z, z, z, z, tv⟩ hI328
 exact hK302 _ _ _<|wpc_region<|q_add z z<|mv z<|nl<|have hI344:=Hp.pick 8 [1, 2, 3, 4, 5, 6, 7] hI326 z;ih _ _ _ H _ _ ⟨z, z, z, z, z, z, z, z, z, tv⟩ hI344 z
 refine nK h300 H fun H=>wf (bN h300)<|wx<|?_
 cases H
 exact ⟨z, z, ⟨z, z, z, z, z, tv⟩, hI295, tv⟩
 rintro e r ds wd289 ⟨rfl, rfl, hHas, hI290, _⟩
 rw [hHas.eq]; clear hHas
 refine hK270 _ _ _<|sr fun K345 hK346=>mv z<|mv z<|bK H fun v347 hC H=>js 11 hI290 [(143, bool v347)] ?_ fun _ wd350 hI351=>?_
 refine have H:=hC;dC (v286 = true) (fun h353=>?_) fun h353=>?_
 refine yK h353 H fun H=>mv (hw:=gY z z z (vY h353)) z<|q_neq (hw:=gY z z z (vY h353)) z z<|mv (hw:=gY z z z (vY h353)) z<|bK H fun v354 hC H=>js 7 hI290 [(132, bool v286), (142, bool v354)] ?_ fun _ wd357 hI358=>?_
 refine have H:=hC;dC (¬ y183 = 0) (fun h360=>?_) fun h360=>?_
 refine yK h360 H fun H=>Sk 6 z z (bY h360) z<|pkt (hw:=gY z z z (vY h353)) (bY h360) z<|nl<|?_
 cases H
 exact je ⟨z, z, tv⟩ hI290
 refine nK h360 H fun H=>mv (hw:=gY z z z (bN h360)) z<|mv (hw:=gY z z z (bN h360)) z<|mv (hw:=gY z z z (bN h360)) z<|q_cvi (hw:=gY z z z (bN h360)) ik66 ik3 z<|q_add (hw:=gY z z z (bN h360)) z z<|q_eql (hw:=gY z z z (bN h360)) z z<|pkf (hw:=gY z z z (vY h353)) (bN h360) z<|nl<|?_
 cases H
 exact je ⟨z, z, tv⟩ hI290
 refine pkt (vY h353) z<|nl<|?_
 cases H
 exact je ⟨z, tv⟩ hI358
 refine nK h353 H fun H=>Sk 3 z z (vN h353) z<|Su 6 z<|wN (gN z z z (vN h353) z)<|pkf (vN h353) z<|nl<|?_
 cases H
 exact je ⟨z, tv⟩ hI290
 refine asn z<|nl<|hK346 _ _ _<|wr<|have hI361:=Hp.pick 7 [] hI351 z;?_
 cases H
 exact rt ⟨_, _, z, z, z⟩ (Hp.low (gT (gT hG98 hG172) hG228) hI361)
end Go.Proofs.YtaemgcpcfnbmdaaGreatDoor.LG
