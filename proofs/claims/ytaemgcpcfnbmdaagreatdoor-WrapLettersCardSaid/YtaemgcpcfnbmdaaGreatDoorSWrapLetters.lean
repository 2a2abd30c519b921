/-
  The walks: each function computes its plain function: printed by a program out of the translation.
-/
import Derived.Test.YtaemgcpcfnbmdaaGreatDoorSd
set_option linter.unusedVariables false
set_option linter.unusedSimpArgs false
set_option maxRecDepth 100000
namespace Go.Proofs.YtaemgcpcfnbmdaaGreatDoor.LG
open Go Go.LG Go.RowKit Go.Value
set_option maxHeartbeats 1000000
open Go.Lib Go.Shelf Go.Proofs
theorem formelaw21_WrapLetters_spec {a1 a10 a15 a16 a17 A2 c3 A6 c7 A11 c12 A18 c19 r1022 G L w} (H : formelaw21_WrapLetters a1 a10 a15 a16 a17 = some r1022) (hI : Hp G L w) (hl4 : a1.Glyphs.length ≤ c3) (hD5 : Dat k_api_Glyph G A2 a1.Glyphs) (hl8 : a1.Kerns.length ≤ c7) (hD9 : Dat k_api_Kern G A6 a1.Kerns) (hl13 : a10.Keep.length ≤ c12) (hD14 : Dat Kd.str G A11 a10.Keep) (hl20 : a17.length ≤ c19) (hD21 : Dat k_api_Float G A18 a17) (hgl : Gl G) :
    Calls Tryz.prog 7 [agg [slice A2 a1.Glyphs.length c3, slice A6 a1.Kerns.length c7].toArray, agg [int .i64 a10.Before, int .i64 a10.Behind, slice A11 a10.Keep.length c12].toArray, string a15, agg [int .i64 a16.Scale, int .i64 a16.Line, int .i64 a16.Align, int .i64 a16.Dir, int .i64 a16.Width, int .i64 a16.Y].toArray, slice A18 a17.length c19].toArray w fun e w' => Hp G L w' ∧ e = .returned (bool r1022) := by
 refine calls_intro (N := 131) Tryz.func7 z z (Nat.le_of_ble_eq_true z)<|?_
 unfold formelaw21_WrapLetters at H
 refine sr fun K22 hK23=>bxk hI z z fun g25 wd26 hI27=>bxk hI27 z z fun g29 wd30 hI31=>bxk hI31 z z fun g33 wd34 hI35=>asn z<|nl<|hK23 _ _ _<|sr fun K36 hK37=>bK H fun y43 hy38 H=>cv bo10 (formelaw21_head_spec hy38 hI35 (hgl.mono gR)) z z fun wd41 hI42=>asn z<|nl<|hK37 _ _ _<|sQ fun K44 hK45=>?_
 refine sr fun K46 hK47=>lda hI42 2 ag25 z z z z<|lda hI42 1 ag28 z z z z<|mv z<|lda hI42 0 ag30 z z z z<|mv z<|bK H fun y53 hy48 H=>cv bo15 (formelaw21_usable_spec hy48 hI42 hl4 hD5 hl8 hD9 hl13 hD14 hl20 hD21) z z fun wd51 hI52=>q_not z<|nl<|hK47 _ _ _<|dC ((!y53) = true) (fun h54=>?_) fun h54=>?_
 refine yK h54 H fun H=>wt (vY h54)<|sr fun K55 hK56=>mv z<|asn z<|nl<|hK56 _ _ _<|wr<|have hI57:=Hp.sub hI52 (sd (sd (sd se)));?_
 cases H
 exact rt ⟨_, _, z, z, z⟩ hI57
 refine nK h54 H fun H=>wf (vN h54)<|ws<|hK45 _ _ _<|sr fun K58 hK59=>lda hI52 2 ag25 z z z z<|lda hI52 1 ag28 z z z z<|mv z<|lda hI52 0 ag30 z z z z<|mv z<|bK3 H fun y65 y72 y73 hy60 H=>q_cv (vs := [agg [slice A2 a1.Glyphs.length c3, slice A6 a1.Kerns.length c7].toArray, agg [int .i64 a10.Before, int .i64 a10.Behind, slice A11 a10.Keep.length c12].toArray, string a15, agg [int .i64 a16.Scale, int .i64 a16.Line, int .i64 a16.Align, int .i64 a16.Dir, int .i64 a16.Width, int .i64 a16.Y].toArray, slice A18 a17.length c19]) bo12 z z (formelaw21_lines_spec hy60 hI52 hl4 hD5 hl8 hD9 hl13 hD14 hl20 hD21 (hgl.mono gR))<|?_
 rintro _ wd63 ⟨A66, c67, G61, hG62, hI64, hl68, hD69, ho70, rfl⟩
 refine ⟨_, rfl, ?_⟩
 refine mv z<|exk z z<|exk z z<|exk z z<|asn z<|asn z<|asn z<|nl<|hK59 _ _ _<|sQ fun K74 hK75=>sr fun K76 hK77=>mv z<|q_neq z z<|nl<|?_
 refine hK77 _ _ _<|dC (¬ y73 = 0) (fun h78=>?_) fun h78=>?_
 refine yK h78 H fun H=>wt (bY h78)<|sr fun K79 hK80=>mv z<|asn z<|nl<|hK80 _ _ _<|wr<|have hI81:=Hp.sub hI64 (sd (sd (sd (sd se))));?_
 cases H
 exact rt ⟨_, _, z, z, z⟩ (Hp.low hG62 hI81)
 refine nK h78 H fun H=>wf (bN h78)<|ws<|hK75 _ _ _<|sr fun K82 hK83=>mv z<|bK2 H fun y89 y90 hy84 H=>cv bo20 (formeref06_Words_spec hy84 hI64) z z fun wd87 hI88=>mv z<|exk z z<|exk z z<|asn z<|asn z<|nl<|?_
 refine hK83 _ _ _<|sr fun K91 hK92=>q_alloc hI88 ze61 fun g94 wd95 hI96=>?_
 have hI97 : Hp G61 (bx g94 (List.map (int .i64) (List.replicate 256 0 : List Int)) 61 :: tk (slice A66 y65.length c67) 5 50 :: bx g33 [int .i64 a16.Scale, int .i64 a16.Line, int .i64 a16.Align, int .i64 a16.Dir, int .i64 a16.Width, int .i64 a16.Y] 30 :: bx g29 [int .i64 a10.Before, int .i64 a10.Behind, slice A11 a10.Keep.length c12] 28 :: bx g25 [slice A2 a1.Glyphs.length c3, slice A6 a1.Kerns.length c7] 25 :: L) _ := hI96
 refine nl<|hK92 _ _ _<|sr fun K98 hK99=>asn z<|nl<|hK99 _ _ _<|sQ fun K100 hK101=>sr fun K102 hK103=>mv z<|q_len so34 z<|mv z<|nl<|hK103 _ _ _<|wb<|?_
 refine bK2 H fun v121 v123 hC H=>?_
 refine wpc_mono (Q := fun e r ds w => e = .exit 0 ∧ ds = [] ∧ Has [(2, string a15), (11, bool y43), (12, slice A66 y65.length c67), (15, int .i64 y89), (16, int .i64 y90), (17, pointer (some ⟨g94, 0, none⟩)), (18, int .i64 v123)] r ∧ Hp G61 (bx g33 [int .i64 a16.Scale, int .i64 a16.Line, int .i64 a16.Align, int .i64 a16.Dir, int .i64 a16.Width, int .i64 a16.Y] 30 :: bx g29 [int .i64 a10.Before, int .i64 a10.Behind, slice A11 a10.Keep.length c12] 28 :: bx g25 [slice A2 a1.Glyphs.length c3, slice A6 a1.Kerns.length c7] 25 :: tk (slice A66 y65.length c67) 5 50 :: bx g94 (List.map (int .i64) v121) 61 :: L) w ∧ v121.length = 256 ∧ True) ?_ ?_
 refine have hI211:=Hp.front hI97 1 z;have hI212:=Hp.front hI211 4 z;have hI213:=Hp.front hI212 4 z;have hI214:=Hp.front hI213 4 z;wpc_loop fun I hLp=>?_
 refine formelaw21_WrapLetters_l120.partial_correctness y65 (fun v108 v110 v111 o => ∀ (r : Rg) (w : World), Has [(2, string a15), (11, bool y43), (12, slice A66 y65.length c67), (15, int .i64 y89), (16, int .i64 y90), (17, pointer (some ⟨g94, 0, none⟩)), (18, int .i64 v110), (52, slice A66 y65.length c67), (53, int .i64 (y65.length : Int)), (54, int .i64 v111)] r → Hp G61 (bx g33 [int .i64 a16.Scale, int .i64 a16.Line, int .i64 a16.Align, int .i64 a16.Dir, int .i64 a16.Width, int .i64 a16.Y] 30 :: bx g29 [int .i64 a10.Before, int .i64 a10.Behind, slice A11 a10.Keep.length c12] 28 :: bx g25 [slice A2 a1.Glyphs.length c3, slice A6 a1.Kerns.length c7] 25 :: tk (slice A66 y65.length c67) 5 50 :: bx g94 (List.map (int .i64) v108) 61 :: L) w → v108.length = 256 → o = (v121, v123) → I r [] w) ?_ (List.replicate 256 0 : List Int) 0 0 _ hC _ _ ⟨rfl, rfl, rfl, rfl, rfl, rfl, rfl, rfl, rfl, rfl, tv⟩ hI214 (List.length_replicate ..) rfl
 intro _ ih v108 v110 v111 o H r wd131 hHas hI132 hn109 ho
 rw [ho] at H; clear ho
 rw [hHas.eq]; clear hHas
 refine hLp _ _ _<|sr fun K133 hK134=>q_lss z z<|nl<|hK134 _ _ _<|sQ fun K135 hK136=>dC (v111 < (y65.length : Int)) (fun h137=>?_) fun h137=>?_
 refine yK h137 H fun H=>wt (bY h137)<|ws<|hK136 _ _ _<|sQ fun K138 hK139=>wb<|sr fun K140 hK141=>iK H fun⟨h142, h142'⟩H=>?_
 obtain ⟨ad143, cs144, hA145, hK146, hn147, hc148⟩ := Dat.get hD69 z_api_Seen (v111) h142 h142'
 obtain ⟨rfl⟩ := open_api_Seen hK146
 refine q_ia el34 z hA145 z h142 h142'<|q_lfA hI132 ag50 z (cs := [string ((y65.getD (Int.toNat v111) z_api_Seen).Text), int .i64 ((y65.getD (Int.toNat v111) z_api_Seen).X), int .i64 ((y65.getD (Int.toNat v111) z_api_Seen).Y), int .i64 ((y65.getD (Int.toNat v111) z_api_Seen).W), int .i64 ((y65.getD (Int.toNat v111) z_api_Seen).H)]) z (fun j v hv => gR.cel _ _ (hc148 j v hv))<|q_alloc hI132 ze50 fun g150 wd151 hI152=>stk hI152 0 ag50 z z z z z z z fun wd153 hI154=>nl<|hK141 _ _ _<|sr fun K155 hK156=>mv z<|fa fl50_0 z<|ld hI154 0 ag9 z z z<|bK H fun y162 hy157 H=>cv bo21 (formelaw21_letters_spec hy157 hI154) z z fun wd160 hI161=>q_add z z<|asn z<|?_
 refine nl<|hK156 _ _ _<|sr fun K163 hK164=>asn z<|nl<|hK164 _ _ _<|wb<|bK H fun v180 hC H=>?_
 refine wpc_mono (Q := fun e r ds w => e = .exit 2 ∧ ds = [] ∧ Has [(2, string a15), (11, bool y43), (12, slice A66 y65.length c67), (15, int .i64 y89), (16, int .i64 y90), (17, pointer (some ⟨g94, 0, none⟩)), (18, int .i64 (w64 (v110 + y162))), (52, slice A66 y65.length c67), (53, int .i64 (y65.length : Int)), (54, int .i64 v111)] r ∧ Hp G61 (bx g150 [string ((y65.getD (Int.toNat v111) z_api_Seen).Text), int .i64 ((y65.getD (Int.toNat v111) z_api_Seen).X), int .i64 ((y65.getD (Int.toNat v111) z_api_Seen).Y), int .i64 ((y65.getD (Int.toNat v111) z_api_Seen).W), int .i64 ((y65.getD (Int.toNat v111) z_api_Seen).H)] 50 :: bx g33 [int .i64 a16.Scale, int .i64 a16.Line, int .i64 a16.Align, int .i64 a16.Dir, int .i64 a16.Width, int .i64 a16.Y] 30 :: bx g29 [int .i64 a10.Before, int .i64 a10.Behind, slice A11 a10.Keep.length c12] 28 :: bx g25 [slice A2 a1.Glyphs.length c3, slice A6 a1.Kerns.length c7] 25 :: tk (slice A66 y65.length c67) 5 50 :: bx g94 (List.map (int .i64) v180) 61 :: L) w ∧ v180.length = 256 ∧ True) ?_ ?_
 refine wpc_loop fun I hLp=>?_
 refine formelaw21_WrapLetters_l179.partial_correctness y65 v111 (fun v169 v171 o => ∀ (r : Rg) (w : World), Has [(2, string a15), (11, bool y43), (12, slice A66 y65.length c67), (15, int .i64 y89), (16, int .i64 y90), (17, pointer (some ⟨g94, 0, none⟩)), (18, int .i64 (w64 (v110 + y162))), (20, pointer (some ⟨g150, 0, none⟩)), (21, int .i64 v171), (52, slice A66 y65.length c67), (53, int .i64 (y65.length : Int)), (54, int .i64 v111)] r → Hp G61 (bx g150 [string ((y65.getD (Int.toNat v111) z_api_Seen).Text), int .i64 ((y65.getD (Int.toNat v111) z_api_Seen).X), int .i64 ((y65.getD (Int.toNat v111) z_api_Seen).Y), int .i64 ((y65.getD (Int.toNat v111) z_api_Seen).W), int .i64 ((y65.getD (Int.toNat v111) z_api_Seen).H)] 50 :: bx g33 [int .i64 a16.Scale, int .i64 a16.Line, int .i64 a16.Align, int .i64 a16.Dir, int .i64 a16.Width, int .i64 a16.Y] 30 :: bx g29 [int .i64 a10.Before, int .i64 a10.Behind, slice A11 a10.Keep.length c12] 28 :: bx g25 [slice A2 a1.Glyphs.length c3, slice A6 a1.Kerns.length c7] 25 :: tk (slice A66 y65.length c67) 5 50 :: bx g94 (List.map (int .i64) v169) 61 :: L) w → v169.length = 256 → o = v180 → I r [] w) ?_ v108 0 _ hC _ _ ⟨rfl, rfl, rfl, rfl, rfl, rfl, rfl, rfl, rfl, rfl, rfl, rfl, tv⟩ hI161 hn109 rfl
 intro _ ih v169 v171 o H r wd189 hHas hI190 hn170 ho
 rw [ho] at H; clear ho
 rw [hHas.eq]; clear hHas
 refine hLp _ _ _<|sQ fun K191 hK192=>sr fun K193 hK194=>mv z<|fa fl50_0 z<|ld hI190 0 ag9 z z z<|q_lens so9 z<|q_lss z z<|nl<|hK194 _ _ _<|dC (v171 < (((y65.getD (Int.toNat v111) z_api_Seen).Text).size : Int)) (fun h195=>?_) fun h195=>?_
 refine yK h195 H fun H=>wt (bY h195)<|ws<|hK192 _ _ _<|sQ fun K196 hK197=>wb<|wpc_region<|fa fl50_0 z<|ld hI190 0 ag9 z z z<|mv z<|iK H fun⟨h198, h198'⟩H=>q_is so9 z z h198 h198' z<|iK H fun⟨h199, h199'⟩H=>?_
 have ho200 : 0 + Int.toNat (bt ((y65.getD (Int.toNat v111) z_api_Seen).Text) v171) * 1 + 1 ≤ 256 := by omega
 refine q_iaA (a' := ⟨g94, 0 + Int.toNat (bt ((y65.getD (Int.toNat v111) z_api_Seen).Text) v171) * 1, none⟩) ar61 z z h199 h199' (add_plain _ _ _)<|q_lda (int .i64) hI190 5 0 ag3 z z hn170 (Nat.lt_of_succ_le ho200)<|q_add z z<|iK H fun⟨h201, h201'⟩H=>?_
 have ho202 : 0 + Int.toNat (bt ((y65.getD (Int.toNat v111) z_api_Seen).Text) v171) * 1 + 1 ≤ 256 := by omega
 exact q_iaA (a' := ⟨g94, 0 + Int.toNat (bt ((y65.getD (Int.toNat v111) z_api_Seen).Text) v171) * 1, none⟩) ar61 z z h201 h201' (add_plain _ _ _)<|q_sta (int .i64) hI190 5 (w64 ((v169.getD (0 + Int.toNat (bt ((y65.getD (Int.toNat v111) z_api_Seen).Text) v171) * 1) 0) + 1)) ag3 z z z z z hn170 (Nat.lt_of_succ_le ho202) fun wd203 hI204=>nl<|hK197 _ _ _<|wpc_region<|mv z<|q_add z z<|asn z<|nl<|ih _ _ _ H _ _ ⟨z, z, z, z, z, z, z, z, z, z, z, z, tv⟩ hI204 (set_len hn170) z
 refine nK h195 H fun H=>wf (bN h195)<|wx<|?_
 cases H
 exact ⟨z, z, ⟨z, z, z, z, z, z, z, z, z, z, tv⟩, hI190, hn170, tv⟩
 rintro e r ds wd184 ⟨rfl, rfl, hHas, hI185, hn181, _⟩
 rw [hHas.eq]; clear hHas
 exact hK139 _ _ _<|wpc_region<|q_add z z<|mv z<|nl<|have hI205:=Hp.front hI185 5 z;have hI206:=Hp.front hI205 5 z;have hI207:=Hp.front hI206 5 z;have hI208:=Hp.front hI207 5 z;have hI209:=Hp.front hI208 5 z;have hI210:=Hp.sub hI209 (sk (sk (sk (sk (sk (sd se))))));ih _ _ _ _ H _ _ ⟨z, z, z, z, z, z, z, z, z, z, tv⟩ hI210 hn181 z
 refine nK h137 H fun H=>wf (bN h137)<|wx<|?_
 cases H
 exact ⟨z, z, ⟨z, z, z, z, z, z, z, tv⟩, hI132, hn109, tv⟩
 rintro e r ds wd126 ⟨rfl, rfl, hHas, hI127, hn122, _⟩
 rw [hHas.eq]; clear hHas
 refine hK101 _ _ _<|sQ fun K215 hK216=>sr fun K217 hK218=>asn z<|nl<|hK218 _ _ _<|wb<|bK H fun v234 hC H=>?_
 refine wpc_mono (Q := fun e r ds w => e = .exit 4 ∧ ds = [] ∧ Has [(2, string a15), (11, bool y43), (12, slice A66 y65.length c67), (15, int .i64 y89), (16, int .i64 y90), (17, pointer (some ⟨g94, 0, none⟩)), (18, int .i64 v123)] r ∧ Hp G61 (bx g33 [int .i64 a16.Scale, int .i64 a16.Line, int .i64 a16.Align, int .i64 a16.Dir, int .i64 a16.Width, int .i64 a16.Y] 30 :: bx g29 [int .i64 a10.Before, int .i64 a10.Behind, slice A11 a10.Keep.length c12] 28 :: bx g25 [slice A2 a1.Glyphs.length c3, slice A6 a1.Kerns.length c7] 25 :: tk (slice A66 y65.length c67) 5 50 :: bx g94 (List.map (int .i64) v234) 61 :: L) w ∧ v234.length = 256 ∧ True) ?_ ?_
 refine wpc_loop fun I hLp=>?_
 refine formelaw21_WrapLetters_l233.partial_correctness a15 (fun v223 v225 o => ∀ (r : Rg) (w : World), Has [(2, string a15), (11, bool y43), (12, slice A66 y65.length c67), (15, int .i64 y89), (16, int .i64 y90), (17, pointer (some ⟨g94, 0, none⟩)), (18, int .i64 v123), (22, int .i64 v225)] r → Hp G61 (bx g33 [int .i64 a16.Scale, int .i64 a16.Line, int .i64 a16.Align, int .i64 a16.Dir, int .i64 a16.Width, int .i64 a16.Y] 30 :: bx g29 [int .i64 a10.Before, int .i64 a10.Behind, slice A11 a10.Keep.length c12] 28 :: bx g25 [slice A2 a1.Glyphs.length c3, slice A6 a1.Kerns.length c7] 25 :: tk (slice A66 y65.length c67) 5 50 :: bx g94 (List.map (int .i64) v223) 61 :: L) w → v223.length = 256 → o = v234 → I r [] w) ?_ v121 0 _ hC _ _ ⟨rfl, rfl, rfl, rfl, rfl, rfl, rfl, rfl, tv⟩ hI127 hn122 rfl
 intro _ ih v223 v225 o H r wd243 hHas hI244 hn224 ho
 rw [ho] at H; clear ho
 rw [hHas.eq]; clear hHas
 refine hLp _ _ _<|sQ fun K245 hK246=>sr fun K247 hK248=>mv z<|mv z<|q_lens so9 z<|q_lss z z<|nl<|hK248 _ _ _<|dC (v225 < (a15.size : Int)) (fun h249=>?_) fun h249=>?_
 refine yK h249 H fun H=>wt (bY h249)<|ws<|hK246 _ _ _<|sQ fun K250 hK251=>wb<|wpc_region<|mv z<|mv z<|iK H fun⟨h252, h252'⟩H=>q_is so9 z z h252 h252' z<|iK H fun⟨h253, h253'⟩H=>?_
 have ho254 : 0 + Int.toNat (bt a15 v225) * 1 + 1 ≤ 256 := by omega
 refine q_iaA (a' := ⟨g94, 0 + Int.toNat (bt a15 v225) * 1, none⟩) ar61 z z h253 h253' (add_plain _ _ _)<|q_lda (int .i64) hI244 4 0 ag3 z z hn224 (Nat.lt_of_succ_le ho254)<|q_sub z z<|iK H fun⟨h255, h255'⟩H=>?_
 have ho256 : 0 + Int.toNat (bt a15 v225) * 1 + 1 ≤ 256 := by omega
 exact q_iaA (a' := ⟨g94, 0 + Int.toNat (bt a15 v225) * 1, none⟩) ar61 z z h255 h255' (add_plain _ _ _)<|q_sta (int .i64) hI244 4 (w64 ((v223.getD (0 + Int.toNat (bt a15 v225) * 1) 0) - 1)) ag3 z z z z z hn224 (Nat.lt_of_succ_le ho256) fun wd257 hI258=>nl<|hK251 _ _ _<|wpc_region<|mv z<|q_add z z<|asn z<|nl<|ih _ _ _ H _ _ ⟨z, z, z, z, z, z, z, z, tv⟩ hI258 (set_len hn224) z
 refine nK h249 H fun H=>wf (bN h249)<|wx<|?_
 cases H
 exact ⟨z, z, ⟨z, z, z, z, z, z, z, tv⟩, hI244, hn224, tv⟩
 rintro e r ds wd238 ⟨rfl, rfl, hHas, hI239, hn235, _⟩
 rw [hHas.eq]; clear hHas
 refine hK216 _ _ _<|sQ fun K259 hK260=>sr fun K261 hK262=>mv z<|nl<|hK262 _ _ _<|wb<|bK H fun v276 hC H=>?_
 refine wpc_mono (Q := fun e r ds w => e = .exit 6 ∧ ds = [] ∧ Has [(2, string a15), (11, bool v276), (12, slice A66 y65.length c67), (15, int .i64 y89), (16, int .i64 y90), (18, int .i64 v123)] r ∧ Hp G61 (bx g33 [int .i64 a16.Scale, int .i64 a16.Line, int .i64 a16.Align, int .i64 a16.Dir, int .i64 a16.Width, int .i64 a16.Y] 30 :: bx g29 [int .i64 a10.Before, int .i64 a10.Behind, slice A11 a10.Keep.length c12] 28 :: bx g25 [slice A2 a1.Glyphs.length c3, slice A6 a1.Kerns.length c7] 25 :: tk (slice A66 y65.length c67) 5 50 :: bx g94 (List.map (int .i64) v234) 61 :: L) w ∧ True) ?_ ?_
 refine wpc_loop fun I hLp=>?_
 refine formelaw21_WrapLetters_l275.partial_correctness v234 (fun v267 v268 o => ∀ (r : Rg) (w : World), Has [(2, string a15), (11, bool v267), (12, slice A66 y65.length c67), (15, int .i64 y89), (16, int .i64 y90), (17, pointer (some ⟨g94, 0, none⟩)), (18, int .i64 v123), (92, int .i64 v268)] r → Hp G61 (bx g33 [int .i64 a16.Scale, int .i64 a16.Line, int .i64 a16.Align, int .i64 a16.Dir, int .i64 a16.Width, int .i64 a16.Y] 30 :: bx g29 [int .i64 a10.Before, int .i64 a10.Behind, slice A11 a10.Keep.length c12] 28 :: bx g25 [slice A2 a1.Glyphs.length c3, slice A6 a1.Kerns.length c7] 25 :: tk (slice A66 y65.length c67) 5 50 :: bx g94 (List.map (int .i64) v234) 61 :: L) w → o = v276 → I r [] w) ?_ y43 0 _ hC _ _ ⟨rfl, rfl, rfl, rfl, rfl, rfl, rfl, rfl, tv⟩ hI239 rfl
 intro _ ih v267 v268 o H r wd284 hHas hI285 ho
 rw [ho] at H; clear ho
 rw [hHas.eq]; clear hHas
 refine hLp _ _ _<|sr fun K286 hK287=>q_lss z z<|nl<|hK287 _ _ _<|sQ fun K288 hK289=>dC (v268 < 256) (fun h290=>?_) fun h290=>?_
 refine yK h290 H fun H=>wt (bY h290)<|ws<|hK289 _ _ _<|sQ fun K291 hK292=>bK H fun v293 hC H=>jc .normal hI285 [(2, string a15), (11, bool v293), (12, slice A66 y65.length c67), (15, int .i64 y89), (16, int .i64 y90), (17, pointer (some ⟨g94, 0, none⟩)), (18, int .i64 v123), (92, int .i64 v268)] ?_ fun _ wd296 hI297=>?_
 refine have H:=hC;wb<|sr fun K299 hK300=>mv z<|asn z<|nl<|hK300 _ _ _<|sr fun K301 hK302=>mv z<|q_cvi ik3 ik5 z<|bK H fun y308 hy303 H=>cv bo22 (formeref06_Class_spec hy303 hI285) z z fun wd306 hI307=>asn z<|nl<|?_
 refine hK302 _ _ _<|sr fun K309 hK310=>mv z<|q_geq z z<|mv z<|bK H fun v311 hC H=>js 3 hI307 [(2, string a15), (11, bool v267), (12, slice A66 y65.length c67), (15, int .i64 y89), (16, int .i64 y90), (17, pointer (some ⟨g94, 0, none⟩)), (18, int .i64 v123), (23, int .i64 v268), (92, int .i64 v268), (103, bool v311)] ?_ fun _ wd314 hI315=>?_
 refine have H:=hC;dC (1 ≤ y308) (fun h317=>?_) fun h317=>?_
 refine yK h317 H fun H=>mv (hw:=gY z z z (bY h317)) z<|q_leq (hw:=gY z z z (bY h317)) z z<|pkt (bY h317) z<|nl<|?_
 cases H
 exact je ⟨z, z, z, z, z, z, z, z, z, z, tv⟩ hI307
 refine nK h317 H fun H=>Sk 2 z z (bN h317) z<|pkf (bN h317) z<|nl<|?_
 cases H
 exact je ⟨z, z, z, z, z, z, z, z, z, z, tv⟩ hI307
 refine nl<|hK310 _ _ _<|dC (v311 = true) (fun h318=>?_) fun h318=>?_
 refine yK h318 H fun H=>wt (vY h318)<|wpc_region<|mv z<|mv z<|bK H fun v319 hC H=>js 5 hI315 [(2, string a15), (12, slice A66 y65.length c67), (15, int .i64 y89), (16, int .i64 y90), (17, pointer (some ⟨g94, 0, none⟩)), (18, int .i64 v123), (92, int .i64 v268), (110, bool v319)] ?_ fun _ wd322 hI323=>?_
 refine have H:=hC;dC (v267 = true) (fun h325=>?_) fun h325=>?_
 refine yK h325 H fun H=>mv (hw:=gY z z z (vY h325)) z<|iK H fun⟨h326, h326'⟩H=>?_
 have ho327 : 0 + Int.toNat v268 * 1 + 1 ≤ 256 := by omega
 refine q_iaA (hw:=gY z z z (vY h325)) (a' := ⟨g94, 0 + Int.toNat v268 * 1, none⟩) ar61 z z h326 h326' (add_plain _ _ _)<|q_lda (hw:=gY z z z (vY h325)) (int .i64) hI315 4 0 ag3 z z hn235 (Nat.lt_of_succ_le ho327)<|q_eql (hw:=gY z z z (vY h325)) z z<|pkt (vY h325) z<|nl<|?_
 cases H
 exact je ⟨z, z, z, z, z, z, z, z, tv⟩ hI315
 refine nK h325 H fun H=>Sk 4 z z (vN h325) z<|pkf (vN h325) z<|nl<|?_
 cases H
 exact je ⟨z, z, z, z, z, z, z, z, tv⟩ hI315
 refine asn z<|nl<|?_
 cases H
 exact je ⟨z, z, z, z, z, z, z, z, tv⟩ hI323
 refine nK h318 H fun H=>wf (vN h318)<|ws<|?_
 cases H
 exact je ⟨z, z, z, z, z, z, z, z, tv⟩ hI315
 exact hK292 _ _ _<|wpc_region<|q_add z z<|mv z<|nl<|ih _ _ _ H _ _ ⟨z, z, z, z, z, z, z, z, tv⟩ hI297 z
 refine nK h290 H fun H=>wf (bN h290)<|wx<|?_
 cases H
 exact ⟨z, z, ⟨z, z, z, z, z, z, tv⟩, hI285, tv⟩
 rintro e r ds wd279 ⟨rfl, rfl, hHas, hI280, _⟩
 rw [hHas.eq]; clear hHas
 refine hK260 _ _ _<|sr fun K328 hK329=>mv z<|mv z<|bK H fun v330 hC H=>js 3 hI280 [(2, string a15), (12, slice A66 y65.length c67), (15, int .i64 y89), (18, int .i64 v123), (116, bool v330)] ?_ fun _ wd333 hI334=>?_
 refine have H:=hC;dC (v276 = true) (fun h336=>?_) fun h336=>?_
 refine yK h336 H fun H=>mv (hw:=gY z z z (vY h336)) z<|q_eql (hw:=gY z z z (vY h336)) z z<|pkt (vY h336) z<|nl<|?_
 cases H
 exact je ⟨z, z, z, z, z, tv⟩ hI280
 refine nK h336 H fun H=>Sk 2 z z (vN h336) z<|pkf (vN h336) z<|nl<|?_
 cases H
 exact je ⟨z, z, z, z, z, tv⟩ hI280
 refine mv z<|bK H fun v337 hC H=>js 5 hI334 [(12, slice A66 y65.length c67), (15, int .i64 y89), (122, bool v337)] ?_ fun _ wd340 hI341=>?_
 refine have H:=hC;dC (v330 = true) (fun h343=>?_) fun h343=>?_
 refine yK h343 H fun H=>mv (hw:=gY z z z (vY h343)) z<|mv (hw:=gY z z z (vY h343)) z<|bK H fun y349 hy344 H=>cv (hw:=gY z z z (vY h343)) bo21 (formelaw21_letters_spec hy344 hI334) z z fun wd347 hI348=>q_eql (hw:=gY z z z (vY h343)) z z<|pkt (vY h343) z<|nl<|?_
 cases H
 exact je ⟨z, z, z, tv⟩ hI348
 refine nK h343 H fun H=>Sk 4 z z (vN h343) z<|pkf (vN h343) z<|nl<|?_
 cases H
 exact je ⟨z, z, z, tv⟩ hI334
 refine mv z<|bK H fun v350 hC H=>js 7 hI341 [(130, bool v350)] ?_ fun _ wd353 hI354=>?_
 refine have H:=hC;dC (v337 = true) (fun h356=>?_) fun h356=>?_
 refine yK h356 H fun H=>mv (hw:=gY z z z (vY h356)) z<|q_len (hw:=gY z z z (vY h356)) so34 z<|q_gtr (hw:=gY z z z (vY h356)) z z<|mv (hw:=gY z z z (vY h356)) z<|q_gtr (hw:=gY z z z (vY h356)) z z<|q_bool_eql (hw:=gY z z z (vY h356)) z z so4<|pkt (vY h356) z<|nl<|?_
 cases H
 exact je ⟨z, tv⟩ hI341
 refine nK h356 H fun H=>Sk 6 z z (vN h356) z<|pkf (vN h356) z<|nl<|?_
 cases H
 exact je ⟨z, tv⟩ hI341
 refine asn z<|nl<|hK329 _ _ _<|wr<|have hI357:=Hp.sub hI354 (sd (sd (sd (sd (sd se)))));?_
 cases H
 exact rt ⟨_, _, z, z, z⟩ (Hp.low hG62 hI357)
end Go.Proofs.YtaemgcpcfnbmdaaGreatDoor.LG
