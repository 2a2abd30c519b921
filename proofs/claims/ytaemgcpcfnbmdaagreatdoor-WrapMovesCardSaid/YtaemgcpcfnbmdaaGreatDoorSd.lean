/-
  The walks: each function computes its plain function: printed by a program out of the translation.
-/
import Derived.Test.YtaemgcpcfnbmdaaGreatDoorSc
set_option linter.unusedVariables false
set_option linter.unusedSimpArgs false
set_option maxRecDepth 100000
namespace Go.Proofs.YtaemgcpcfnbmdaaGreatDoor.LG
open Go Go.LG Go.RowKit Go.Value
set_option maxHeartbeats 1000000
open Go.Lib Go.Shelf Go.Proofs
theorem formeref07_Valid_spec {a1 A2 c3 A6 c7 r1010 G L w} (H : formeref07_Valid a1 = some r1010) (hI : Hp G L w) (hl4 : a1.Glyphs.length ≤ c3) (hD5 : Dat k_api_Glyph G A2 a1.Glyphs) (hl8 : a1.Kerns.length ≤ c7) (hD9 : Dat k_api_Kern G A6 a1.Kerns) :
    Calls Tryz.prog 53 [agg [slice A2 a1.Glyphs.length c3, slice A6 a1.Kerns.length c7].toArray].toArray w fun e w' => Hp G L w' ∧ e = .returned (bool r1010) := by
 refine calls_intro (N := 151) Tryz.func53 z z (Nat.le_of_ble_eq_true z)<|?_
 unfold formeref07_Valid at H
 refine sr fun K10 hK11=>bxk hI z z fun g13 wd14 hI15=>asn z<|nl<|hK11 _ _ _<|sQ fun K16 hK17=>sr fun K18 hK19=>fa fl25_0 z<|ld hI15 0 ag22 z z z<|q_len so22 z<|q_gtr z z<|mv z<|bK H fun v20 hC H=>js 5 hI15 [(1, pointer (some ⟨g13, 0, none⟩)), (18, bool v20)] ?_ fun _ wd23 hI24=>?_
 refine have H:=hC;dC (94 < (a1.Glyphs.length : Int)) (fun h26=>?_) fun h26=>?_
 refine yK h26 H fun H=>Sk 4 z z (bY h26) z<|pkt (bY h26) z<|nl<|?_
 cases H
 exact je ⟨z, z, tv⟩ hI15
 refine nK h26 H fun H=>fa (hw:=gY z z z (bN h26)) fl25_1 z<|ld (hw:=gY z z z (bN h26)) hI15 0 ag23 z z z<|q_len (hw:=gY z z z (bN h26)) so23 z<|q_gtr (hw:=gY z z z (bN h26)) z z<|pkf (bN h26) z<|nl<|?_
 cases H
 exact je ⟨z, z, tv⟩ hI15
 refine nl<|hK19 _ _ _<|dC (v20 = true) (fun h27=>?_) fun h27=>?_
 refine yK h27 H fun H=>wt (vY h27)<|sr fun K28 hK29=>asn z<|nl<|hK29 _ _ _<|wr<|have hI30:=Hp.pick 1 [] hI24 z;?_
 cases H
 exact rt ⟨_, _, z, z, z⟩ hI30
 refine nK h27 H fun H=>wf (vN h27)<|ws<|hK17 _ _ _<|sQ fun K31 hK32=>sr fun K33 hK34=>asn z<|nl<|hK34 _ _ _<|wb<|bK H fun o54 hC H=>?_
 refine wpc_mono (Q := fun e r ds w => match (generalizing := false) o54 with | (Sum.inl _) => e = .ret ∧ ds = [] ∧ Has [(2, bool false)] r ∧ Hp G (bx g13 [slice A2 a1.Glyphs.length c3, slice A6 a1.Kerns.length c7] 25 :: L) w ∧ True | (Sum.inr _) => e = .exit 0 ∧ ds = [] ∧ Has [(1, pointer (some ⟨g13, 0, none⟩))] r ∧ Hp G (bx g13 [slice A2 a1.Glyphs.length c3, slice A6 a1.Kerns.length c7] 25 :: L) w ∧ True) ?_ ?_
 refine wpc_loop fun I hLp=>?_
 refine formeref07_Valid_l45.partial_correctness a1 (fun v39 o => ∀ (r : Rg) (w : World), Has [(1, pointer (some ⟨g13, 0, none⟩)), (3, int .i64 v39)] r → Hp G (bx g13 [slice A2 a1.Glyphs.length c3, slice A6 a1.Kerns.length c7] 25 :: L) w → o = o54 → I r [] w) ?_ 0 _ hC _ _ ⟨rfl, rfl, tv⟩ hI24 rfl
 intro _ ih v39 o H r wd57 hHas hI58 ho
 rw [ho] at H; clear ho
 rw [hHas.eq]; clear hHas
 refine hLp _ _ _<|sQ fun K59 hK60=>sr fun K61 hK62=>mv z<|fa fl25_0 z<|ld hI58 0 ag22 z z z<|q_len so22 z<|q_lss z z<|nl<|hK62 _ _ _<|dC (v39 < (a1.Glyphs.length : Int)) (fun h63=>?_) fun h63=>?_
 refine yK h63 H fun H=>wt (bY h63)<|ws<|hK60 _ _ _<|sQ fun K64 hK65=>wb<|sr fun K66 hK67=>fa fl25_0 z<|ld hI58 0 ag22 z z z<|mv z<|iK H fun⟨h68, h68'⟩H=>?_
 obtain ⟨ad69, cs70, hA71, hK72, hn73, hc74⟩ := Dat.get hD5 z_api_Glyph (v39) h68 h68'
 obtain ⟨rfl⟩ := open_api_Glyph hK72
 refine q_ia el22 z hA71 z h68 h68'<|q_lfA hI58 ag103 z (cs := [int .u8 ((a1.Glyphs.getD (Int.toNat v39) z_api_Glyph).Byte), int .i64 ((a1.Glyphs.getD (Int.toNat v39) z_api_Glyph).Advance)]) z (fun j v hv => gR.cel _ _ (hc74 j v hv))<|q_alloc hI58 ze103 fun g76 wd77 hI78=>stk hI78 0 ag103 z z z z z z z fun wd79 hI80=>nl<|hK67 _ _ _<|sQ fun K81 hK82=>bK H fun v83 hC H=>jc .normal hI80 [(1, pointer (some ⟨g13, 0, none⟩)), (3, int .i64 v39), (64, bool v83)] ?_ fun _ wd86 hI87=>?_
 refine have H:=hC;?_
 refine wpc_quiet mixo (by kernel_rfl) ?_
 refine have hI89:=hI80.drew;wq (fa fl103_0 z wqd) z<|wq (ld hI89 0 ag5 z z z wqd) z<|wq (q_lss z z wqd) z<|wq (mv z wqd) z<|dC (((a1.Glyphs.getD (Int.toNat v39) z_api_Glyph).Byte) < 32) (fun h90=>?_) fun h90=>?_
 refine yK h90 H fun H=>wq (wN (gN z z z (bY h90) z) wqd) z<|wq (wN (gN z z z (bY h90) z) wqd) z<|wq (wN (gN z z z (bY h90) z) wqd) z<|wq (pkt (bY h90) z wqd) z<|wq (mv z wqd) z<|wq (wN (gN z z z z z) wqd) z<|wq (wN (gN z z z z z) wqd) z<|wq (wN (gN z z z z z) wqd) z<|wq (pkt z z wqd) z<|wq (mv z wqd) z<|wq (wN (gN z z z z z) wqd) z<|wq (wN (gN z z z z z) wqd) z<|wq (wN (gN z z z z z) wqd) z<|?_
 refine wq (pkt z z wqd) z<|wq (mv z wqd) z<|wq (wN (gN z z z z z) wqd) z<|wq (wN (gN z z z z z) wqd) z<|wq (wN (gN z z z z z) wqd) z<|wq (wN (gN z z z z z) wqd) z<|wq (wN (gN z z z z z) wqd) z<|wq (wN (gN z z z z z) wqd) z<|wq (wN (gN z z z z z) wqd) z<|wq (wN (gN z z z z z) wqd) z<|wq (wN (gN z z z z z) wqd) z<|wq (wN (gN z z z z z) wqd) z<|wq (wN (gN z z z z z) wqd) z<|wq (wN (gN z z z z z) wqd) z<|?_
 refine wq (wN (gN z z z z z) wqd) z<|wq (wN (gN z z z z z) wqd) z<|wq (pkt z z wqd) z<|wqq_nil<|?_
 cases H
 exact je ⟨z, z, z, tv⟩ hI89
 refine nK h90 H fun H=>wq (fa (hw:=gY z z z (bN h90)) fl103_0 z wqd) z<|wq (ld (hw:=gY z z z (bN h90)) hI89 0 ag5 z z z wqd) z<|wq (q_gtr (hw:=gY z z z (bN h90)) z z wqd) z<|wq (pkf (bN h90) z wqd) z<|wq (mv z wqd) z<|dC (125 < ((a1.Glyphs.getD (Int.toNat v39) z_api_Glyph).Byte)) (fun h91=>?_) fun h91=>?_
 refine yK h91 H fun H=>wq (wN (gN z z z (bY h91) z) wqd) z<|wq (wN (gN z z z (bY h91) z) wqd) z<|wq (wN (gN z z z (bY h91) z) wqd) z<|wq (pkt (bY h91) z wqd) z<|wq (mv z wqd) z<|wq (wN (gN z z z z z) wqd) z<|wq (wN (gN z z z z z) wqd) z<|wq (wN (gN z z z z z) wqd) z<|wq (pkt z z wqd) z<|wq (mv z wqd) z<|wq (wN (gN z z z z z) wqd) z<|wq (wN (gN z z z z z) wqd) z<|wq (wN (gN z z z z z) wqd) z<|?_
 refine wq (wN (gN z z z z z) wqd) z<|wq (wN (gN z z z z z) wqd) z<|wq (wN (gN z z z z z) wqd) z<|wq (wN (gN z z z z z) wqd) z<|wq (wN (gN z z z z z) wqd) z<|wq (wN (gN z z z z z) wqd) z<|wq (wN (gN z z z z z) wqd) z<|wq (wN (gN z z z z z) wqd) z<|wq (wN (gN z z z z z) wqd) z<|wq (wN (gN z z z z z) wqd) z<|wq (wN (gN z z z z z) wqd) z<|wq (pkt z z wqd) z<|wqq_nil<|?_
 cases H
 exact je ⟨z, z, z, tv⟩ hI89
 refine nK h91 H fun H=>wq (fa (hw:=gY z z z (bN h91)) fl103_1 z wqd) z<|wq (ld (hw:=gY z z z (bN h91)) hI89 0 ag3 z z z wqd) z<|wq (q_lss (hw:=gY z z z (bN h91)) z z wqd) z<|wq (pkf (bN h91) z wqd) z<|wq (mv z wqd) z<|dC (((a1.Glyphs.getD (Int.toNat v39) z_api_Glyph).Advance) < 0) (fun h92=>?_) fun h92=>?_
 refine yK h92 H fun H=>wq (wN (gN z z z (bY h92) z) wqd) z<|wq (wN (gN z z z (bY h92) z) wqd) z<|wq (wN (gN z z z (bY h92) z) wqd) z<|wq (pkt (bY h92) z wqd) z<|wq (mv z wqd) z<|wq (wN (gN z z z z z) wqd) z<|wq (wN (gN z z z z z) wqd) z<|wq (wN (gN z z z z z) wqd) z<|wq (wN (gN z z z z z) wqd) z<|wq (wN (gN z z z z z) wqd) z<|wq (wN (gN z z z z z) wqd) z<|wq (wN (gN z z z z z) wqd) z<|wq (wN (gN z z z z z) wqd) z<|?_
 refine wq (wN (gN z z z z z) wqd) z<|wq (wN (gN z z z z z) wqd) z<|wq (wN (gN z z z z z) wqd) z<|wq (wN (gN z z z z z) wqd) z<|wq (wN (gN z z z z z) wqd) z<|wq (wN (gN z z z z z) wqd) z<|wq (pkt z z wqd) z<|wqq_nil<|?_
 cases H
 exact je ⟨z, z, z, tv⟩ hI89
 refine nK h92 H fun H=>wq (fa (hw:=gY z z z (bN h92)) fl103_1 z wqd) z<|wq (ld (hw:=gY z z z (bN h92)) hI89 0 ag3 z z z wqd) z<|wq (q_gtr (hw:=gY z z z (bN h92)) z z wqd) z<|wq (pkf (bN h92) z wqd) z<|wq (mv z wqd) z<|dC (1000 < ((a1.Glyphs.getD (Int.toNat v39) z_api_Glyph).Advance)) (fun h93=>?_) fun h93=>?_
 refine yK h93 H fun H=>wq (wN (gN z z z (bY h93) z) wqd) z<|wq (wN (gN z z z (bY h93) z) wqd) z<|wq (wN (gN z z z (bY h93) z) wqd) z<|wq (wN (gN z z z z z) wqd) z<|wq (wN (gN z z z z z) wqd) z<|wq (wN (gN z z z z z) wqd) z<|wq (wN (gN z z z z z) wqd) z<|wq (wN (gN z z z z z) wqd) z<|wq (wN (gN z z z z z) wqd) z<|wq (wN (gN z z z z z) wqd) z<|wq (wN (gN z z z z z) wqd) z<|wq (wN (gN z z z z z) wqd) z<|wq (wN (gN z z z z z) wqd) z<|?_
 refine wq (wN (gN z z z (bY h93) z) wqd) z<|wq (pkt (bY h93) z wqd) z<|wqq_nil<|?_
 cases H
 exact je ⟨z, z, z, tv⟩ hI89
 refine nK h93 H fun H=>wq (mv (hw:=gY z z z (bN h93)) z wqd) z<|wq (q_gtr (hw:=gY z z z (bN h93)) z z wqd) z<|wq (mv (hw:=gY z z z (bN h93)) z wqd) z<|dC (0 < v39) (fun h94=>?_) fun h94=>?_
 refine yK h94 H fun H=>wq (fa (hw:=gY z z z (bY h94)) fl103_0 z wqd) z<|wq (ld (hw:=gY z z z (bY h94)) hI89 0 ag5 z z z wqd) z<|wq (fa (hw:=gY z z z (bY h94)) fl25_0 z wqd) z<|wq (ld (hw:=gY z z z (bY h94)) hI89 1 ag22 z z z wqd) z<|wq (mv (hw:=gY z z z (bY h94)) z wqd) z<|wq (q_sub (hw:=gY z z z (bY h94)) z z wqd) z<|iK H fun⟨h95, h95'⟩H=>?_
 obtain ⟨ad96, cs97, hA98, hK99, hn100, hc101⟩ := Dat.get hD5 z_api_Glyph (w64 (v39 - 1)) h95 h95'
 obtain ⟨rfl⟩ := open_api_Glyph hK99
 refine wq (q_ia (hw:=gY z z z (bY h94)) el22 z hA98 z h95 h95' wqd) z<|wq (q_fa (hw:=gY z z z (bY h94)) fl103_0 z z wqd) z<|wq (q_lf (hw:=gY z z z (bY h94)) hI89 ag5 z (gR.cel _ _ (hc101 0 _ z)) wqd) z<|wq (q_leq (hw:=gY z z z (bY h94)) z z wqd) z<|wq (pkt (hw:=gY z z z (bN h93)) (bY h94) z wqd) z<|wq (pkf (bN h93) z wqd) z<|wqq_nil<|?_
 cases H
 exact je ⟨z, z, z, tv⟩ hI89
 refine nK h94 H fun H=>wq (wN (gN z z z (bN h94) z) wqd) z<|wq (wN (gN z z z (bN h94) z) wqd) z<|wq (wN (gN z z z (bN h94) z) wqd) z<|wq (wN (gN z z z (bN h94) z) wqd) z<|wq (wN (gN z z z (bN h94) z) wqd) z<|wq (wN (gN z z z (bN h94) z) wqd) z<|wq (wN (gN z z z (bN h94) z) wqd) z<|wq (wN (gN z z z (bN h94) z) wqd) z<|wq (wN (gN z z z (bN h94) z) wqd) z<|wq (wN (gN z z z (bN h94) z) wqd) z<|wq (pkf (hw:=gY z z z (bN h93)) (bN h94) z wqd) z<|wq (pkf (bN h93) z wqd) z<|wqq_nil<|?_
 cases H
 exact je ⟨z, z, z, tv⟩ hI89
 refine hK82 _ _ _<|dC (v83 = true) (fun h102=>?_) fun h102=>?_
 refine yK h102 H fun H=>wt (vY h102)<|sr fun K103 hK104=>asn z<|nl<|hK104 _ _ _<|wr<|have hI106:=Hp.pick 2 [1] hI87 z;?_
 cases H
 exact ⟨z, z, ⟨z, tv⟩, hI106, tv⟩
 exact nK h102 H fun H=>wf (vN h102)<|ws<|hK65 _ _ _<|wpc_region<|mv z<|q_add z z<|asn z<|nl<|have hI108:=Hp.pick 2 [1] hI87 z;ih _ _ H _ _ ⟨z, z, tv⟩ hI108 z
 refine nK h63 H fun H=>wf (bN h63)<|wx<|?_
 cases H
 exact ⟨z, z, ⟨z, tv⟩, hI58, tv⟩
 rcases o54 with _ | _
 rintro e r ds wd48 ⟨rfl, rfl, hHas, hI49, _⟩
 rw [hHas.eq]; clear hHas
 refine have hI109:=Hp.pick 1 [] hI49 z;?_
 cases H
 exact rt ⟨_, _, z, z, z⟩ hI109
 rintro e r ds wd52 ⟨rfl, rfl, hHas, hI53, _⟩
 rw [hHas.eq]; clear hHas
 refine hK32 _ _ _<|sQ fun K110 hK111=>sr fun K112 hK113=>asn z<|nl<|hK113 _ _ _<|wb<|bK H fun o133 hC H=>?_
 refine wpc_mono (Q := fun e r ds w => match (generalizing := false) o133 with | (Sum.inl _) => e = .ret ∧ ds = [] ∧ Has [(2, bool false)] r ∧ Hp G (bx g13 [slice A2 a1.Glyphs.length c3, slice A6 a1.Kerns.length c7] 25 :: L) w ∧ True | (Sum.inr _) => e = .exit 2 ∧ ds = [] ∧ Has [] r ∧ Hp G (bx g13 [slice A2 a1.Glyphs.length c3, slice A6 a1.Kerns.length c7] 25 :: L) w ∧ True) ?_ ?_
 refine wpc_loop fun I hLp=>?_
 refine formeref07_Valid_l124.partial_correctness a1 (fun v118 o => ∀ (r : Rg) (w : World), Has [(1, pointer (some ⟨g13, 0, none⟩)), (5, int .i64 v118)] r → Hp G (bx g13 [slice A2 a1.Glyphs.length c3, slice A6 a1.Kerns.length c7] 25 :: L) w → o = o133 → I r [] w) ?_ 0 _ hC _ _ ⟨rfl, rfl, tv⟩ hI53 rfl
 intro _ ih v118 o H r wd136 hHas hI137 ho
 rw [ho] at H; clear ho
 rw [hHas.eq]; clear hHas
 refine hLp _ _ _<|sQ fun K138 hK139=>sr fun K140 hK141=>mv z<|fa fl25_1 z<|ld hI137 0 ag23 z z z<|q_len so23 z<|q_lss z z<|nl<|hK141 _ _ _<|dC (v118 < (a1.Kerns.length : Int)) (fun h142=>?_) fun h142=>?_
 refine yK h142 H fun H=>wt (bY h142)<|ws<|hK139 _ _ _<|sQ fun K143 hK144=>wb<|sr fun K145 hK146=>fa fl25_1 z<|ld hI137 0 ag23 z z z<|mv z<|iK H fun⟨h147, h147'⟩H=>?_
 obtain ⟨ad148, cs149, hA150, hK151, hn152, hc153⟩ := Dat.get hD9 z_api_Kern (v118) h147 h147'
 obtain ⟨rfl⟩ := open_api_Kern hK151
 refine q_ia el23 z hA150 z h147 h147'<|q_lfA hI137 ag122 z (cs := [int .u8 ((a1.Kerns.getD (Int.toNat v118) z_api_Kern).Left), int .u8 ((a1.Kerns.getD (Int.toNat v118) z_api_Kern).Right), int .i64 ((a1.Kerns.getD (Int.toNat v118) z_api_Kern).By)]) z (fun j v hv => gR.cel _ _ (hc153 j v hv))<|q_alloc hI137 ze122 fun g155 wd156 hI157=>stk hI157 0 ag122 z z z z z z z fun wd158 hI159=>nl<|hK146 _ _ _<|sr fun K160 hK161=>lda hI159 1 ag25 z z z z<|fa fl122_0 z<|ld hI159 0 ag5 z z z<|bK H fun y167 hy162 H=>cv bo87 (formeref07_Glyph_spec hy162 hI159 hl4 hD5 hl8 hD9) z z fun wd165 hI166=>asn z<|nl<|?_
 refine hK161 _ _ _<|sr fun K168 hK169=>lda hI166 1 ag25 z z z z<|fa fl122_1 z<|ld hI166 0 ag5 z z z<|bK H fun y175 hy170 H=>cv bo87 (formeref07_Glyph_spec hy170 hI166 hl4 hD5 hl8 hD9) z z fun wd173 hI174=>asn z<|nl<|hK169 _ _ _<|sQ fun K176 hK177=>sQ fun K178 hK179=>bK H fun v180 hC H=>jc .normal hI174 [(1, pointer (some ⟨g13, 0, none⟩)), (5, int .i64 v118), (6, pointer (some ⟨g155, 0, none⟩)), (112, bool v180)] ?_ fun _ wd183 hI184=>?_
 refine have H:=hC;?_
 refine wpc_quiet mixo (by kernel_rfl) ?_
 refine have hI186:=hI174.drew;wq (mv z wqd) z<|wq (q_lss z z wqd) z<|wq (mv z wqd) z<|dC (y167 < 0) (fun h187=>?_) fun h187=>?_
 refine yK h187 H fun H=>wq (wN (gN z z z (bY h187) z) wqd) z<|wq (wN (gN z z z (bY h187) z) wqd) z<|wq (pkt (bY h187) z wqd) z<|wq (mv z wqd) z<|wq (wN (gN z z z z z) wqd) z<|wq (wN (gN z z z z z) wqd) z<|wq (wN (gN z z z z z) wqd) z<|wq (pkt z z wqd) z<|wq (mv z wqd) z<|wq (wN (gN z z z z z) wqd) z<|wq (wN (gN z z z z z) wqd) z<|wq (wN (gN z z z z z) wqd) z<|wq (pkt z z wqd) z<|?_
 refine wq (mv z wqd) z<|wq (wN (gN z z z z z) wqd) z<|wq (wN (gN z z z z z) wqd) z<|wq (wN (gN z z z z z) wqd) z<|wq (wN (gN z z z z z) wqd) z<|wq (wN (gN z z z z z) wqd) z<|wq (wN (gN z z z z z) wqd) z<|wq (wN (gN z z z z z) wqd) z<|wq (wN (gN z z z z z) wqd) z<|wq (wN (gN z z z z z) wqd) z<|wq (wN (gN z z z z z) wqd) z<|wq (pkt z z wqd) z<|wqq_nil<|?_
 cases H
 exact je ⟨z, z, z, z, tv⟩ hI186
 refine nK h187 H fun H=>wq (mv (hw:=gY z z z (bN h187)) z wqd) z<|wq (q_lss (hw:=gY z z z (bN h187)) z z wqd) z<|wq (pkf (bN h187) z wqd) z<|wq (mv z wqd) z<|dC (y175 < 0) (fun h188=>?_) fun h188=>?_
 refine yK h188 H fun H=>wq (wN (gN z z z (bY h188) z) wqd) z<|wq (wN (gN z z z (bY h188) z) wqd) z<|wq (wN (gN z z z (bY h188) z) wqd) z<|wq (pkt (bY h188) z wqd) z<|wq (mv z wqd) z<|wq (wN (gN z z z z z) wqd) z<|wq (wN (gN z z z z z) wqd) z<|wq (wN (gN z z z z z) wqd) z<|wq (pkt z z wqd) z<|wq (mv z wqd) z<|wq (wN (gN z z z z z) wqd) z<|wq (wN (gN z z z z z) wqd) z<|wq (wN (gN z z z z z) wqd) z<|?_
 refine wq (wN (gN z z z z z) wqd) z<|wq (wN (gN z z z z z) wqd) z<|wq (wN (gN z z z z z) wqd) z<|wq (wN (gN z z z z z) wqd) z<|wq (wN (gN z z z z z) wqd) z<|wq (wN (gN z z z z z) wqd) z<|wq (wN (gN z z z z z) wqd) z<|wq (pkt z z wqd) z<|wqq_nil<|?_
 cases H
 exact je ⟨z, z, z, z, tv⟩ hI186
 refine nK h188 H fun H=>wq (fa (hw:=gY z z z (bN h188)) fl122_2 z wqd) z<|wq (ld (hw:=gY z z z (bN h188)) hI186 0 ag3 z z z wqd) z<|wq (q_lss (hw:=gY z z z (bN h188)) z z wqd) z<|wq (pkf (bN h188) z wqd) z<|wq (mv z wqd) z<|dC (((a1.Kerns.getD (Int.toNat v118) z_api_Kern).By) < (-1000)) (fun h189=>?_) fun h189=>?_
 refine yK h189 H fun H=>wq (wN (gN z z z (bY h189) z) wqd) z<|wq (wN (gN z z z (bY h189) z) wqd) z<|wq (wN (gN z z z (bY h189) z) wqd) z<|wq (pkt (bY h189) z wqd) z<|wq (mv z wqd) z<|wq (wN (gN z z z z z) wqd) z<|wq (wN (gN z z z z z) wqd) z<|wq (wN (gN z z z z z) wqd) z<|wq (wN (gN z z z z z) wqd) z<|wq (wN (gN z z z z z) wqd) z<|wq (wN (gN z z z z z) wqd) z<|wq (wN (gN z z z z z) wqd) z<|wq (wN (gN z z z z z) wqd) z<|?_
 refine wq (wN (gN z z z z z) wqd) z<|wq (wN (gN z z z z z) wqd) z<|wq (pkt z z wqd) z<|wqq_nil<|?_
 cases H
 exact je ⟨z, z, z, z, tv⟩ hI186
 refine nK h189 H fun H=>wq (fa (hw:=gY z z z (bN h189)) fl122_2 z wqd) z<|wq (ld (hw:=gY z z z (bN h189)) hI186 0 ag3 z z z wqd) z<|wq (q_gtr (hw:=gY z z z (bN h189)) z z wqd) z<|wq (pkf (bN h189) z wqd) z<|wq (mv z wqd) z<|dC (1000 < ((a1.Kerns.getD (Int.toNat v118) z_api_Kern).By)) (fun h190=>?_) fun h190=>?_
 refine yK h190 H fun H=>wq (wN (gN z z z (bY h190) z) wqd) z<|wq (wN (gN z z z (bY h190) z) wqd) z<|wq (wN (gN z z z (bY h190) z) wqd) z<|wq (wN (gN z z z (bY h190) z) wqd) z<|wq (wN (gN z z z (bY h190) z) wqd) z<|wq (wN (gN z z z (bY h190) z) wqd) z<|wq (wN (gN z z z (bY h190) z) wqd) z<|wq (wN (gN z z z (bY h190) z) wqd) z<|wq (wN (gN z z z (bY h190) z) wqd) z<|wq (wN (gN z z z (bY h190) z) wqd) z<|wq (pkt (bY h190) z wqd) z<|wqq_nil<|?_
 cases H
 exact je ⟨z, z, z, z, tv⟩ hI186
 refine nK h190 H fun H=>wq (fa (hw:=gY z z z (bN h190)) fl25_0 z wqd) z<|wq (ld (hw:=gY z z z (bN h190)) hI186 1 ag22 z z z wqd) z<|wq (mv (hw:=gY z z z (bN h190)) z wqd) z<|iK H fun⟨h191, h191'⟩H=>?_
 obtain ⟨ad192, cs193, hA194, hK195, hn196, hc197⟩ := Dat.get hD5 z_api_Glyph (y167) h191 h191'
 obtain ⟨rfl⟩ := open_api_Glyph hK195
 refine wq (q_ia (hw:=gY z z z (bN h190)) el22 z hA194 z h191 h191' wqd) z<|wq (q_fa (hw:=gY z z z (bN h190)) fl103_1 z z wqd) z<|wq (q_lf (hw:=gY z z z (bN h190)) hI186 ag3 z (gR.cel _ _ (hc197 1 _ z)) wqd) z<|wq (fa (hw:=gY z z z (bN h190)) fl122_2 z wqd) z<|wq (ld (hw:=gY z z z (bN h190)) hI186 0 ag3 z z z wqd) z<|wq (q_add (hw:=gY z z z (bN h190)) z z wqd) z<|wq (q_lss (hw:=gY z z z (bN h190)) z z wqd) z<|wq (pkf (bN h190) z wqd) z<|wqq_nil<|?_
 cases H
 exact je ⟨z, z, z, z, tv⟩ hI186
 refine hK179 _ _ _<|dC (v180 = true) (fun h198=>?_) fun h198=>?_
 refine yK h198 H fun H=>wt (vY h198)<|sr fun K199 hK200=>asn z<|nl<|hK200 _ _ _<|wr<|have hI202:=Hp.pick 2 [1] hI184 z;?_
 cases H
 exact ⟨z, z, ⟨z, tv⟩, hI202, tv⟩
 refine nK h198 H fun H=>wf (vN h198)<|ws<|hK177 _ _ _<|sQ fun K203 hK204=>bK H fun v205 hC H=>jc .normal hI184 [(1, pointer (some ⟨g13, 0, none⟩)), (5, int .i64 v118), (150, bool v205)] ?_ fun _ wd208 hI209=>?_
 refine have H:=hC;?_
 refine wpc_quiet mixo (by kernel_rfl) ?_
 refine have hI211:=hI184.drew;wq (mv z wqd) z<|wq (q_gtr z z wqd) z<|wq (mv z wqd) z<|dC (0 < v118) (fun h212=>?_) fun h212=>?_
 refine yK h212 H fun H=>wq (fa (hw:=gY z z z (bY h212)) fl122_0 z wqd) z<|wq (ld (hw:=gY z z z (bY h212)) hI211 0 ag5 z z z wqd) z<|wq (fa (hw:=gY z z z (bY h212)) fl25_1 z wqd) z<|wq (ld (hw:=gY z z z (bY h212)) hI211 1 ag23 z z z wqd) z<|wq (mv (hw:=gY z z z (bY h212)) z wqd) z<|wq (q_sub (hw:=gY z z z (bY h212)) z z wqd) z<|iK H fun⟨h213, h213'⟩H=>?_
 obtain ⟨ad214, cs215, hA216, hK217, hn218, hc219⟩ := Dat.get hD9 z_api_Kern (w64 (v118 - 1)) h213 h213'
 obtain ⟨rfl⟩ := open_api_Kern hK217
 refine wq (q_ia (hw:=gY z z z (bY h212)) el23 z hA216 z h213 h213' wqd) z<|wq (q_fa (hw:=gY z z z (bY h212)) fl122_0 z z wqd) z<|wq (q_lf (hw:=gY z z z (bY h212)) hI211 ag5 z (gR.cel _ _ (hc219 0 _ z)) wqd) z<|wq (q_lss (hw:=gY z z z (bY h212)) z z wqd) z<|wq (mv (hw:=gY z z z (bY h212)) z wqd) z<|dC (((a1.Kerns.getD (Int.toNat v118) z_api_Kern).Left) < ((a1.Kerns.getD (Int.toNat (w64 (v118 - 1))) z_api_Kern).Left)) (fun h220=>?_) fun h220=>?_
 refine yK h220 H fun H=>wq (wN (gN z z z (bY h220) z) wqd) z<|wq (wN (gN z z z (bY h220) z) wqd) z<|wq (wN (gN z z z (bY h220) z) wqd) z<|wq (wN (gN z z z (bY h220) z) wqd) z<|wq (wN (gN z z z (bY h220) z) wqd) z<|wq (wN (gN z z z (bY h220) z) wqd) z<|wq (wN (gN z z z (bY h220) z) wqd) z<|wq (wN (gN z z z (bY h220) z) wqd) z<|wq (wN (gN z z z (bY h220) z) wqd) z<|wq (wN (gN z z z (bY h220) z) wqd) z<|wq (wN (gN z z z (bY h220) z) wqd) z<|wq (wN (gN z z z z z) wqd) z<|wq (wN (gN z z z z z) wqd) z<|?_
 refine wq (wN (gN z z z z z) wqd) z<|wq (wN (gN z z z z z) wqd) z<|wq (wN (gN z z z z z) wqd) z<|wq (wN (gN z z z z z) wqd) z<|wq (wN (gN z z z z z) wqd) z<|wq (wN (gN z z z z z) wqd) z<|wq (wN (gN z z z z z) wqd) z<|wq (wN (gN z z z z z) wqd) z<|wq (wN (gN z z z (bY h220) z) wqd) z<|wq (pkt (hw:=gY z z z (bY h212)) (bY h220) z wqd) z<|wq (pkt (bY h212) z wqd) z<|wqq_nil<|?_
 cases H
 exact je ⟨z, z, z, tv⟩ hI211
 refine nK h220 H fun H=>wq (fa (hw:=gY z z z (bN h220)) fl122_0 z wqd) z<|wq (ld (hw:=gY z z z (bN h220)) hI211 0 ag5 z z z wqd) z<|wq (fa (hw:=gY z z z (bN h220)) fl25_1 z wqd) z<|wq (ld (hw:=gY z z z (bN h220)) hI211 1 ag23 z z z wqd) z<|wq (mv (hw:=gY z z z (bN h220)) z wqd) z<|wq (q_sub (hw:=gY z z z (bN h220)) z z wqd) z<|iK H fun⟨h221, h221'⟩H=>?_
 obtain ⟨ad222, cs223, hA224, hK225, hn226, hc227⟩ := Dat.get hD9 z_api_Kern (w64 (v118 - 1)) h221 h221'
 obtain ⟨rfl⟩ := open_api_Kern hK225
 refine wq (q_ia (hw:=gY z z z (bN h220)) el23 z hA224 z h221 h221' wqd) z<|wq (q_fa (hw:=gY z z z (bN h220)) fl122_0 z z wqd) z<|wq (q_lf (hw:=gY z z z (bN h220)) hI211 ag5 z (gR.cel _ _ (hc227 0 _ z)) wqd) z<|wq (q_eql (hw:=gY z z z (bN h220)) z z wqd) z<|wq (mv (hw:=gY z z z (bN h220)) z wqd) z<|dC (((a1.Kerns.getD (Int.toNat v118) z_api_Kern).Left) = ((a1.Kerns.getD (Int.toNat (w64 (v118 - 1))) z_api_Kern).Left)) (fun h228=>?_) fun h228=>?_
 refine yK h228 H fun H=>wq (fa (hw:=gY z z z (bY h228)) fl122_1 z wqd) z<|wq (ld (hw:=gY z z z (bY h228)) hI211 0 ag5 z z z wqd) z<|wq (fa (hw:=gY z z z (bY h228)) fl25_1 z wqd) z<|wq (ld (hw:=gY z z z (bY h228)) hI211 1 ag23 z z z wqd) z<|wq (mv (hw:=gY z z z (bY h228)) z wqd) z<|wq (q_sub (hw:=gY z z z (bY h228)) z z wqd) z<|iK H fun⟨h229, h229'⟩H=>?_
 obtain ⟨ad230, cs231, hA232, hK233, hn234, hc235⟩ := Dat.get hD9 z_api_Kern (w64 (v118 - 1)) h229 h229'
 obtain ⟨rfl⟩ := open_api_Kern hK233
 refine wq (q_ia (hw:=gY z z z (bY h228)) el23 z hA232 z h229 h229' wqd) z<|wq (q_fa (hw:=gY z z z (bY h228)) fl122_1 z z wqd) z<|wq (q_lf (hw:=gY z z z (bY h228)) hI211 ag5 z (gR.cel _ _ (hc235 1 _ z)) wqd) z<|wq (q_leq (hw:=gY z z z (bY h228)) z z wqd) z<|wq (pkt (hw:=gY z z z (bN h220)) (bY h228) z wqd) z<|wq (pkf (hw:=gY z z z (bY h212)) (bN h220) z wqd) z<|wq (pkt (bY h212) z wqd) z<|wqq_nil<|?_
 cases H
 exact je ⟨z, z, z, tv⟩ hI211
 refine nK h228 H fun H=>wq (wN (gN z z z (bN h228) z) wqd) z<|wq (wN (gN z z z (bN h228) z) wqd) z<|wq (wN (gN z z z (bN h228) z) wqd) z<|wq (wN (gN z z z (bN h228) z) wqd) z<|wq (wN (gN z z z (bN h228) z) wqd) z<|wq (wN (gN z z z (bN h228) z) wqd) z<|wq (wN (gN z z z (bN h228) z) wqd) z<|wq (wN (gN z z z (bN h228) z) wqd) z<|wq (wN (gN z z z (bN h228) z) wqd) z<|wq (wN (gN z z z (bN h228) z) wqd) z<|wq (pkf (hw:=gY z z z (bN h220)) (bN h228) z wqd) z<|wq (pkf (hw:=gY z z z (bY h212)) (bN h220) z wqd) z<|wq (pkt (bY h212) z wqd) z<|?_
 refine wqq_nil<|?_
 cases H
 exact je ⟨z, z, z, tv⟩ hI211
 refine nK h212 H fun H=>wq (wN (gN z z z (bN h212) z) wqd) z<|wq (wN (gN z z z (bN h212) z) wqd) z<|wq (wN (gN z z z (bN h212) z) wqd) z<|wq (wN (gN z z z (bN h212) z) wqd) z<|wq (wN (gN z z z (bN h212) z) wqd) z<|wq (wN (gN z z z (bN h212) z) wqd) z<|wq (wN (gN z z z (bN h212) z) wqd) z<|wq (wN (gN z z z (bN h212) z) wqd) z<|wq (wN (gN z z z (bN h212) z) wqd) z<|wq (wN (gN z z z (bN h212) z) wqd) z<|wq (wN (gN z z z (bN h212) z) wqd) z<|wq (wN (gN z z z z z) wqd) z<|wq (wN (gN z z z z z) wqd) z<|?_
 refine wq (wN (gN z z z z z) wqd) z<|wq (wN (gN z z z z z) wqd) z<|wq (wN (gN z z z z z) wqd) z<|wq (wN (gN z z z z z) wqd) z<|wq (wN (gN z z z z z) wqd) z<|wq (wN (gN z z z z z) wqd) z<|wq (wN (gN z z z z z) wqd) z<|wq (wN (gN z z z z z) wqd) z<|wq (wN (gN z z z z z) wqd) z<|wq (wN (gN z z z z z) wqd) z<|wq (wN (gN z z z z z) wqd) z<|wq (wN (gN z z z z z) wqd) z<|wq (wN (gN z z z z z) wqd) z<|wq (wN (gN z z z z z) wqd) z<|?_
 refine wq (wN (gN z z z z z) wqd) z<|wq (wN (gN z z z z z) wqd) z<|wq (wN (gN z z z z z) wqd) z<|wq (wN (gN z z z z z) wqd) z<|wq (wN (gN z z z z z) wqd) z<|wq (wN (gN z z z z z) wqd) z<|wq (wN (gN z z z (bN h212) z) wqd) z<|wq (pkf (bN h212) z wqd) z<|wqq_nil<|?_
 cases H
 exact je ⟨z, z, z, tv⟩ hI211
 refine hK204 _ _ _<|dC (v205 = true) (fun h236=>?_) fun h236=>?_
 refine yK h236 H fun H=>wt (vY h236)<|sr fun K237 hK238=>asn z<|nl<|hK238 _ _ _<|wr<|have hI240:=Hp.pick 2 [1] hI209 z;?_
 cases H
 exact ⟨z, z, ⟨z, tv⟩, hI240, tv⟩
 exact nK h236 H fun H=>wf (vN h236)<|ws<|hK144 _ _ _<|wpc_region<|mv z<|q_add z z<|asn z<|nl<|have hI242:=Hp.pick 2 [1] hI209 z;ih _ _ H _ _ ⟨z, z, tv⟩ hI242 z
 refine nK h142 H fun H=>wf (bN h142)<|wx<|?_
 cases H
 exact ⟨z, z, trivial, hI137, tv⟩
 rcases o133 with _ | _
 rintro e r ds wd127 ⟨rfl, rfl, hHas, hI128, _⟩
 rw [hHas.eq]; clear hHas
 refine have hI243:=Hp.pick 1 [] hI128 z;?_
 cases H
 exact rt ⟨_, _, z, z, z⟩ hI243
 rintro e r ds wd131 ⟨rfl, rfl, hHas, hI132, _⟩
 rw [hHas.eq]; clear hHas
 refine hK111 _ _ _<|sr fun K244 hK245=>asn z<|nl<|hK245 _ _ _<|wr<|have hI246:=Hp.pick 1 [] hI132 z;?_
 cases H
 exact rt ⟨_, _, z, z, z⟩ hI246
theorem formeref08_Valid_spec {a1 A2 c3 r1006 G L w} (H : formeref08_Valid a1 = some r1006) (hI : Hp G L w) (hl4 : a1.Keep.length ≤ c3) (hD5 : Dat Kd.str G A2 a1.Keep) :
    Calls Tryz.prog 54 [agg [int .i64 a1.Before, int .i64 a1.Behind, slice A2 a1.Keep.length c3].toArray].toArray w fun e w' => Hp G L w' ∧ e = .returned (bool r1006) := by
 refine calls_intro (N := 77) Tryz.func54 z z (Nat.le_of_ble_eq_true z)<|?_
 unfold formeref08_Valid at H
 refine sr fun K6 hK7=>bxk hI z z fun g9 wd10 hI11=>asn z<|nl<|hK7 _ _ _<|sQ fun K12 hK13=>sr fun K14 hK15=>fa fl28_0 z<|ld hI11 0 ag3 z z z<|q_lss z z<|mv z<|bK H fun v16 hC H=>js 4 hI11 [(1, pointer (some ⟨g9, 0, none⟩)), (13, bool v16)] ?_ fun _ wd19 hI20=>?_
 refine have H:=hC;dC (a1.Before < 1) (fun h22=>?_) fun h22=>?_
 refine yK h22 H fun H=>Sk 3 z z (bY h22) z<|pkt (bY h22) z<|nl<|?_
 cases H
 exact je ⟨z, z, tv⟩ hI11
 refine nK h22 H fun H=>fa (hw:=gY z z z (bN h22)) fl28_0 z<|ld (hw:=gY z z z (bN h22)) hI11 0 ag3 z z z<|q_gtr (hw:=gY z z z (bN h22)) z z<|pkf (bN h22) z<|nl<|?_
 cases H
 exact je ⟨z, z, tv⟩ hI11
 refine mv z<|bK H fun v23 hC H=>js 4 hI20 [(1, pointer (some ⟨g9, 0, none⟩)), (18, bool v23)] ?_ fun _ wd26 hI27=>?_
 refine have H:=hC;dC (v16 = true) (fun h29=>?_) fun h29=>?_
 refine yK h29 H fun H=>Sk 3 z z (vY h29) z<|pkt (vY h29) z<|nl<|?_
 cases H
 exact je ⟨z, z, tv⟩ hI20
 refine nK h29 H fun H=>fa (hw:=gY z z z (vN h29)) fl28_1 z<|ld (hw:=gY z z z (vN h29)) hI20 0 ag3 z z z<|q_lss (hw:=gY z z z (vN h29)) z z<|pkf (vN h29) z<|nl<|?_
 cases H
 exact je ⟨z, z, tv⟩ hI20
 refine mv z<|bK H fun v30 hC H=>js 4 hI27 [(1, pointer (some ⟨g9, 0, none⟩)), (23, bool v30)] ?_ fun _ wd33 hI34=>?_
 refine have H:=hC;dC (v23 = true) (fun h36=>?_) fun h36=>?_
 refine yK h36 H fun H=>Sk 3 z z (vY h36) z<|pkt (vY h36) z<|nl<|?_
 cases H
 exact je ⟨z, z, tv⟩ hI27
 refine nK h36 H fun H=>fa (hw:=gY z z z (vN h36)) fl28_1 z<|ld (hw:=gY z z z (vN h36)) hI27 0 ag3 z z z<|q_gtr (hw:=gY z z z (vN h36)) z z<|pkf (vN h36) z<|nl<|?_
 cases H
 exact je ⟨z, z, tv⟩ hI27
 refine mv z<|bK H fun v37 hC H=>js 5 hI34 [(1, pointer (some ⟨g9, 0, none⟩)), (29, bool v37)] ?_ fun _ wd40 hI41=>?_
 refine have H:=hC;dC (v30 = true) (fun h43=>?_) fun h43=>?_
 refine yK h43 H fun H=>Sk 4 z z (vY h43) z<|pkt (vY h43) z<|nl<|?_
 cases H
 exact je ⟨z, z, tv⟩ hI34
 refine nK h43 H fun H=>fa (hw:=gY z z z (vN h43)) fl28_2 z<|ld (hw:=gY z z z (vN h43)) hI34 0 ag26 z z z<|q_len (hw:=gY z z z (vN h43)) so26 z<|q_gtr (hw:=gY z z z (vN h43)) z z<|pkf (vN h43) z<|nl<|?_
 cases H
 exact je ⟨z, z, tv⟩ hI34
 refine nl<|hK15 _ _ _<|dC (v37 = true) (fun h44=>?_) fun h44=>?_
 refine yK h44 H fun H=>wt (vY h44)<|sr fun K45 hK46=>asn z<|nl<|hK46 _ _ _<|wr<|have hI47:=Hp.pick 1 [] hI41 z;?_
 cases H
 exact rt ⟨_, _, z, z, z⟩ hI47
 refine nK h44 H fun H=>wf (vN h44)<|ws<|hK13 _ _ _<|sQ fun K48 hK49=>sr fun K50 hK51=>asn z<|nl<|hK51 _ _ _<|wb<|bK H fun o71 hC H=>?_
 refine wpc_mono (Q := fun e r ds w => match (generalizing := false) o71 with | (Sum.inl _) => e = .ret ∧ ds = [] ∧ Has [(2, bool false)] r ∧ Hp G (bx g9 [int .i64 a1.Before, int .i64 a1.Behind, slice A2 a1.Keep.length c3] 28 :: L) w ∧ True | (Sum.inr _) => e = .exit 0 ∧ ds = [] ∧ Has [] r ∧ Hp G (bx g9 [int .i64 a1.Before, int .i64 a1.Behind, slice A2 a1.Keep.length c3] 28 :: L) w ∧ True) ?_ ?_
 refine wpc_loop fun I hLp=>?_
 refine formeref08_Valid_l62.partial_correctness a1 (fun v56 o => ∀ (r : Rg) (w : World), Has [(1, pointer (some ⟨g9, 0, none⟩)), (3, int .i64 v56)] r → Hp G (bx g9 [int .i64 a1.Before, int .i64 a1.Behind, slice A2 a1.Keep.length c3] 28 :: L) w → o = o71 → I r [] w) ?_ 0 _ hC _ _ ⟨rfl, rfl, tv⟩ hI41 rfl
 intro _ ih v56 o H r wd74 hHas hI75 ho
 rw [ho] at H; clear ho
 rw [hHas.eq]; clear hHas
 refine hLp _ _ _<|sQ fun K76 hK77=>sr fun K78 hK79=>mv z<|fa fl28_2 z<|ld hI75 0 ag26 z z z<|q_len so26 z<|q_lss z z<|nl<|hK79 _ _ _<|dC (v56 < (a1.Keep.length : Int)) (fun h80=>?_) fun h80=>?_
 refine yK h80 H fun H=>wt (bY h80)<|ws<|hK77 _ _ _<|sQ fun K81 hK82=>wb<|sr fun K83 hK84=>fa fl28_2 z<|ld hI75 0 ag26 z z z<|mv z<|iK H fun⟨h85, h85'⟩H=>?_
 obtain ⟨ad86, cs87, hA88, hK89, hn90, hc91⟩ := Dat.get hD5 (⟨#[]⟩ : ByteArray) (v56) h85 h85'
 obtain rfl := hK89
 refine q_ia el26 z hA88 z h85 h85'<|q_lf hI75 ag9 z (gR.cel _ _ (hc91 0 _ z))<|asn z<|nl<|hK84 _ _ _<|sQ fun K92 hK93=>sr fun K94 hK95=>mv z<|q_lens so9 z<|q_neq z z<|mv z<|bK H fun v96 hC H=>js 4 hI75 [(1, pointer (some ⟨g9, 0, none⟩)), (3, int .i64 v56), (4, string (a1.Keep.getD (Int.toNat v56) (⟨#[]⟩ : ByteArray))), (49, bool v96)] ?_ fun _ wd99 hI100=>?_
 refine have H:=hC;dC (¬ ((a1.Keep.getD (Int.toNat v56) (⟨#[]⟩ : ByteArray)).size : Int) = 2) (fun h102=>?_) fun h102=>?_
 refine yK h102 H fun H=>Sk 3 z z (bY h102) z<|pkt (bY h102) z<|nl<|?_
 cases H
 exact je ⟨z, z, z, z, tv⟩ hI75
 refine nK h102 H fun H=>mv (hw:=gY z z z (bN h102)) z<|iK H fun⟨h103, h103'⟩H=>q_is (hw:=gY z z z (bN h102)) so9 z z h103 h103' z<|q_lss (hw:=gY z z z (bN h102)) z z<|pkf (bN h102) z<|nl<|?_
 cases H
 exact je ⟨z, z, z, z, tv⟩ hI75
 refine mv z<|bK H fun v104 hC H=>js 4 hI100 [(1, pointer (some ⟨g9, 0, none⟩)), (3, int .i64 v56), (4, string (a1.Keep.getD (Int.toNat v56) (⟨#[]⟩ : ByteArray))), (54, bool v104)] ?_ fun _ wd107 hI108=>?_
 refine have H:=hC;dC (v96 = true) (fun h110=>?_) fun h110=>?_
 refine yK h110 H fun H=>Sk 3 z z (vY h110) z<|pkt (vY h110) z<|nl<|?_
 cases H
 exact je ⟨z, z, z, z, tv⟩ hI100
 refine nK h110 H fun H=>mv (hw:=gY z z z (vN h110)) z<|iK H fun⟨h111, h111'⟩H=>q_is (hw:=gY z z z (vN h110)) so9 z z h111 h111' z<|q_gtr (hw:=gY z z z (vN h110)) z z<|pkf (vN h110) z<|nl<|?_
 cases H
 exact je ⟨z, z, z, z, tv⟩ hI100
 refine mv z<|bK H fun v112 hC H=>js 4 hI108 [(1, pointer (some ⟨g9, 0, none⟩)), (3, int .i64 v56), (4, string (a1.Keep.getD (Int.toNat v56) (⟨#[]⟩ : ByteArray))), (59, bool v112)] ?_ fun _ wd115 hI116=>?_
 refine have H:=hC;dC (v104 = true) (fun h118=>?_) fun h118=>?_
 refine yK h118 H fun H=>Sk 3 z z (vY h118) z<|pkt (vY h118) z<|nl<|?_
 cases H
 exact je ⟨z, z, z, z, tv⟩ hI108
 refine nK h118 H fun H=>mv (hw:=gY z z z (vN h118)) z<|iK H fun⟨h119, h119'⟩H=>q_is (hw:=gY z z z (vN h118)) so9 z z h119 h119' z<|q_lss (hw:=gY z z z (vN h118)) z z<|pkf (vN h118) z<|nl<|?_
 cases H
 exact je ⟨z, z, z, z, tv⟩ hI108
 refine mv z<|bK H fun v120 hC H=>js 4 hI116 [(1, pointer (some ⟨g9, 0, none⟩)), (3, int .i64 v56), (4, string (a1.Keep.getD (Int.toNat v56) (⟨#[]⟩ : ByteArray))), (64, bool v120)] ?_ fun _ wd123 hI124=>?_
 refine have H:=hC;dC (v112 = true) (fun h126=>?_) fun h126=>?_
 refine yK h126 H fun H=>Sk 3 z z (vY h126) z<|pkt (vY h126) z<|nl<|?_
 cases H
 exact je ⟨z, z, z, z, tv⟩ hI116
 refine nK h126 H fun H=>mv (hw:=gY z z z (vN h126)) z<|iK H fun⟨h127, h127'⟩H=>q_is (hw:=gY z z z (vN h126)) so9 z z h127 h127' z<|q_gtr (hw:=gY z z z (vN h126)) z z<|pkf (vN h126) z<|nl<|?_
 cases H
 exact je ⟨z, z, z, z, tv⟩ hI116
 refine nl<|hK95 _ _ _<|dC (v120 = true) (fun h128=>?_) fun h128=>?_
 refine yK h128 H fun H=>wt (vY h128)<|sr fun K129 hK130=>asn z<|nl<|hK130 _ _ _<|wr<|?_
 cases H
 exact ⟨z, z, ⟨z, tv⟩, hI124, tv⟩
 refine nK h128 H fun H=>wf (vN h128)<|ws<|hK93 _ _ _<|sr fun K131 hK132=>asn z<|nl<|hK132 _ _ _<|wb<|bK H fun o152 hC H=>?_
 refine wpc_mono (Q := fun e r ds w => match (generalizing := false) o152 with | (Sum.inl _) => e = .ret ∧ ds = [] ∧ Has [(2, bool false)] r ∧ Hp G (bx g9 [int .i64 a1.Before, int .i64 a1.Behind, slice A2 a1.Keep.length c3] 28 :: L) w ∧ True | (Sum.inr _) => e = .exit 2 ∧ ds = [] ∧ Has [(1, pointer (some ⟨g9, 0, none⟩)), (3, int .i64 v56)] r ∧ Hp G (bx g9 [int .i64 a1.Before, int .i64 a1.Behind, slice A2 a1.Keep.length c3] 28 :: L) w ∧ True) ?_ ?_
 refine wpc_loop fun I hLp=>?_
 refine formeref08_Valid_l143.partial_correctness a1 v56 (fun v137 o => ∀ (r : Rg) (w : World), Has [(1, pointer (some ⟨g9, 0, none⟩)), (3, int .i64 v56), (4, string (a1.Keep.getD (Int.toNat v56) (⟨#[]⟩ : ByteArray))), (5, int .i64 v137)] r → Hp G (bx g9 [int .i64 a1.Before, int .i64 a1.Behind, slice A2 a1.Keep.length c3] 28 :: L) w → o = o152 → I r [] w) ?_ 0 _ hC _ _ ⟨rfl, rfl, rfl, rfl, tv⟩ hI124 rfl
 intro _ ih v137 o H r wd155 hHas hI156 ho
 rw [ho] at H; clear ho
 rw [hHas.eq]; clear hHas
 refine hLp _ _ _<|sQ fun K157 hK158=>sr fun K159 hK160=>mv z<|mv z<|q_lss z z<|nl<|hK160 _ _ _<|dC (v137 < v56) (fun h161=>?_) fun h161=>?_
 refine yK h161 H fun H=>wt (bY h161)<|ws<|hK158 _ _ _<|sQ fun K162 hK163=>wb<|sr fun K164 hK165=>fa fl28_2 z<|ld hI156 0 ag26 z z z<|mv z<|iK H fun⟨h166, h166'⟩H=>?_
 obtain ⟨ad167, cs168, hA169, hK170, hn171, hc172⟩ := Dat.get hD5 (⟨#[]⟩ : ByteArray) (v137) h166 h166'
 obtain rfl := hK170
 refine q_ia el26 z hA169 z h166 h166'<|q_lf hI156 ag9 z (gR.cel _ _ (hc172 0 _ z))<|mv z<|q_str_eql z z<|nl<|hK165 _ _ _<|dC ((a1.Keep.getD (Int.toNat v137) (⟨#[]⟩ : ByteArray)) = (a1.Keep.getD (Int.toNat v56) (⟨#[]⟩ : ByteArray))) (fun h173=>?_) fun h173=>?_
 refine yK h173 H fun H=>wt (bY h173)<|sr fun K174 hK175=>asn z<|nl<|hK175 _ _ _<|wr<|?_
 cases H
 exact ⟨z, z, ⟨z, tv⟩, hI156, tv⟩
 exact nK h173 H fun H=>wf (bN h173)<|ws<|hK163 _ _ _<|wpc_region<|mv z<|q_add z z<|asn z<|nl<|ih _ _ H _ _ ⟨z, z, z, z, tv⟩ hI156 z
 refine nK h161 H fun H=>wf (bN h161)<|wx<|?_
 cases H
 exact ⟨z, z, ⟨z, z, tv⟩, hI156, tv⟩
 rcases o152 with _ | _
 rintro e r ds wd146 ⟨rfl, rfl, hHas, hI147, _⟩
 rw [hHas.eq]; clear hHas
 cases H
 exact ⟨z, z, ⟨z, tv⟩, hI147, tv⟩
 rintro e r ds wd150 ⟨rfl, rfl, hHas, hI151, _⟩
 rw [hHas.eq]; clear hHas
 exact hK82 _ _ _<|wpc_region<|mv z<|q_add z z<|asn z<|nl<|ih _ _ H _ _ ⟨z, z, tv⟩ hI151 z
 refine nK h80 H fun H=>wf (bN h80)<|wx<|?_
 cases H
 exact ⟨z, z, trivial, hI75, tv⟩
 rcases o71 with _ | _
 rintro e r ds wd65 ⟨rfl, rfl, hHas, hI66, _⟩
 rw [hHas.eq]; clear hHas
 refine have hI176:=Hp.pick 1 [] hI66 z;?_
 cases H
 exact rt ⟨_, _, z, z, z⟩ hI176
 rintro e r ds wd69 ⟨rfl, rfl, hHas, hI70, _⟩
 rw [hHas.eq]; clear hHas
 refine hK49 _ _ _<|sr fun K177 hK178=>asn z<|nl<|hK178 _ _ _<|wr<|have hI179:=Hp.pick 1 [] hI70 z;?_
 cases H
 exact rt ⟨_, _, z, z, z⟩ hI179
theorem formeref21_Args_spec {a1 a10 a15 a16 a17 a18 a19 a20 a21 a22 A2 c3 A6 c7 A11 c12 A23 c24 r1027 G L w} (H : formeref21_Args a1 a10 a15 a16 a17 a18 a19 a20 a21 a22 = some r1027) (hI : Hp G L w) (hl4 : a1.Glyphs.length ≤ c3) (hD5 : Dat k_api_Glyph G A2 a1.Glyphs) (hl8 : a1.Kerns.length ≤ c7) (hD9 : Dat k_api_Kern G A6 a1.Kerns) (hl13 : a10.Keep.length ≤ c12) (hD14 : Dat Kd.str G A11 a10.Keep) (hl25 : a22.length ≤ c24) (hD26 : Dat k_api_Float G A23 a22) :
    Calls Tryz.prog 27 [agg [slice A2 a1.Glyphs.length c3, slice A6 a1.Kerns.length c7].toArray, agg [int .i64 a10.Before, int .i64 a10.Behind, slice A11 a10.Keep.length c12].toArray, string a15, int .i64 a16, int .i64 a17, int .i64 a18, int .i64 a19, int .i64 a20, int .i64 a21, slice A23 a22.length c24].toArray w fun e w' => Hp G L w' ∧ e = .returned (bool r1027) := by
 refine calls_intro (N := 78) Tryz.func27 z z (Nat.le_of_ble_eq_true z)<|?_
 unfold formeref21_Args at H
 refine sr fun K27 hK28=>bxk hI z z fun g30 wd31 hI32=>bxk hI32 z z fun g34 wd35 hI36=>asn z<|nl<|hK28 _ _ _<|sQ fun K37 hK38=>sr fun K39 hK40=>lda hI36 1 ag25 z z z z<|bK H fun y46 hy41 H=>cv bo53 (formeref07_Valid_spec hy41 hI36 hl4 hD5 hl8 hD9) z z fun wd44 hI45=>q_not z<|mv z<|bK H fun v47 hC H=>?_
 refine js 4 hI45 [(2, string a15), (3, int .i64 a16), (4, int .i64 a17), (5, int .i64 a18), (6, int .i64 a19), (7, int .i64 a20), (8, int .i64 a21), (9, slice A23 a22.length c24), (28, bool v47)] ?_ fun _ wd50 hI51=>?_
 refine have H:=hC;dC ((!y46) = true) (fun h53=>?_) fun h53=>?_
 refine yK h53 H fun H=>Sk 3 z z (vY h53) z<|pkt (vY h53) z<|nl<|?_
 cases H
 exact je ⟨z, z, z, z, z, z, z, z, z, tv⟩ hI45
 refine nK h53 H fun H=>lda (hw:=gY z z z (vN h53)) hI45 0 ag28 z z z z<|bK H fun y59 hy54 H=>cv (hw:=gY z z z (vN h53)) bo54 (formeref08_Valid_spec hy54 hI45 hl13 hD14) z z fun wd57 hI58=>q_not (hw:=gY z z z (vN h53)) z<|pkf (vN h53) z<|nl<|?_
 cases H
 exact je ⟨z, z, z, z, z, z, z, z, z, tv⟩ hI58
 refine mv z<|bK H fun v60 hC H=>js 4 hI51 [(3, int .i64 a16), (4, int .i64 a17), (5, int .i64 a18), (6, int .i64 a19), (7, int .i64 a20), (8, int .i64 a21), (9, slice A23 a22.length c24), (33, bool v60)] ?_ fun _ wd63 hI64=>?_
 refine have H:=hC;dC (v47 = true) (fun h66=>?_) fun h66=>?_
 refine yK h66 H fun H=>Sk 3 z z (vY h66) z<|pkt (vY h66) z<|nl<|?_
 cases H
 exact je ⟨z, z, z, z, z, z, z, z, tv⟩ hI51
 refine nK h66 H fun H=>mv (hw:=gY z z z (vN h66)) z<|bK H fun y72 hy67 H=>cv (hw:=gY z z z (vN h66)) bo46 (formeref06_Valid_spec hy67 hI51) z z fun wd70 hI71=>q_not (hw:=gY z z z (vN h66)) z<|pkf (vN h66) z<|nl<|?_
 cases H
 exact je ⟨z, z, z, z, z, z, z, z, tv⟩ hI71
 refine mv z<|bK H fun v73 hC H=>js 3 hI64 [(3, int .i64 a16), (4, int .i64 a17), (5, int .i64 a18), (6, int .i64 a19), (7, int .i64 a20), (8, int .i64 a21), (9, slice A23 a22.length c24), (37, bool v73)] ?_ fun _ wd76 hI77=>?_
 refine have H:=hC;dC (v60 = true) (fun h79=>?_) fun h79=>?_
 refine yK h79 H fun H=>Sk 2 z z (vY h79) z<|pkt (vY h79) z<|nl<|?_
 cases H
 exact je ⟨z, z, z, z, z, z, z, z, tv⟩ hI64
 refine nK h79 H fun H=>mv (hw:=gY z z z (vN h79)) z<|q_lss (hw:=gY z z z (vN h79)) z z<|pkf (vN h79) z<|nl<|?_
 cases H
 exact je ⟨z, z, z, z, z, z, z, z, tv⟩ hI64
 refine mv z<|bK H fun v80 hC H=>js 3 hI77 [(4, int .i64 a17), (5, int .i64 a18), (6, int .i64 a19), (7, int .i64 a20), (8, int .i64 a21), (9, slice A23 a22.length c24), (41, bool v80)] ?_ fun _ wd83 hI84=>?_
 refine have H:=hC;dC (v73 = true) (fun h86=>?_) fun h86=>?_
 refine yK h86 H fun H=>Sk 2 z z (vY h86) z<|pkt (vY h86) z<|nl<|?_
 cases H
 exact je ⟨z, z, z, z, z, z, z, tv⟩ hI77
 refine nK h86 H fun H=>mv (hw:=gY z z z (vN h86)) z<|q_gtr (hw:=gY z z z (vN h86)) z z<|pkf (vN h86) z<|nl<|?_
 cases H
 exact je ⟨z, z, z, z, z, z, z, tv⟩ hI77
 refine mv z<|bK H fun v87 hC H=>js 5 hI84 [(4, int .i64 a17), (5, int .i64 a18), (6, int .i64 a19), (8, int .i64 a21), (47, bool v87)] ?_ fun _ wd90 hI91=>?_
 refine have H:=hC;dC (v80 = true) (fun h93=>?_) fun h93=>?_
 refine yK h93 H fun H=>Sk 4 z z (vY h93) z<|pkt (vY h93) z<|nl<|?_
 cases H
 exact je ⟨z, z, z, z, z, tv⟩ hI84
 refine nK h93 H fun H=>mv (hw:=gY z z z (vN h93)) z<|mv (hw:=gY z z z (vN h93)) z<|bK H fun y99 hy94 H=>cv (hw:=gY z z z (vN h93)) bo23 (formeref20_Valid_spec hy94 hI84 hl25 hD26) z z fun wd97 hI98=>q_not (hw:=gY z z z (vN h93)) z<|pkf (vN h93) z<|nl<|?_
 cases H
 exact je ⟨z, z, z, z, z, tv⟩ hI98
 refine nl<|hK40 _ _ _<|dC (v87 = true) (fun h100=>?_) fun h100=>?_
 refine yK h100 H fun H=>wt (vY h100)<|sr fun K101 hK102=>asn z<|nl<|hK102 _ _ _<|wr<|have hI103:=Hp.pick 2 [] hI91 z;?_
 cases H
 exact rt ⟨_, _, z, z, z⟩ hI103
 refine nK h100 H fun H=>wf (vN h100)<|ws<|hK38 _ _ _<|sr fun K104 hK105=>mv z<|q_geq z z<|mv z<|bK H fun v106 hC H=>js 3 hI91 [(5, int .i64 a18), (6, int .i64 a19), (8, int .i64 a21), (53, bool v106)] ?_ fun _ wd109 hI110=>?_
 refine have H:=hC;dC (0 ≤ a17) (fun h112=>?_) fun h112=>?_
 refine yK h112 H fun H=>mv (hw:=gY z z z (bY h112)) z<|q_leq (hw:=gY z z z (bY h112)) z z<|pkt (bY h112) z<|nl<|?_
 cases H
 exact je ⟨z, z, z, z, tv⟩ hI91
 refine nK h112 H fun H=>Sk 2 z z (bN h112) z<|pkf (bN h112) z<|nl<|?_
 cases H
 exact je ⟨z, z, z, z, tv⟩ hI91
 refine mv z<|bK H fun v113 hC H=>js 3 hI110 [(5, int .i64 a18), (6, int .i64 a19), (8, int .i64 a21), (57, bool v113)] ?_ fun _ wd116 hI117=>?_
 refine have H:=hC;dC (v106 = true) (fun h119=>?_) fun h119=>?_
 refine yK h119 H fun H=>mv (hw:=gY z z z (vY h119)) z<|q_geq (hw:=gY z z z (vY h119)) z z<|pkt (vY h119) z<|nl<|?_
 cases H
 exact je ⟨z, z, z, z, tv⟩ hI110
 refine nK h119 H fun H=>Sk 2 z z (vN h119) z<|pkf (vN h119) z<|nl<|?_
 cases H
 exact je ⟨z, z, z, z, tv⟩ hI110
 refine mv z<|bK H fun v120 hC H=>js 3 hI117 [(6, int .i64 a19), (8, int .i64 a21), (61, bool v120)] ?_ fun _ wd123 hI124=>?_
 refine have H:=hC;dC (v113 = true) (fun h126=>?_) fun h126=>?_
 refine yK h126 H fun H=>mv (hw:=gY z z z (vY h126)) z<|q_leq (hw:=gY z z z (vY h126)) z z<|pkt (vY h126) z<|nl<|?_
 cases H
 exact je ⟨z, z, z, tv⟩ hI117
 refine nK h126 H fun H=>Sk 2 z z (vN h126) z<|pkf (vN h126) z<|nl<|?_
 cases H
 exact je ⟨z, z, z, tv⟩ hI117
 refine mv z<|bK H fun v127 hC H=>js 3 hI124 [(6, int .i64 a19), (8, int .i64 a21), (65, bool v127)] ?_ fun _ wd130 hI131=>?_
 refine have H:=hC;dC (v120 = true) (fun h133=>?_) fun h133=>?_
 refine yK h133 H fun H=>mv (hw:=gY z z z (vY h133)) z<|q_geq (hw:=gY z z z (vY h133)) z z<|pkt (vY h133) z<|nl<|?_
 cases H
 exact je ⟨z, z, z, tv⟩ hI124
 refine nK h133 H fun H=>Sk 2 z z (vN h133) z<|pkf (vN h133) z<|nl<|?_
 cases H
 exact je ⟨z, z, z, tv⟩ hI124
 refine mv z<|bK H fun v134 hC H=>js 3 hI131 [(8, int .i64 a21), (69, bool v134)] ?_ fun _ wd137 hI138=>?_
 refine have H:=hC;dC (v127 = true) (fun h140=>?_) fun h140=>?_
 refine yK h140 H fun H=>mv (hw:=gY z z z (vY h140)) z<|q_leq (hw:=gY z z z (vY h140)) z z<|pkt (vY h140) z<|nl<|?_
 cases H
 exact je ⟨z, z, tv⟩ hI131
 refine nK h140 H fun H=>Sk 2 z z (vN h140) z<|pkf (vN h140) z<|nl<|?_
 cases H
 exact je ⟨z, z, tv⟩ hI131
 refine mv z<|bK H fun v141 hC H=>js 3 hI138 [(8, int .i64 a21), (73, bool v141)] ?_ fun _ wd144 hI145=>?_
 refine have H:=hC;dC (v134 = true) (fun h147=>?_) fun h147=>?_
 refine yK h147 H fun H=>mv (hw:=gY z z z (vY h147)) z<|q_geq (hw:=gY z z z (vY h147)) z z<|pkt (vY h147) z<|nl<|?_
 cases H
 exact je ⟨z, z, tv⟩ hI138
 refine nK h147 H fun H=>Sk 2 z z (vN h147) z<|pkf (vN h147) z<|nl<|?_
 cases H
 exact je ⟨z, z, tv⟩ hI138
 refine mv z<|bK H fun v148 hC H=>js 3 hI145 [(77, bool v148)] ?_ fun _ wd151 hI152=>?_
 refine have H:=hC;dC (v141 = true) (fun h154=>?_) fun h154=>?_
 refine yK h154 H fun H=>mv (hw:=gY z z z (vY h154)) z<|q_leq (hw:=gY z z z (vY h154)) z z<|pkt (vY h154) z<|nl<|?_
 cases H
 exact je ⟨z, tv⟩ hI145
 refine nK h154 H fun H=>Sk 2 z z (vN h154) z<|pkf (vN h154) z<|nl<|?_
 cases H
 exact je ⟨z, tv⟩ hI145
 refine asn z<|nl<|hK105 _ _ _<|wr<|have hI155:=Hp.pick 2 [] hI152 z;?_
 cases H
 exact rt ⟨_, _, z, z, z⟩ hI155
theorem formelaw21_usable_spec {a1 a10 a15 a16 a17 A2 c3 A6 c7 A11 c12 A18 c19 r1022 G L w} (H : formelaw21_usable a1 a10 a15 a16 a17 = some r1022) (hI : Hp G L w) (hl4 : a1.Glyphs.length ≤ c3) (hD5 : Dat k_api_Glyph G A2 a1.Glyphs) (hl8 : a1.Kerns.length ≤ c7) (hD9 : Dat k_api_Kern G A6 a1.Kerns) (hl13 : a10.Keep.length ≤ c12) (hD14 : Dat Kd.str G A11 a10.Keep) (hl20 : a17.length ≤ c19) (hD21 : Dat k_api_Float G A18 a17) :
    Calls Tryz.prog 15 [agg [slice A2 a1.Glyphs.length c3, slice A6 a1.Kerns.length c7].toArray, agg [int .i64 a10.Before, int .i64 a10.Behind, slice A11 a10.Keep.length c12].toArray, string a15, agg [int .i64 a16.Scale, int .i64 a16.Line, int .i64 a16.Align, int .i64 a16.Dir, int .i64 a16.Width, int .i64 a16.Y].toArray, slice A18 a17.length c19].toArray w fun e w' => Hp G L w' ∧ e = .returned (bool r1022) := by
 refine calls_intro (N := 34) Tryz.func15 z z (Nat.le_of_ble_eq_true z)<|?_
 unfold formelaw21_usable at H
 refine sr fun K22 hK23=>bxk hI z z fun g25 wd26 hI27=>bxk hI27 z z fun g29 wd30 hI31=>bxk hI31 z z fun g33 wd34 hI35=>asn z<|nl<|hK23 _ _ _<|sr fun K36 hK37=>lda hI35 2 ag25 z z z z<|mv z<|mv z<|bK H fun y43 hy38 H=>cv bo11 (formeref21_Few_spec hy38 hI35 hl4 hD5 hl8 hD9 hl20 hD21) z z fun wd41 hI42=>mv z<|?_
 refine bK H fun v44 hC H=>js 18 hI42 [(33, bool v44)] ?_ fun _ wd47 hI48=>?_
 refine have H:=hC;dC (y43 = true) (fun h50=>?_) fun h50=>?_
 refine yK h50 H fun H=>lda (hw:=gY z z z (vY h50)) hI42 2 ag25 z z z z<|lda (hw:=gY z z z (vY h50)) hI42 1 ag28 z z z z<|mv (hw:=gY z z z (vY h50)) z<|fa (hw:=gY z z z (vY h50)) fl30_0 z<|ld (hw:=gY z z z (vY h50)) hI42 0 ag3 z z z<|fa (hw:=gY z z z (vY h50)) fl30_1 z<|ld (hw:=gY z z z (vY h50)) hI42 0 ag3 z z z<|fa (hw:=gY z z z (vY h50)) fl30_2 z<|ld (hw:=gY z z z (vY h50)) hI42 0 ag3 z z z<|fa (hw:=gY z z z (vY h50)) fl30_3 z<|ld (hw:=gY z z z (vY h50)) hI42 0 ag3 z z z<|fa (hw:=gY z z z (vY h50)) fl30_4 z<|ld (hw:=gY z z z (vY h50)) hI42 0 ag3 z z z<|?_
 refine fa (hw:=gY z z z (vY h50)) fl30_5 z<|ld (hw:=gY z z z (vY h50)) hI42 0 ag3 z z z<|mv (hw:=gY z z z (vY h50)) z<|bK H fun y56 hy51 H=>cv (hw:=gY z z z (vY h50)) bo27 (formeref21_Args_spec hy51 hI42 hl4 hD5 hl8 hD9 hl13 hD14 hl20 hD21) z z fun wd54 hI55=>pkt (vY h50) z<|nl<|?_
 cases H
 exact je ⟨z, tv⟩ hI55
 refine nK h50 H fun H=>Sk 17 z z (vN h50) z<|pkf (vN h50) z<|nl<|?_
 cases H
 exact je ⟨z, tv⟩ hI42
 refine asn z<|nl<|hK37 _ _ _<|wr<|have hI57:=Hp.pick 3 [] hI48 z;?_
 cases H
 exact rt ⟨_, _, z, z, z⟩ hI57
end Go.Proofs.YtaemgcpcfnbmdaaGreatDoor.LG
