/-
  The walks: each function computes its plain function: printed by a program out of the translation.
-/
import Derived.Test.YtokeiiakkfdmgaaGreatDoorSc
set_option linter.unusedVariables false
set_option linter.unusedSimpArgs false
set_option maxRecDepth 100000
namespace Go.Proofs.YtokeiiakkfdmgaaGreatDoor.LG
open Go Go.LG Go.RowKit Go.Value
open Go.Lib Go.Shelf Go.Proofs
set_option maxHeartbeats 1000000 in
theorem formelaw17_InlineOne_spec {a1 : api_Font} {a10 : api_Breaks} {a15 : ByteArray} {a16 : Int} {a17 : Int} {A2 : Option Addr} {c3 : Nat} {A6 : Option Addr} {c7 : Nat} {A11 : Option Addr} {c12 : Nat} {r1018 : Bool} {G : Gh} {L : List Itm} {w : World} (H : formelaw17_InlineOne a1 a10 a15 a16 a17 = some r1018) (hI : Hp G (L) w) (hl4 : a1.Glyphs.length ≤ c3) (hD5 : Dat k_api_Glyph G A2 a1.Glyphs) (hl8 : a1.Kerns.length ≤ c7) (hD9 : Dat k_api_Kern G A6 a1.Kerns) (hl13 : a10.Keep.length ≤ c12) (hD14 : Dat Kd.str G A11 a10.Keep) (hgl : Gl G) :
    Calls Tryz.prog 7 [agg [slice A2 a1.Glyphs.length c3, slice A6 a1.Kerns.length c7].toArray, agg [int .i64 a10.Before, int .i64 a10.Behind, slice A11 a10.Keep.length c12].toArray, string a15, int .i64 a16, int .u16 a17].toArray w fun e w' => Hp G (L) w' ∧ e = .returned (bool r1018) := by
 refine calls_intro (N := 94) Tryz.func7 z z (Nat.le_of_ble_eq_true z)<|?_
 unfold formelaw17_InlineOne at H
 refine sr fun K18 hK19=>bxk hI z z fun g21 wd22 hI23=>bxk hI23 z z fun g25 wd26 hI27=>asn z<|nl<|hK19 _ _ _<|sr fun K28 hK29=>bK H fun y35 hy30 H=>cv bo9 (formelaw17_head_spec hy30 hI27 (hgl.mono gR)) z z fun wd33 hI34=>asn z<|nl<|hK29 _ _ _<|sQ fun K36 hK37=>sr fun K38 hK39=>?_
 refine lda hI34 1 ag25 z z z z<|lda hI34 0 ag28 z z z z<|mv z<|mv z<|bK H fun y45 hy40 H=>cv bo18 (formelaw17_usable_spec hy40 hI34 hl4 hD5 hl8 hD9 hl13 hD14) z z fun wd43 hI44=>q_not z<|nl<|hK39 _ _ _<|dC ((!y45) = true) (fun h46=>?_) fun h46=>?_
 refine yK h46 H fun H=>wt (vY h46)<|sr fun K47 hK48=>mv z<|asn z<|nl<|hK48 _ _ _<|wr<|have hI49:=Hp.sub hI44 (sd (sd se));?_
 cases H
 exact rt ⟨_, _, z, z, z⟩ hI49
 refine nK h46 H fun H=>wf (vN h46)<|ws<|hK37 _ _ _<|sQ fun K50 hK51=>?_
 refine wpc_class hI44 mixo (by kernel_rfl) ?_
 refine wq' (fun Gq w hGq Iq=>lda Iq 1 ag25 z z z z wqd) z z<|wq' (fun Gq w hGq Iq=>mv z wqd) z z<|wq' (fun Gq w hGq Iq=>mv z wqd) z z<|wq' (fun Gq w hGq Iq=>q_lens so9 z wqd) z z<|bK H fun y58 hy57 H=>wk (vs := [string a15, int .i64 0, int .i64 (a15.size : Int), bool false]) (v := string y58) bo22 z z (fun Gq w hGq Iq => ?_) ?_
 refine Calls.mono (formeref08_Part_spec hy57 Iq)<|?_
 rintro _ w2 ⟨I2, rfl⟩
 exact ⟨z, _, hGq, I2⟩
 refine wq' (fun Gq w hGq Iq=>mv z wqd) z z<|bK2 H fun y60 y61 hy59 H=>wk (vs := [agg [slice A2 a1.Glyphs.length c3, slice A6 a1.Kerns.length c7].toArray, string y58, int .i64 a16]) (v := tuple [int .i64 y60, int .i64 y61].toArray) bo21 z z (fun Gq w hGq Iq => ?_) ?_
 refine Calls.mono (font_Width_spec hy59 Iq hl4 (Dat.mono hGq hD5) hl8 (Dat.mono hGq hD9))<|?_
 rintro _ w2 ⟨I2, rfl⟩
 exact ⟨z, _, hGq, I2⟩
 refine wq' (fun Gq w hGq Iq=>mv z wqd) z z<|wq' (fun Gq w hGq Iq=>exk z z wqd) z z<|wq' (fun Gq w hGq Iq=>exk z z wqd) z z<|wq' (fun Gq w hGq Iq=>asn z wqd) z z<|wq' (fun Gq w hGq Iq=>asn z wqd) z z<|wz fun wd55 G53 hG54 hI56=>hK51 _ _ _<|sr fun K62 hK63=>mv z<|bK2 H fun y69 y70 hy64 H=>cv bo20 (text_Words_spec hy64 hI56) z z fun wd67 hI68=>mv z<|exk z z<|exk z z<|?_
 refine asn z<|asn z<|nl<|hK63 _ _ _<|sQ fun K71 hK72=>sr fun K73 hK74=>mv z<|q_neq z z<|mv z<|bK H fun v75 hC H=>?_
 refine wpq_split 3 (K := fun e r ds w => e = .normal ∧ ds = [] ∧ Has [(2, string a15), (3, int .i64 a16), (4, int .u16 a17), (5, pointer (some ⟨g21, 0, none⟩)), (6, pointer (some ⟨g25, 0, none⟩)), (11, bool y35), (12, int .i64 y60), (13, int .i64 y61), (14, int .i64 y69), (15, int .i64 y70), (46, bool v75)] r ∧ Hp G53 (bx g25 [int .i64 a10.Before, int .i64 a10.Behind, slice A11 a10.Keep.length c12] 28 :: bx g21 [slice A2 a1.Glyphs.length c3, slice A6 a1.Kerns.length c7] 25 :: L) w ∧ True) ?_ ?_
 refine have H:=hC;dC (¬ y61 = 0) (fun h81=>?_) fun h81=>?_
 refine yK h81 H fun H=>Sk 2 z z (bY h81) z<|pkt (bY h81) z<|nl<|?_
 cases H
 exact ⟨z, z, ⟨z, z, z, z, z, z, z, z, z, z, z, trivial⟩, hI68, trivial⟩
 refine nK h81 H fun H=>mv (hw:=gY z z z (bN h81)) z<|q_neq (hw:=gY z z z (bN h81)) z z<|pkf (bN h81) z<|nl<|?_
 cases H
 exact ⟨z, z, ⟨z, z, z, z, z, z, z, z, z, z, z, trivial⟩, hI68, trivial⟩
 rintro e r ds wd78 ⟨rfl, rfl, hHas, hI79, _⟩
 rw [hHas.eq]; clear hHas
 refine nl<|hK74 _ _ _<|dC (v75 = true) (fun h82=>?_) fun h82=>?_
 refine yK h82 H fun H=>wt (vY h82)<|sr fun K83 hK84=>mv z<|mv z<|bK H fun v85 hC H=>wpq_split 3 (K := fun e r ds w => e = .normal ∧ ds = [] ∧ Has [(13, int .i64 y61), (51, bool v85)] r ∧ Hp G53 (bx g25 [int .i64 a10.Before, int .i64 a10.Behind, slice A11 a10.Keep.length c12] 28 :: bx g21 [slice A2 a1.Glyphs.length c3, slice A6 a1.Kerns.length c7] 25 :: L) w ∧ True) ?_ ?_
 refine have H:=hC;dC (y35 = true) (fun h91=>?_) fun h91=>?_
 refine yK h91 H fun H=>mv (hw:=gY z z z (vY h91)) z<|q_eql (hw:=gY z z z (vY h91)) z z<|pkt (vY h91) z<|nl<|?_
 cases H
 exact ⟨z, z, ⟨z, z, trivial⟩, hI79, trivial⟩
 refine nK h91 H fun H=>Sk 2 z z (vN h91) z<|pkf (vN h91) z<|nl<|?_
 cases H
 exact ⟨z, z, ⟨z, z, trivial⟩, hI79, trivial⟩
 rintro e r ds wd88 ⟨rfl, rfl, hHas, hI89, _⟩
 rw [hHas.eq]; clear hHas
 refine mv z<|bK H fun v92 hC H=>wpq_split 3 (K := fun e r ds w => e = .normal ∧ ds = [] ∧ Has [(55, bool v92)] r ∧ Hp G53 (bx g25 [int .i64 a10.Before, int .i64 a10.Behind, slice A11 a10.Keep.length c12] 28 :: bx g21 [slice A2 a1.Glyphs.length c3, slice A6 a1.Kerns.length c7] 25 :: L) w ∧ True) ?_ ?_
 refine have H:=hC;dC (v85 = true) (fun h98=>?_) fun h98=>?_
 refine yK h98 H fun H=>mv (hw:=gY z z z (vY h98)) z<|q_eql (hw:=gY z z z (vY h98)) z z<|pkt (vY h98) z<|nl<|?_
 cases H
 exact ⟨z, z, ⟨z, trivial⟩, hI89, trivial⟩
 refine nK h98 H fun H=>Sk 2 z z (vN h98) z<|pkf (vN h98) z<|nl<|?_
 cases H
 exact ⟨z, z, ⟨z, trivial⟩, hI89, trivial⟩
 rintro e r ds wd95 ⟨rfl, rfl, hHas, hI96, _⟩
 rw [hHas.eq]; clear hHas
 refine asn z<|nl<|hK84 _ _ _<|wr<|have hI99:=Hp.sub hI96 (sd (sd se));?_
 cases H
 exact rt ⟨_, _, z, z, z⟩ (Hp.low hG54 hI99)
 refine nK h82 H fun H=>wf (vN h82)<|ws<|hK72 _ _ _<|sr fun K100 hK101=>lda hI79 1 ag25 z z z z<|lda hI79 0 ag28 z z z z<|mv z<|mv z<|mv z<|mv z<|q_cvi ik57 ik3 z<|q_add z z<|?_
 refine q_bs hI79 (vs := [(0, int .i64 (w64 (y60 + (w64 (a17))))), (1, int .i64 0)]) (cs := [int .i64 (w64 (y60 + (w64 (a17)))), int .i64 0]) el29 ze3 rfl (by decide) rfl rfl (fun g103 wd104 hI105 => ?_)
 obtain ⟨G106, hG107, hI109, hD108⟩ := Hp.publish (xs := ([w64 (y60 + (w64 (a17))), 0] : List Int)) (n := 2) (Kd.int .i64) hI105 ⟨[int .i64 (w64 (y60 + (w64 (a17))))], _, rfl, rfl, ⟨[int .i64 0], _, rfl, rfl, rfl⟩⟩ rfl
 refine bK2 H fun y115 y122 hy110 H=>q_cv (vs := [agg [slice A2 a1.Glyphs.length c3, slice A6 a1.Kerns.length c7].toArray, agg [int .i64 a10.Before, int .i64 a10.Behind, slice A11 a10.Keep.length c12].toArray, string a15, int .i64 a16, slice (some ⟨g103, 0, none⟩) ([w64 (y60 + (w64 (a17))), 0] : List Int).length 2]) bo13 z z (inline_Lines_spec (a17 := ([w64 (y60 + (w64 (a17))), 0] : List Int)) hy110 hI109 hl4 (Dat.mono (gT hG54 hG107) hD5) hl8 (Dat.mono (gT hG54 hG107) hD9) hl13 (Dat.mono (gT hG54 hG107) hD14) (show ([w64 (y60 + (w64 (a17))), 0] : List Int).length ≤ 2 from Nat.le_of_ble_eq_true z) hD108 (hgl.mono (gT hG54 hG107)))<|?_
 rintro _ wd113 ⟨A116, c117, G111, hG112, hI114, hl118, hD119, ho120, rfl⟩
 refine ⟨_, rfl, ?_⟩
 refine mv z<|exk z z<|exk z z<|asn z<|asn z<|nl<|hK101 _ _ _<|sQ fun K123 hK124=>sr fun K125 hK126=>mv z<|q_neq z z<|nl<|hK126 _ _ _<|dC (¬ y122 = 0) (fun h127=>?_) fun h127=>?_
 refine yK h127 H fun H=>wt (bY h127)<|sr fun K128 hK129=>mv z<|mv z<|bK H fun v130 hC H=>?_
 refine wpq_split 3 (K := fun e r ds w => e = .normal ∧ ds = [] ∧ Has [(75, bool v130)] r ∧ Hp G111 (bx g25 [int .i64 a10.Before, int .i64 a10.Behind, slice A11 a10.Keep.length c12] 28 :: bx g21 [slice A2 a1.Glyphs.length c3, slice A6 a1.Kerns.length c7] 25 :: tk (slice A116 y115.length c117) 4 31 :: tk (slice (some ⟨g103, 0, none⟩) ([w64 (y60 + (w64 (a17))), 0] : List Int).length 2) 1 3 :: L) w ∧ True) ?_ ?_
 refine have H:=hC;dC (y35 = true) (fun h136=>?_) fun h136=>?_
 refine yK h136 H fun H=>mv (hw:=gY z z z (vY h136)) z<|q_eql (hw:=gY z z z (vY h136)) z z<|pkt (vY h136) z<|nl<|have hI137:=Hp.front hI114 1 z;have hI138:=Hp.front hI137 1 z;have hI139:=Hp.front hI138 3 z;have hI140:=Hp.front hI139 3 z;?_
 cases H
 exact ⟨z, z, ⟨z, trivial⟩, hI140, trivial⟩
 refine nK h136 H fun H=>Sk 2 z z (vN h136) z<|pkf (vN h136) z<|nl<|have hI141:=Hp.front hI114 1 z;have hI142:=Hp.front hI141 1 z;have hI143:=Hp.front hI142 3 z;have hI144:=Hp.front hI143 3 z;?_
 cases H
 exact ⟨z, z, ⟨z, trivial⟩, hI144, trivial⟩
 rintro e r ds wd133 ⟨rfl, rfl, hHas, hI134, _⟩
 rw [hHas.eq]; clear hHas
 refine asn z<|nl<|hK129 _ _ _<|wr<|have hI145:=Hp.sub hI134 (sd (sd (sd (sd se))));?_
 cases H
 exact rt ⟨_, _, z, z, z⟩ (Hp.low (gT (gT hG54 hG107) hG112) hI145)
 refine nK h127 H fun H=>wf (bN h127)<|ws<|hK124 _ _ _<|sQ fun K146 hK147=>sr fun K148 hK149=>mv z<|q_eql z z<|nl<|hK149 _ _ _<|dC (y69 = 0) (fun h150=>?_) fun h150=>?_
 refine yK h150 H fun H=>wt (bY h150)<|sr fun K151 hK152=>mv z<|mv z<|bK H fun v153 hC H=>?_
 refine wpq_split 4 (K := fun e r ds w => e = .normal ∧ ds = [] ∧ Has [(83, bool v153)] r ∧ Hp G111 (bx g25 [int .i64 a10.Before, int .i64 a10.Behind, slice A11 a10.Keep.length c12] 28 :: bx g21 [slice A2 a1.Glyphs.length c3, slice A6 a1.Kerns.length c7] 25 :: tk (slice A116 y115.length c117) 4 31 :: tk (slice (some ⟨g103, 0, none⟩) ([w64 (y60 + (w64 (a17))), 0] : List Int).length 2) 1 3 :: L) w ∧ True) ?_ ?_
 refine have H:=hC;dC (y35 = true) (fun h159=>?_) fun h159=>?_
 refine yK h159 H fun H=>mv (hw:=gY z z z (vY h159)) z<|q_len (hw:=gY z z z (vY h159)) so37 z<|q_eql (hw:=gY z z z (vY h159)) z z<|pkt (vY h159) z<|nl<|have hI160:=Hp.front hI114 1 z;have hI161:=Hp.front hI160 1 z;have hI162:=Hp.front hI161 3 z;have hI163:=Hp.front hI162 3 z;?_
 cases H
 exact ⟨z, z, ⟨z, trivial⟩, hI163, trivial⟩
 refine nK h159 H fun H=>Sk 3 z z (vN h159) z<|pkf (vN h159) z<|nl<|have hI164:=Hp.front hI114 1 z;have hI165:=Hp.front hI164 1 z;have hI166:=Hp.front hI165 3 z;have hI167:=Hp.front hI166 3 z;?_
 cases H
 exact ⟨z, z, ⟨z, trivial⟩, hI167, trivial⟩
 rintro e r ds wd156 ⟨rfl, rfl, hHas, hI157, _⟩
 rw [hHas.eq]; clear hHas
 refine asn z<|nl<|hK152 _ _ _<|wr<|have hI168:=Hp.sub hI157 (sd (sd (sd (sd se))));?_
 cases H
 exact rt ⟨_, _, z, z, z⟩ (Hp.low (gT (gT hG54 hG107) hG112) hI168)
 refine nK h150 H fun H=>wf (bN h150)<|ws<|hK147 _ _ _<|sr fun K169 hK170=>mv z<|mv z<|bK H fun v171 hC H=>?_
 refine wpq_split 8 (K := fun e r ds w => e = .normal ∧ ds = [] ∧ Has [(93, bool v171)] r ∧ Hp G111 (bx g25 [int .i64 a10.Before, int .i64 a10.Behind, slice A11 a10.Keep.length c12] 28 :: bx g21 [slice A2 a1.Glyphs.length c3, slice A6 a1.Kerns.length c7] 25 :: tk (slice A116 y115.length c117) 4 31 :: tk (slice (some ⟨g103, 0, none⟩) ([w64 (y60 + (w64 (a17))), 0] : List Int).length 2) 1 3 :: L) w ∧ True) ?_ ?_
 refine have H:=hC;dC (y35 = true) (fun h177=>?_) fun h177=>?_
 refine yK h177 H fun H=>mv (hw:=gY z z z (vY h177)) z<|mv (hw:=gY z z z (vY h177)) z<|q_lens (hw:=gY z z z (vY h177)) so9 z<|mv (hw:=gY z z z (vY h177)) z<|q_build (hw:=gY z z z (vY h177)) (vs := [(1, int .i64 (a15.size : Int)), (2, int .i64 y60)]) (cs := [int .i64 0, int .i64 (a15.size : Int), int .i64 y60, bool false]) ze31 pl31 z z<|?_
 refine q_bs hI114 (vs := [(0, agg [int .i64 0, int .i64 (a15.size : Int), int .i64 y60, bool false].toArray)]) (cs := [int .i64 0, int .i64 (a15.size : Int), int .i64 y60, bool false]) el37 ze31 rfl (by decide) rfl rfl (fun g179 wd180 hI181 => ?_) (hw := gY rfl rfl rfl (bval_yes h177))
 obtain ⟨G182, hG183, hI185, hD184⟩ := Hp.publish (xs := ([(⟨0, (a15.size : Int), y60, false⟩ : api_Line)] : List api_Line)) (n := 1) k_api_Line hI181 ⟨[int .i64 0, int .i64 (a15.size : Int), int .i64 y60, bool false], _, rfl, (mk_api_Line (x := (⟨0, (a15.size : Int), y60, false⟩ : api_Line))), rfl⟩ rfl
 refine bK H fun y191 hy186 H=>cv (hw:=gY z z z (vY h177)) bo15 (formeref17_Same_spec (a6 := ([(⟨0, (a15.size : Int), y60, false⟩ : api_Line)] : List api_Line)) hy186 hI185 hl118 (Dat.mono hG183 hD119) (show ([(⟨0, (a15.size : Int), y60, false⟩ : api_Line)] : List api_Line).length ≤ 1 from Nat.le_of_ble_eq_true z) hD184) z z fun wd189 hI190=>pkt (vY h177) z<|nl<|have hI192:=Hp.front hI190 2 z;have hI193:=Hp.front hI192 2 z;have hI194:=Hp.front hI193 4 z;have hI195:=Hp.front hI194 4 z;have hI196:=Hp.sub hI195 (sk (sk (sk (sk (sd se)))));?_
 cases H
 exact ⟨z, z, ⟨z, trivial⟩, (Hp.low hG183 hI196), trivial⟩
 refine nK h177 H fun H=>Sk 7 z z (vN h177) z<|pkf (vN h177) z<|nl<|have hI197:=Hp.front hI114 1 z;have hI198:=Hp.front hI197 1 z;have hI199:=Hp.front hI198 3 z;have hI200:=Hp.front hI199 3 z;?_
 cases H
 exact ⟨z, z, ⟨z, trivial⟩, hI200, trivial⟩
 rintro e r ds wd174 ⟨rfl, rfl, hHas, hI175, _⟩
 rw [hHas.eq]; clear hHas
 refine asn z<|nl<|hK170 _ _ _<|wr<|have hI201:=Hp.sub hI175 (sd (sd (sd (sd se))));?_
 cases H
 exact rt ⟨_, _, z, z, z⟩ (Hp.low (gT (gT hG54 hG107) hG112) hI201)
end Go.Proofs.YtokeiiakkfdmgaaGreatDoor.LG
