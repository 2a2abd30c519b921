/-
  The walks: each function computes its plain function: printed by a program out of the translation.
-/
import Derived.Test.YtoladeanenmepaaGreatDoorSa
set_option linter.unusedVariables false
set_option linter.unusedSimpArgs false
set_option maxRecDepth 100000
namespace Go.Proofs.YtoladeanenmepaaGreatDoor.LG
open Go Go.LG Go.RowKit Go.Value
set_option maxHeartbeats 20000000
open Go.Lib hiding add_plain
open Go.Shelf Go.Proofs
theorem formelaw41_RefsNumbers_spec {a1 a2 A3 c4 r1007 G L w} (H : formelaw41_RefsNumbers a1 a2 = some r1007) (hI : Hp G L w) (hl5 : a2.length ≤ c4) (hD6 : Dat k_api_Page G A3 a2) (hgl : Gl G) :
    Calls Tryz.prog 4 [string a1, slice A3 a2.length c4].toArray w fun e w' => Hp G L w' ∧ e = .returned (bool r1007) := by
 refine calls_intro (N := 138) Tryz.func4 z z (Nat.le_of_ble_eq_true z)<|?_
 unfold formelaw41_RefsNumbers at H
 refine sr fun K7 hK8=>asn z<|nl<|hK8 _ _ _<|sr fun K9 hK10=>bK H fun y16 hy11 H=>cv bo5 (formelaw41_head_spec hy11 hI (hgl.mono gR)) z z fun wd14 hI15=>asn z<|nl<|hK10 _ _ _<|sQ fun K17 hK18=>sr fun K19 hK20=>mv z<|q_lens so9 z<|?_
 refine q_gtr z z<|mv z<|bK H fun v21 hC H=>js 4 hI15 [(0, string a1), (1, slice A3 a2.length c4), (5, bool y16), (24, bool v21)] ?_ fun _ wd24 hI25=>?_
 refine have H:=hC;dC (300 < (a1.size : Int)) (fun h27=>?_) fun h27=>?_
 refine yK h27 H fun H=>Sk 3 z z (bY h27) z<|pkt (bY h27) z<|nl<|?_
 cases H
 exact je ⟨z, z, z, z, tv⟩ hI15
 refine nK h27 H fun H=>mv (hw:=gY z z z (bN h27)) z<|bK H fun y33 hy28 H=>cv (hw:=gY z z z (bN h27)) bo6 (formelaw41_few_spec hy28 hI15 hl5 hD6) z z fun wd31 hI32=>q_not (hw:=gY z z z (bN h27)) z<|pkf (bN h27) z<|nl<|?_
 cases H
 exact je ⟨z, z, z, z, tv⟩ hI32
 refine nl<|hK20 _ _ _<|dC (v21 = true) (fun h34=>?_) fun h34=>?_
 refine yK h34 H fun H=>wt (vY h34)<|sr fun K35 hK36=>mv z<|asn z<|nl<|hK36 _ _ _<|wr<|?_
 cases H
 exact rt ⟨_, _, z, z, z⟩ hI25
 refine nK h34 H fun H=>wf (vN h34)<|ws<|hK18 _ _ _<|sr fun K37 hK38=>mv z<|mv z<|bK2 H fun y44 y45 hy39 H=>cv bo8 (refs_Fill_spec hy39 hI25 hl5 hD6 (hgl.mono gR)) z z fun wd42 hI43=>mv z<|exk z z<|exk z z<|asn z<|asn z<|?_
 refine nl<|hK38 _ _ _<|sr fun K46 hK47=>mv z<|bK2 H fun y53 y60 hy48 H=>q_cv (vs := [string a1]) bo7 z z (refs_Refs_spec hy48 hI43 (hgl.mono gR))<|?_
 rintro _ wd51 ⟨A54, c55, G49, hG50, hI52, hl56, hD57, ho58, rfl⟩
 refine ⟨_, rfl, ?_⟩
 refine mv z<|exk z z<|exk z z<|asn z<|asn z<|nl<|hK47 _ _ _<|sQ fun K61 hK62=>sr fun K63 hK64=>mv z<|q_neq z z<|nl<|hK64 _ _ _<|dC (¬ y45 = 0) (fun h65=>?_) fun h65=>?_
 refine yK h65 H fun H=>wt (bY h65)<|sr fun K66 hK67=>mv z<|mv z<|bK H fun v68 hC H=>js 3 hI52 [(6, string y44), (43, bool v68)] ?_ fun _ wd71 hI72=>?_
 refine have H:=hC;dC (y16 = true) (fun h74=>?_) fun h74=>?_
 refine yK h74 H fun H=>mv (hw:=gY z z z (vY h74)) z<|q_eql (hw:=gY z z z (vY h74)) z z<|pkt (vY h74) z<|nl<|?_
 cases H
 exact je ⟨z, z, tv⟩ hI52
 refine nK h74 H fun H=>Sk 2 z z (vN h74) z<|pkf (vN h74) z<|nl<|?_
 cases H
 exact je ⟨z, z, tv⟩ hI52
 refine mv z<|bK H fun v75 hC H=>js 3 hI72 [(47, bool v75)] ?_ fun _ wd78 hI79=>?_
 refine have H:=hC;dC (v68 = true) (fun h81=>?_) fun h81=>?_
 refine yK h81 H fun H=>mv (hw:=gY z z z (vY h81)) z<|q_str_eql (hw:=gY z z z (vY h81)) z z<|pkt (vY h81) z<|nl<|?_
 cases H
 exact je ⟨z, tv⟩ hI72
 refine nK h81 H fun H=>Sk 2 z z (vN h81) z<|pkf (vN h81) z<|nl<|?_
 cases H
 exact je ⟨z, tv⟩ hI72
 refine asn z<|nl<|hK67 _ _ _<|wr<|have hI82:=Hp.pick 1 [] hI79 z;?_
 cases H
 exact rt ⟨_, _, z, z, z⟩ (Hp.low hG50 hI82)
 refine nK h65 H fun H=>wf (bN h65)<|ws<|hK62 _ _ _<|sQ fun K83 hK84=>sr fun K85 hK86=>mv z<|q_neq z z<|mv z<|bK H fun v87 hC H=>js 6 hI52 [(0, string a1), (1, slice A3 a2.length c4), (5, bool y16), (6, string y44), (8, slice A54 y53.length c55), (56, bool v87)] ?_ fun _ wd90 hI91=>?_
 refine have H:=hC;dC (¬ y60 = 0) (fun h93=>?_) fun h93=>?_
 refine yK h93 H fun H=>Sk 5 z z (bY h93) z<|pkt (bY h93) z<|nl<|?_
 cases H
 exact je ⟨z, z, z, z, z, z, tv⟩ hI52
 refine nK h93 H fun H=>mv (hw:=gY z z z (bN h93)) z<|q_lens (hw:=gY z z z (bN h93)) so9 z<|mv (hw:=gY z z z (bN h93)) z<|q_lens (hw:=gY z z z (bN h93)) so9 z<|q_gtr (hw:=gY z z z (bN h93)) z z<|pkf (bN h93) z<|nl<|?_
 cases H
 exact je ⟨z, z, z, z, z, z, tv⟩ hI52
 refine mv z<|bK H fun v94 hC H=>js 4 hI91 [(0, string a1), (1, slice A3 a2.length c4), (5, bool y16), (6, string y44), (8, slice A54 y53.length c55), (61, bool v94)] ?_ fun _ wd97 hI98=>?_
 refine have H:=hC;dC (v87 = true) (fun h100=>?_) fun h100=>?_
 refine yK h100 H fun H=>Sk 3 z z (vY h100) z<|pkt (vY h100) z<|nl<|?_
 cases H
 exact je ⟨z, z, z, z, z, z, tv⟩ hI91
 refine nK h100 H fun H=>mv (hw:=gY z z z (vN h100)) z<|bK H fun y106 hy101 H=>cv (hw:=gY z z z (vN h100)) bo10 (formeref06_Valid_spec hy101 hI91) z z fun wd104 hI105=>q_not (hw:=gY z z z (vN h100)) z<|pkf (vN h100) z<|nl<|?_
 cases H
 exact je ⟨z, z, z, z, z, z, tv⟩ hI105
 refine nl<|hK86 _ _ _<|dC (v94 = true) (fun h107=>?_) fun h107=>?_
 refine yK h107 H fun H=>wt (vY h107)<|sr fun K108 hK109=>asn z<|nl<|hK109 _ _ _<|wr<|have hI110:=Hp.pick 1 [] hI98 z;?_
 cases H
 exact rt ⟨_, _, z, z, z⟩ (Hp.low hG50 hI110)
 refine nK h107 H fun H=>wf (vN h107)<|ws<|hK84 _ _ _<|sr fun K111 hK112=>asn z<|asn z<|asn z<|nl<|hK112 _ _ _<|sQ fun K113 hK114=>wb<|bK2 H fun v130 v131 hC H=>wpc_mono (Q := fun e r ds w => e = .exit 0 ∧ ds = [] ∧ Has [(5, bool y16), (6, string y44), (8, slice A54 y53.length c55), (10, string v130), (12, int .i64 v131)] r ∧ Hp G49 (tk (slice A54 y53.length c55) 1 3 :: L) w ∧ True) ?_ ?_
 refine wpc_loop fun I hLp=>?_
 refine formelaw41_RefsNumbers_l129.partial_correctness a1 a2 y53 (fun v119 v120 v121 o => ∀ (r : Rg) (w : World), Has [(0, string a1), (1, slice A3 a2.length c4), (5, bool y16), (6, string y44), (8, slice A54 y53.length c55), (10, string v119), (11, int .i64 v120), (12, int .i64 v121)] r → Hp G49 (tk (slice A54 y53.length c55) 1 3 :: L) w → o = (v130, v131) → I r [] w) ?_ (⟨#[]⟩ : ByteArray) 0 0 _ hC _ _ ⟨rfl, rfl, rfl, rfl, rfl, rfl, rfl, rfl, tv⟩ hI98 rfl
 intro _ ih v119 v120 v121 o H r wd139 hHas hI140 ho
 rw [ho] at H; clear ho
 rw [hHas.eq]; clear hHas
 refine hLp _ _ _<|sQ fun K141 hK142=>sr fun K143 hK144=>mv z<|mv z<|q_lens so9 z<|q_lss z z<|nl<|hK144 _ _ _<|dC (v120 < (a1.size : Int)) (fun h145=>?_) fun h145=>?_
 refine yK h145 H fun H=>wt (bY h145)<|ws<|hK142 _ _ _<|wb<|sQ fun K146 hK147=>sr fun K148 hK149=>mv z<|mv z<|q_len so25 z<|q_lss z z<|nl<|hK149 _ _ _<|dC (v121 < (y53.length : Int)) (fun h150=>?_) fun h150=>?_
 refine yK h150 H fun H=>wt (bY h150)<|sr fun K151 hK152=>mv z<|mv z<|iK H fun⟨h153, h153'⟩H=>?_
 obtain ⟨ad154, cs155, hA156, hK157, hn158, hc159⟩ := Dat.get hD57 (0 : Int) (v121) h153 h153'
 obtain rfl := hK157
 refine q_ia el25 z hA156 z h153 h153'<|q_lf hI140 ag3 z (gR.cel _ _ (hc159 0 _ z))<|bK H fun y165 hy160 H=>cv bo11 (formeref04_Decimal_spec hy160 hI140) z z fun wd163 hI164=>iK H fun h166 H=>q_str_add z z h166<|iK H fun h167 H=>q_str_add z z h167<|asn z<|nl<|hK152 _ _ _<|sr fun K168 hK169=>mv z<|q_lens so9 z<|?_
 refine mv z<|q_sub z z<|mv z<|q_lens so9 z<|q_geq z z<|mv z<|bK H fun v170 hC H=>js 10 hI164 [(0, string a1), (1, slice A3 a2.length c4), (5, bool y16), (6, string y44), (8, slice A54 y53.length c55), (10, string v119), (11, int .i64 v120), (12, int .i64 v121), (13, string (((⟨#[64]⟩ : ByteArray) ++ y165) ++ (⟨#[64]⟩ : ByteArray))), (94, bool v170)] ?_ fun _ wd173 hI174=>?_
 refine have H:=hC;dC (((((⟨#[64]⟩ : ByteArray) ++ y165) ++ (⟨#[64]⟩ : ByteArray)).size : Int) ≤ (w64 ((a1.size : Int) - v120))) (fun h176=>?_) fun h176=>?_
 refine yK h176 H fun H=>mv (hw:=gY z z z (bY h176)) z<|mv (hw:=gY z z z (bY h176)) z<|mv (hw:=gY z z z (bY h176)) z<|mv (hw:=gY z z z (bY h176)) z<|q_lens (hw:=gY z z z (bY h176)) so9 z<|q_add (hw:=gY z z z (bY h176)) z z<|iK H fun⟨h177, h178, h179⟩H=>q_ss (hw:=gY z z z (bY h176)) (l := v120) (h := w64 (v120 + ((((⟨#[64]⟩ : ByteArray) ++ y165) ++ (⟨#[64]⟩ : ByteArray)).size : Int))) so9 z (.inr ⟨_, z, z⟩) (.inr ⟨_, z, z⟩) h177 h178 h179<|mv (hw:=gY z z z (bY h176)) z<|q_str_eql (hw:=gY z z z (bY h176)) z z<|pkt (bY h176) z<|nl<|?_
 cases H
 exact je ⟨z, z, z, z, z, z, z, z, z, z, tv⟩ hI164
 refine nK h176 H fun H=>Sk 9 z z (bN h176) z<|pkf (bN h176) z<|nl<|?_
 cases H
 exact je ⟨z, z, z, z, z, z, z, z, z, z, tv⟩ hI164
 refine nl<|hK169 _ _ _<|dC (v170 = true) (fun h180=>?_) fun h180=>?_
 refine yK h180 H fun H=>wt (vY h180)<|sr fun K181 hK182=>mv z<|mv z<|mv z<|iK H fun⟨h183, h183'⟩H=>?_
 obtain ⟨ad184, cs185, hA186, hK187, hn188, hc189⟩ := Dat.get hD57 (0 : Int) (v121) h183 h183'
 obtain rfl := hK187
 refine q_ia el25 z hA186 z h183 h183'<|q_lf hI174 ag3 z (gR.cel _ _ (hc189 0 _ z))<|bK2 H fun y195 y196 hy190 H=>cv bo12 (pages_Find_spec hy190 hI174 hl5 (Dat.mono hG50 hD6)) z z fun wd193 hI194=>mv z<|exk z z<|exk z z<|asn z<|asn z<|nl<|hK182 _ _ _<|sQ fun K197 hK198=>sr fun K199 hK200=>mv z<|?_
 refine nl<|hK200 _ _ _<|dC (y196 = true) (fun h201=>?_) fun h201=>?_
 refine yK h201 H fun H=>wt (vY h201)<|wpc_region<|mv z<|mv z<|bK H fun y207 hy202 H=>cv bo11 (formeref04_Decimal_spec hy202 hI194) z z fun wd205 hI206=>iK H fun h208 H=>q_str_add z z h208<|asn z<|nl<|hK198 _ _ _<|sr fun K209 hK210=>mv z<|?_
 exact mv z<|q_lens so9 z<|q_add z z<|mv z<|q_add z z<|asn z<|asn z<|nl<|hK210 _ _ _<|wx<|ih _ _ _ _ H _ _ ⟨z, z, z, z, z, z, z, z, tv⟩ hI206 z
 refine nK h201 H fun H=>wf (vN h201)<|wpc_region<|mv z<|iK H fun h211 H=>q_str_add z z h211<|asn z<|nl<|hK198 _ _ _<|sr fun K212 hK213=>mv z<|mv z<|q_lens so9 z<|q_add z z<|?_
 exact mv z<|q_add z z<|asn z<|asn z<|nl<|hK213 _ _ _<|wx<|ih _ _ _ _ H _ _ ⟨z, z, z, z, z, z, z, z, tv⟩ hI194 z
 refine nK h180 H fun H=>wf (vN h180)<|ws<|hK147 _ _ _<|sr fun K214 hK215=>mv z<|mv z<|mv z<|mv z<|q_add z z<|iK H fun⟨h216, h217, h218⟩H=>q_ss (l := v120) (h := w64 (v120 + 1)) so9 z (.inr ⟨_, z, z⟩) (.inr ⟨_, z, z⟩) h216 h217 h218<|iK H fun h219 H=>q_str_add z z h219<|?_
 exact asn z<|nl<|hK215 _ _ _<|wpc_region<|mv z<|q_add z z<|asn z<|nl<|ih _ _ _ _ H _ _ ⟨z, z, z, z, z, z, z, z, tv⟩ hI174 z
 refine nK h150 H fun H=>wf (bN h150)<|ws<|hK147 _ _ _<|sr fun K220 hK221=>mv z<|mv z<|mv z<|mv z<|q_add z z<|iK H fun⟨h222, h223, h224⟩H=>q_ss (l := v120) (h := w64 (v120 + 1)) so9 z (.inr ⟨_, z, z⟩) (.inr ⟨_, z, z⟩) h222 h223 h224<|iK H fun h225 H=>q_str_add z z h225<|?_
 exact asn z<|nl<|hK221 _ _ _<|wpc_region<|mv z<|q_add z z<|asn z<|nl<|ih _ _ _ _ H _ _ ⟨z, z, z, z, z, z, z, z, tv⟩ hI140 z
 refine nK h145 H fun H=>wf (bN h145)<|wx<|?_
 cases H
 exact ⟨z, z, ⟨z, z, z, z, z, tv⟩, hI140, tv⟩
 rintro e r ds wd134 ⟨rfl, rfl, hHas, hI135, _⟩
 rw [hHas.eq]; clear hHas
 refine hK114 _ _ _<|sr fun K226 hK227=>mv z<|mv z<|bK H fun v228 hC H=>js 5 hI135 [(6, string y44), (10, string v130), (132, bool v228)] ?_ fun _ wd231 hI232=>?_
 refine have H:=hC;dC (y16 = true) (fun h234=>?_) fun h234=>?_
 refine yK h234 H fun H=>mv (hw:=gY z z z (vY h234)) z<|mv (hw:=gY z z z (vY h234)) z<|q_len (hw:=gY z z z (vY h234)) so25 z<|q_eql (hw:=gY z z z (vY h234)) z z<|pkt (vY h234) z<|nl<|?_
 cases H
 exact je ⟨z, z, z, tv⟩ hI135
 refine nK h234 H fun H=>Sk 4 z z (vN h234) z<|pkf (vN h234) z<|nl<|?_
 cases H
 exact je ⟨z, z, z, tv⟩ hI135
 refine mv z<|bK H fun v235 hC H=>js 4 hI232 [(137, bool v235)] ?_ fun _ wd238 hI239=>?_
 refine have H:=hC;dC (v228 = true) (fun h241=>?_) fun h241=>?_
 refine yK h241 H fun H=>mv (hw:=gY z z z (vY h241)) z<|mv (hw:=gY z z z (vY h241)) z<|q_str_eql (hw:=gY z z z (vY h241)) z z<|pkt (vY h241) z<|nl<|?_
 cases H
 exact je ⟨z, tv⟩ hI232
 refine nK h241 H fun H=>Sk 3 z z (vN h241) z<|pkf (vN h241) z<|nl<|?_
 cases H
 exact je ⟨z, tv⟩ hI232
 refine asn z<|nl<|hK227 _ _ _<|wr<|have hI242:=Hp.pick 1 [] hI239 z;?_
 cases H
 exact rt ⟨_, _, z, z, z⟩ (Hp.low hG50 hI242)
end Go.Proofs.YtoladeanenmepaaGreatDoor.LG
