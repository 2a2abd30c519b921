/-
  The walks: each function computes its plain function: printed by a program out of the translation.
-/
import Derived.Test.YtokeiiakkfdmgaaGreatDoorSc
set_option linter.unusedVariables false
set_option linter.unusedSimpArgs false
set_option maxRecDepth 100000
namespace Go.Proofs.YtokeiiakkfdmgaaGreatDoor.LG
open Go Go.LG Go.RowKit Go.Value
open Go.Lib Go.Shelf Go.Proofs
set_option maxHeartbeats 1000000 in
theorem formelaw17_InlinePlaces_spec {a1 : api_Font} {a10 : api_Breaks} {a15 : ByteArray} {a16 : Int} {a17 : Int} {a18 : Int} {A2 : Option Addr} {c3 : Nat} {A6 : Option Addr} {c7 : Nat} {A11 : Option Addr} {c12 : Nat} {r1019 : Bool} {G : Gh} {L : List Itm} {w : World} (H : formelaw17_InlinePlaces a1 a10 a15 a16 a17 a18 = some r1019) (hI : Hp G (L) w) (hl4 : a1.Glyphs.length ≤ c3) (hD5 : Dat k_api_Glyph G A2 a1.Glyphs) (hl8 : a1.Kerns.length ≤ c7) (hD9 : Dat k_api_Kern G A6 a1.Kerns) (hl13 : a10.Keep.length ≤ c12) (hD14 : Dat Kd.str G A11 a10.Keep) (hgl : Gl G) :
    Calls Tryz.prog 8 [agg [slice A2 a1.Glyphs.length c3, slice A6 a1.Kerns.length c7].toArray, agg [int .i64 a10.Before, int .i64 a10.Behind, slice A11 a10.Keep.length c12].toArray, string a15, int .i64 a16, int .i64 a17, int .i64 a18].toArray w fun e w' => Hp G (L) w' ∧ e = .returned (bool r1019) := by
 refine calls_intro (N := 235) Tryz.func8 z z (Nat.le_of_ble_eq_true z)<|?_
 unfold formelaw17_InlinePlaces at H
 refine sr fun K19 hK20=>bxk hI z z fun g22 wd23 hI24=>bxk hI24 z z fun g26 wd27 hI28=>asn z<|nl<|hK20 _ _ _<|sr fun K29 hK30=>bK H fun y36 hy31 H=>cv bo9 (formelaw17_head_spec hy31 hI28 (hgl.mono gR)) z z fun wd34 hI35=>asn z<|nl<|hK30 _ _ _<|sQ fun K37 hK38=>sr fun K39 hK40=>?_
 refine lda hI35 1 ag25 z z z z<|lda hI35 0 ag28 z z z z<|mv z<|mv z<|bK H fun y46 hy41 H=>cv bo18 (formelaw17_usable_spec hy41 hI35 hl4 hD5 hl8 hD9 hl13 hD14) z z fun wd44 hI45=>q_not z<|mv z<|bK H fun v47 hC H=>?_
 refine wpq_split 3 (K := fun e r ds w => e = .normal ∧ ds = [] ∧ Has [(2, string a15), (3, int .i64 a16), (4, int .i64 a17), (5, int .i64 a18), (6, pointer (some ⟨g22, 0, none⟩)), (7, pointer (some ⟨g26, 0, none⟩)), (13, bool y36), (37, bool v47)] r ∧ Hp G (bx g26 [int .i64 a10.Before, int .i64 a10.Behind, slice A11 a10.Keep.length c12] 28 :: bx g22 [slice A2 a1.Glyphs.length c3, slice A6 a1.Kerns.length c7] 25 :: L) w ∧ True) ?_ ?_
 refine have H:=hC;dC ((!y46) = true) (fun h53=>?_) fun h53=>?_
 refine yK h53 H fun H=>Sk 2 z z (vY h53) z<|pkt (vY h53) z<|nl<|?_
 cases H
 exact ⟨z, z, ⟨z, z, z, z, z, z, z, z, trivial⟩, hI45, trivial⟩
 refine nK h53 H fun H=>mv (hw:=gY z z z (vN h53)) z<|q_lss (hw:=gY z z z (vN h53)) z z<|pkf (vN h53) z<|nl<|?_
 cases H
 exact ⟨z, z, ⟨z, z, z, z, z, z, z, z, trivial⟩, hI45, trivial⟩
 rintro e r ds wd50 ⟨rfl, rfl, hHas, hI51, _⟩
 rw [hHas.eq]; clear hHas
 refine mv z<|bK H fun v54 hC H=>?_
 refine wpq_split 3 (K := fun e r ds w => e = .normal ∧ ds = [] ∧ Has [(2, string a15), (3, int .i64 a16), (4, int .i64 a17), (5, int .i64 a18), (6, pointer (some ⟨g22, 0, none⟩)), (7, pointer (some ⟨g26, 0, none⟩)), (13, bool y36), (41, bool v54)] r ∧ Hp G (bx g26 [int .i64 a10.Before, int .i64 a10.Behind, slice A11 a10.Keep.length c12] 28 :: bx g22 [slice A2 a1.Glyphs.length c3, slice A6 a1.Kerns.length c7] 25 :: L) w ∧ True) ?_ ?_
 refine have H:=hC;dC (v47 = true) (fun h60=>?_) fun h60=>?_
 refine yK h60 H fun H=>Sk 2 z z (vY h60) z<|pkt (vY h60) z<|nl<|?_
 cases H
 exact ⟨z, z, ⟨z, z, z, z, z, z, z, z, trivial⟩, hI51, trivial⟩
 refine nK h60 H fun H=>mv (hw:=gY z z z (vN h60)) z<|q_gtr (hw:=gY z z z (vN h60)) z z<|pkf (vN h60) z<|nl<|?_
 cases H
 exact ⟨z, z, ⟨z, z, z, z, z, z, z, z, trivial⟩, hI51, trivial⟩
 rintro e r ds wd57 ⟨rfl, rfl, hHas, hI58, _⟩
 rw [hHas.eq]; clear hHas
 refine nl<|hK40 _ _ _<|dC (v54 = true) (fun h61=>?_) fun h61=>?_
 refine yK h61 H fun H=>wt (vY h61)<|sr fun K62 hK63=>mv z<|asn z<|nl<|hK63 _ _ _<|wr<|have hI64:=Hp.sub hI58 (sd (sd se));?_
 cases H
 exact rt ⟨_, _, z, z, z⟩ hI64
 refine nK h61 H fun H=>wf (vN h61)<|ws<|hK38 _ _ _<|sr fun K65 hK66=>lda hI58 1 ag25 z z z z<|lda hI58 0 ag28 z z z z<|mv z<|mv z<|mv z<|mv z<|bK2 H fun y72 y73 hy67 H=>cv bo11 (inline_Next_spec hy67 hI58 hl4 hD5 hl8 hD9 hl13 hD14 (hgl.mono gR)) z z fun wd70 hI71=>mv z<|?_
 refine exk z z<|exk z z<|q_alloc hI71 ze31 fun g75 wd76 hI77=>stk hI77 0 ag31 z z z z z z z fun wd78 hI79=>asn z<|nl<|hK66 _ _ _<|sQ fun K80 hK81=>sr fun K82 hK83=>mv z<|q_neq z z<|mv z<|bK H fun v84 hC H=>?_
 refine wpq_split 4 (K := fun e r ds w => e = .normal ∧ ds = [] ∧ Has [(2, string a15), (4, int .i64 a17), (5, int .i64 a18), (6, pointer (some ⟨g22, 0, none⟩)), (13, bool y36), (14, pointer (some ⟨g75, 0, none⟩)), (15, int .i64 y73), (59, bool v84)] r ∧ Hp G (bx g75 [int .i64 y72.From, int .i64 y72.Until, int .i64 y72.Width, bool y72.Hyphen] 31 :: bx g26 [int .i64 a10.Before, int .i64 a10.Behind, slice A11 a10.Keep.length c12] 28 :: bx g22 [slice A2 a1.Glyphs.length c3, slice A6 a1.Kerns.length c7] 25 :: L) w ∧ True) ?_ ?_
 refine have H:=hC;dC (¬ y73 = 0) (fun h90=>?_) fun h90=>?_
 refine yK h90 H fun H=>Sk 3 z z (bY h90) z<|pkt (bY h90) z<|nl<|?_
 cases H
 exact ⟨z, z, ⟨z, z, z, z, z, z, z, z, trivial⟩, hI79, trivial⟩
 refine nK h90 H fun H=>fa (hw:=gY z z z (bN h90)) fl31_0 z<|ld (hw:=gY z z z (bN h90)) hI79 0 ag3 z z z<|q_lss (hw:=gY z z z (bN h90)) z z<|pkf (bN h90) z<|nl<|?_
 cases H
 exact ⟨z, z, ⟨z, z, z, z, z, z, z, z, trivial⟩, hI79, trivial⟩
 rintro e r ds wd87 ⟨rfl, rfl, hHas, hI88, _⟩
 rw [hHas.eq]; clear hHas
 refine mv z<|bK H fun v91 hC H=>?_
 refine wpq_split 6 (K := fun e r ds w => e = .normal ∧ ds = [] ∧ Has [(2, string a15), (4, int .i64 a17), (5, int .i64 a18), (6, pointer (some ⟨g22, 0, none⟩)), (13, bool y36), (14, pointer (some ⟨g75, 0, none⟩)), (15, int .i64 y73), (66, bool v91)] r ∧ Hp G (bx g75 [int .i64 y72.From, int .i64 y72.Until, int .i64 y72.Width, bool y72.Hyphen] 31 :: bx g26 [int .i64 a10.Before, int .i64 a10.Behind, slice A11 a10.Keep.length c12] 28 :: bx g22 [slice A2 a1.Glyphs.length c3, slice A6 a1.Kerns.length c7] 25 :: L) w ∧ True) ?_ ?_
 refine have H:=hC;dC (v84 = true) (fun h97=>?_) fun h97=>?_
 refine yK h97 H fun H=>Sk 5 z z (vY h97) z<|pkt (vY h97) z<|nl<|?_
 cases H
 exact ⟨z, z, ⟨z, z, z, z, z, z, z, z, trivial⟩, hI88, trivial⟩
 refine nK h97 H fun H=>fa (hw:=gY z z z (vN h97)) fl31_1 z<|ld (hw:=gY z z z (vN h97)) hI88 0 ag3 z z z<|fa (hw:=gY z z z (vN h97)) fl31_0 z<|ld (hw:=gY z z z (vN h97)) hI88 0 ag3 z z z<|q_leq (hw:=gY z z z (vN h97)) z z<|pkf (vN h97) z<|nl<|?_
 cases H
 exact ⟨z, z, ⟨z, z, z, z, z, z, z, z, trivial⟩, hI88, trivial⟩
 rintro e r ds wd94 ⟨rfl, rfl, hHas, hI95, _⟩
 rw [hHas.eq]; clear hHas
 refine mv z<|bK H fun v98 hC H=>?_
 refine wpq_split 6 (K := fun e r ds w => e = .normal ∧ ds = [] ∧ Has [(2, string a15), (4, int .i64 a17), (5, int .i64 a18), (6, pointer (some ⟨g22, 0, none⟩)), (13, bool y36), (14, pointer (some ⟨g75, 0, none⟩)), (15, int .i64 y73), (73, bool v98)] r ∧ Hp G (bx g75 [int .i64 y72.From, int .i64 y72.Until, int .i64 y72.Width, bool y72.Hyphen] 31 :: bx g26 [int .i64 a10.Before, int .i64 a10.Behind, slice A11 a10.Keep.length c12] 28 :: bx g22 [slice A2 a1.Glyphs.length c3, slice A6 a1.Kerns.length c7] 25 :: L) w ∧ True) ?_ ?_
 refine have H:=hC;dC (v91 = true) (fun h104=>?_) fun h104=>?_
 refine yK h104 H fun H=>Sk 5 z z (vY h104) z<|pkt (vY h104) z<|nl<|?_
 cases H
 exact ⟨z, z, ⟨z, z, z, z, z, z, z, z, trivial⟩, hI95, trivial⟩
 refine nK h104 H fun H=>fa (hw:=gY z z z (vN h104)) fl31_1 z<|ld (hw:=gY z z z (vN h104)) hI95 0 ag3 z z z<|mv (hw:=gY z z z (vN h104)) z<|q_lens (hw:=gY z z z (vN h104)) so9 z<|q_gtr (hw:=gY z z z (vN h104)) z z<|pkf (vN h104) z<|nl<|?_
 cases H
 exact ⟨z, z, ⟨z, z, z, z, z, z, z, z, trivial⟩, hI95, trivial⟩
 rintro e r ds wd101 ⟨rfl, rfl, hHas, hI102, _⟩
 rw [hHas.eq]; clear hHas
 refine nl<|hK83 _ _ _<|dC (v98 = true) (fun h105=>?_) fun h105=>?_
 refine yK h105 H fun H=>wt (vY h105)<|sr fun K106 hK107=>mv z<|mv z<|bK H fun v108 hC H=>?_
 refine wpq_split 3 (K := fun e r ds w => e = .normal ∧ ds = [] ∧ Has [(78, bool v108)] r ∧ Hp G (bx g75 [int .i64 y72.From, int .i64 y72.Until, int .i64 y72.Width, bool y72.Hyphen] 31 :: bx g26 [int .i64 a10.Before, int .i64 a10.Behind, slice A11 a10.Keep.length c12] 28 :: bx g22 [slice A2 a1.Glyphs.length c3, slice A6 a1.Kerns.length c7] 25 :: L) w ∧ True) ?_ ?_
 refine have H:=hC;dC (y36 = true) (fun h114=>?_) fun h114=>?_
 refine yK h114 H fun H=>mv (hw:=gY z z z (vY h114)) z<|q_neq (hw:=gY z z z (vY h114)) z z<|pkt (vY h114) z<|nl<|?_
 cases H
 exact ⟨z, z, ⟨z, trivial⟩, hI102, trivial⟩
 refine nK h114 H fun H=>Sk 2 z z (vN h114) z<|pkf (vN h114) z<|nl<|?_
 cases H
 exact ⟨z, z, ⟨z, trivial⟩, hI102, trivial⟩
 rintro e r ds wd111 ⟨rfl, rfl, hHas, hI112, _⟩
 rw [hHas.eq]; clear hHas
 refine asn z<|nl<|hK107 _ _ _<|wr<|have hI115:=Hp.sub hI112 (sd (sd (sd se)));?_
 cases H
 exact rt ⟨_, _, z, z, z⟩ hI115
 refine nK h105 H fun H=>wf (vN h105)<|ws<|hK81 _ _ _<|sr fun K116 hK117=>mv z<|fa fl31_0 z<|ld hI102 0 ag3 z z z<|fa fl31_1 z<|ld hI102 0 ag3 z z z<|fa fl31_3 z<|ld hI102 0 ag4 z z z<|bK H fun y123 hy118 H=>cv bo22 (formeref08_Part_spec hy118 hI102) z z fun wd121 hI122=>?_
 refine asn z<|nl<|hK117 _ _ _<|sr fun K124 hK125=>q_alloc hI122 ze60 fun g127 wd128 hI129=>?_
 have hI130 : Hp G (bx g127 (List.map (int .i64) (List.replicate 6 0 : List Int)) 60 :: bx g75 [int .i64 y72.From, int .i64 y72.Until, int .i64 y72.Width, bool y72.Hyphen] 31 :: bx g26 [int .i64 a10.Before, int .i64 a10.Behind, slice A11 a10.Keep.length c12] 28 :: bx g22 [slice A2 a1.Glyphs.length c3, slice A6 a1.Kerns.length c7] 25 :: L) _ := hI129
 refine nl<|hK125 _ _ _<|sQ fun K131 hK132=>sr fun K133 hK134=>asn z<|nl<|hK134 _ _ _<|wb<|bK H fun o162 hC H=>?_
 refine wpc_mono (Q := fun e r ds w => match (generalizing := false) o162 with | (Sum.inl v150) => e = .ret ∧ ds = [] ∧ Has [(12, bool false)] r ∧ Hp G (bx g75 [int .i64 y72.From, int .i64 y72.Until, int .i64 y72.Width, bool y72.Hyphen] 31 :: bx g26 [int .i64 a10.Before, int .i64 a10.Behind, slice A11 a10.Keep.length c12] 28 :: bx g22 [slice A2 a1.Glyphs.length c3, slice A6 a1.Kerns.length c7] 25 :: bx g127 (List.map (int .i64) v150) 60 :: L) w ∧ v150.length = 6 ∧ True | (Sum.inr v152) => e = .exit 0 ∧ ds = [] ∧ Has [(5, int .i64 a18), (13, bool y36), (14, pointer (some ⟨g75, 0, none⟩)), (17, pointer (some ⟨g127, 0, none⟩))] r ∧ Hp G (bx g75 [int .i64 y72.From, int .i64 y72.Until, int .i64 y72.Width, bool y72.Hyphen] 31 :: bx g26 [int .i64 a10.Before, int .i64 a10.Behind, slice A11 a10.Keep.length c12] 28 :: bx g22 [slice A2 a1.Glyphs.length c3, slice A6 a1.Kerns.length c7] 25 :: bx g127 (List.map (int .i64) v152) 60 :: L) w ∧ v152.length = 6 ∧ True) ?_ ?_
 refine have hI383:=Hp.front hI130 3 z;have hI384:=Hp.front hI383 3 z;have hI385:=Hp.front hI384 3 z;wpc_loop fun I hLp=>?_
 refine formelaw17_InlinePlaces_l149.partial_correctness a1 a15 a17 a18 y72 y123 (fun v139 v141 o => ∀ (r : Rg) (w : World), Has [(2, string a15), (4, int .i64 a17), (5, int .i64 a18), (6, pointer (some ⟨g22, 0, none⟩)), (13, bool y36), (14, pointer (some ⟨g75, 0, none⟩)), (16, string y123), (17, pointer (some ⟨g127, 0, none⟩)), (18, int .i64 v141)] r → Hp G (bx g75 [int .i64 y72.From, int .i64 y72.Until, int .i64 y72.Width, bool y72.Hyphen] 31 :: bx g26 [int .i64 a10.Before, int .i64 a10.Behind, slice A11 a10.Keep.length c12] 28 :: bx g22 [slice A2 a1.Glyphs.length c3, slice A6 a1.Kerns.length c7] 25 :: bx g127 (List.map (int .i64) v139) 60 :: L) w → v139.length = 6 → o = o162 → I r [] w) ?_ (List.replicate 6 0 : List Int) 0 _ hC _ _ ⟨rfl, rfl, rfl, rfl, rfl, rfl, rfl, rfl, rfl, trivial⟩ hI385 (List.length_replicate ..) rfl
 intro _ ih v139 v141 o H r wd165 hHas hI166 hn140 ho
 rw [ho] at H; clear ho
 rw [hHas.eq]; clear hHas
 refine hLp _ _ _<|sQ fun K167 hK168=>sr fun K169 hK170=>mv z<|q_lss z z<|nl<|hK170 _ _ _<|dC (v141 < 2) (fun h171=>?_) fun h171=>?_
 refine yK h171 H fun H=>wt (bY h171)<|ws<|hK168 _ _ _<|sQ fun K172 hK173=>wb<|sr fun K174 hK175=>asn z<|nl<|hK175 _ _ _<|wb<|bK H fun o203 hC H=>?_
 refine wpc_mono (Q := fun e r ds w => match (generalizing := false) o203 with | (Sum.inl v191) => e = .ret ∧ ds = [] ∧ Has [(12, bool false)] r ∧ Hp G (bx g75 [int .i64 y72.From, int .i64 y72.Until, int .i64 y72.Width, bool y72.Hyphen] 31 :: bx g26 [int .i64 a10.Before, int .i64 a10.Behind, slice A11 a10.Keep.length c12] 28 :: bx g22 [slice A2 a1.Glyphs.length c3, slice A6 a1.Kerns.length c7] 25 :: bx g127 (List.map (int .i64) v191) 60 :: L) w ∧ v191.length = 6 ∧ True | (Sum.inr v193) => e = .exit 2 ∧ ds = [] ∧ Has [(2, string a15), (4, int .i64 a17), (5, int .i64 a18), (6, pointer (some ⟨g22, 0, none⟩)), (13, bool y36), (14, pointer (some ⟨g75, 0, none⟩)), (16, string y123), (17, pointer (some ⟨g127, 0, none⟩)), (18, int .i64 v141)] r ∧ Hp G (bx g75 [int .i64 y72.From, int .i64 y72.Until, int .i64 y72.Width, bool y72.Hyphen] 31 :: bx g26 [int .i64 a10.Before, int .i64 a10.Behind, slice A11 a10.Keep.length c12] 28 :: bx g22 [slice A2 a1.Glyphs.length c3, slice A6 a1.Kerns.length c7] 25 :: bx g127 (List.map (int .i64) v193) 60 :: L) w ∧ v193.length = 6 ∧ True) ?_ ?_
 refine wpc_loop fun I hLp=>?_
 refine formelaw17_InlinePlaces_l190.partial_correctness a1 a15 a17 a18 y72 y123 v141 (fun v180 v182 o => ∀ (r : Rg) (w : World), Has [(2, string a15), (4, int .i64 a17), (5, int .i64 a18), (6, pointer (some ⟨g22, 0, none⟩)), (13, bool y36), (14, pointer (some ⟨g75, 0, none⟩)), (16, string y123), (17, pointer (some ⟨g127, 0, none⟩)), (18, int .i64 v141), (19, int .i64 v182)] r → Hp G (bx g75 [int .i64 y72.From, int .i64 y72.Until, int .i64 y72.Width, bool y72.Hyphen] 31 :: bx g26 [int .i64 a10.Before, int .i64 a10.Behind, slice A11 a10.Keep.length c12] 28 :: bx g22 [slice A2 a1.Glyphs.length c3, slice A6 a1.Kerns.length c7] 25 :: bx g127 (List.map (int .i64) v180) 60 :: L) w → v180.length = 6 → o = o203 → I r [] w) ?_ v139 0 _ hC _ _ ⟨rfl, rfl, rfl, rfl, rfl, rfl, rfl, rfl, rfl, rfl, trivial⟩ hI166 hn140 rfl
 intro _ ih v180 v182 o H r wd206 hHas hI207 hn181 ho
 rw [ho] at H; clear ho
 rw [hHas.eq]; clear hHas
 refine hLp _ _ _<|sQ fun K208 hK209=>sr fun K210 hK211=>mv z<|q_lss z z<|nl<|hK211 _ _ _<|dC (v182 < 3) (fun h212=>?_) fun h212=>?_
 refine yK h212 H fun H=>wt (bY h212)<|ws<|hK209 _ _ _<|sQ fun K213 hK214=>wb<|sr fun K215 hK216=>lda hI207 2 ag25 z z z z<|mv z<|lda hI207 0 ag31 z z z z<|mv z<|mv z<|mv z<|mv z<|?_
 refine bK3 H fun y222 y223 y224 hy217 H=>cv bo16 (inline_Place_spec hy217 hI207 hl4 hD5 hl8 hD9 (hgl.mono gR)) z z fun wd220 hI221=>mv z<|exk z z<|exk z z<|exk z z<|asn z<|asn z<|asn z<|nl<|hK216 _ _ _<|sQ fun K225 hK226=>sr fun K227 hK228=>mv z<|?_
 refine q_neq z z<|mv z<|bK H fun v229 hC H=>?_
 refine wpq_split 6 (K := fun e r ds w => e = .normal ∧ ds = [] ∧ Has [(2, string a15), (4, int .i64 a17), (5, int .i64 a18), (6, pointer (some ⟨g22, 0, none⟩)), (13, bool y36), (14, pointer (some ⟨g75, 0, none⟩)), (16, string y123), (17, pointer (some ⟨g127, 0, none⟩)), (18, int .i64 v141), (19, int .i64 v182), (20, string y222), (21, int .i64 y223), (115, bool v229)] r ∧ Hp G (bx g75 [int .i64 y72.From, int .i64 y72.Until, int .i64 y72.Width, bool y72.Hyphen] 31 :: bx g26 [int .i64 a10.Before, int .i64 a10.Behind, slice A11 a10.Keep.length c12] 28 :: bx g22 [slice A2 a1.Glyphs.length c3, slice A6 a1.Kerns.length c7] 25 :: bx g127 (List.map (int .i64) v180) 60 :: L) w ∧ True) ?_ ?_
 refine have H:=hC;dC (¬ y224 = 0) (fun h235=>?_) fun h235=>?_
 refine yK h235 H fun H=>Sk 5 z z (bY h235) z<|pkt (bY h235) z<|nl<|?_
 cases H
 exact ⟨z, z, ⟨z, z, z, z, z, z, z, z, z, z, z, z, z, trivial⟩, hI221, trivial⟩
 refine nK h235 H fun H=>mv (hw:=gY z z z (bN h235)) z<|q_lens (hw:=gY z z z (bN h235)) so9 z<|mv (hw:=gY z z z (bN h235)) z<|q_lens (hw:=gY z z z (bN h235)) so9 z<|q_neq (hw:=gY z z z (bN h235)) z z<|pkf (bN h235) z<|nl<|?_
 cases H
 exact ⟨z, z, ⟨z, z, z, z, z, z, z, z, z, z, z, z, z, trivial⟩, hI221, trivial⟩
 rintro e r ds wd232 ⟨rfl, rfl, hHas, hI233, _⟩
 rw [hHas.eq]; clear hHas
 refine mv z<|bK H fun v236 hC H=>?_
 refine wpq_split 17 (K := fun e r ds w => e = .normal ∧ ds = [] ∧ Has [(2, string a15), (4, int .i64 a17), (5, int .i64 a18), (6, pointer (some ⟨g22, 0, none⟩)), (13, bool y36), (14, pointer (some ⟨g75, 0, none⟩)), (16, string y123), (17, pointer (some ⟨g127, 0, none⟩)), (18, int .i64 v141), (19, int .i64 v182), (20, string y222), (21, int .i64 y223), (133, bool v236)] r ∧ Hp G (bx g75 [int .i64 y72.From, int .i64 y72.Until, int .i64 y72.Width, bool y72.Hyphen] 31 :: bx g26 [int .i64 a10.Before, int .i64 a10.Behind, slice A11 a10.Keep.length c12] 28 :: bx g22 [slice A2 a1.Glyphs.length c3, slice A6 a1.Kerns.length c7] 25 :: bx g127 (List.map (int .i64) v180) 60 :: L) w ∧ True) ?_ ?_
 refine have H:=hC;dC (v229 = true) (fun h242=>?_) fun h242=>?_
 refine yK h242 H fun H=>Sk 5 z z (vY h242) z<|Su 10 z<|wN (gN z z z (vY h242) z)<|pkt (vY h242) z<|nl<|?_
 cases H
 exact ⟨z, z, ⟨z, z, z, z, z, z, z, z, z, z, z, z, z, trivial⟩, hI233, trivial⟩
 refine nK h242 H fun H=>fa (hw:=gY z z z (vN h242)) fl31_2 z<|ld (hw:=gY z z z (vN h242)) hI233 0 ag3 z z z<|mv (hw:=gY z z z (vN h242)) z<|q_leq (hw:=gY z z z (vN h242)) z z<|mv (hw:=gY z z z (vN h242)) z<|bK H fun v243 hC H=>?_
 refine wpq_split 11 (K := fun e r ds w => e = .normal ∧ ds = [] ∧ Has [(2, string a15), (4, int .i64 a17), (5, int .i64 a18), (6, pointer (some ⟨g22, 0, none⟩)), (13, bool y36), (14, pointer (some ⟨g75, 0, none⟩)), (16, string y123), (17, pointer (some ⟨g127, 0, none⟩)), (18, int .i64 v141), (19, int .i64 v182), (20, string y222), (21, int .i64 y223), (116, bool v229), (117, pointer (some ⟨g75, 2, none⟩)), (118, int .i64 y72.Width), (119, int .i64 a18), (120, bool (decide (y72.Width ≤ a18))), (121, bool (decide (y72.Width ≤ a18))), (132, bool v243)] r ∧ Hp G (bx g75 [int .i64 y72.From, int .i64 y72.Until, int .i64 y72.Width, bool y72.Hyphen] 31 :: bx g26 [int .i64 a10.Before, int .i64 a10.Behind, slice A11 a10.Keep.length c12] 28 :: bx g22 [slice A2 a1.Glyphs.length c3, slice A6 a1.Kerns.length c7] 25 :: bx g127 (List.map (int .i64) v180) 60 :: L) w ∧ True) ?_ ?_
 refine have H:=hC;dC (y72.Width ≤ a18) (fun h249=>?_) fun h249=>?_
 refine yK h249 H fun H=>mv (hw:=gY z z z (bY h249)) z<|q_lss (hw:=gY z z z (bY h249)) z z<|mv (hw:=gY z z z (bY h249)) z<|bK H fun v250 hC H=>?_
 refine wpq_split 7 (K := fun e r ds w => e = .normal ∧ ds = [] ∧ Has [(2, string a15), (4, int .i64 a17), (5, int .i64 a18), (6, pointer (some ⟨g22, 0, none⟩)), (13, bool y36), (14, pointer (some ⟨g75, 0, none⟩)), (16, string y123), (17, pointer (some ⟨g127, 0, none⟩)), (18, int .i64 v141), (19, int .i64 v182), (20, string y222), (21, int .i64 y223), (116, bool v229), (117, pointer (some ⟨g75, 2, none⟩)), (118, int .i64 y72.Width), (119, int .i64 a18), (120, bool (decide (y72.Width ≤ a18))), (121, bool (decide (y72.Width ≤ a18))), (122, int .i64 y223), (123, bool (decide (y223 < 0))), (124, bool (decide (y223 < 0))), (131, bool v250)] r ∧ Hp G (bx g75 [int .i64 y72.From, int .i64 y72.Until, int .i64 y72.Width, bool y72.Hyphen] 31 :: bx g26 [int .i64 a10.Before, int .i64 a10.Behind, slice A11 a10.Keep.length c12] 28 :: bx g22 [slice A2 a1.Glyphs.length c3, slice A6 a1.Kerns.length c7] 25 :: bx g127 (List.map (int .i64) v180) 60 :: L) w ∧ True) ?_ ?_
 refine have H:=hC;dC (y223 < 0) (fun h256=>?_) fun h256=>?_
 refine yK h256 H fun H=>Sk 6 z z (bY h256) z<|pkt (hw:=gY z z z (bY h249)) (bY h256) z<|nl<|?_
 cases H
 exact ⟨z, z, ⟨z, z, z, z, z, z, z, z, z, z, z, z, z, z, z, z, z, z, z, z, z, z, trivial⟩, hI233, trivial⟩
 refine nK h256 H fun H=>mv (hw:=gY z z z (bN h256)) z<|fa (hw:=gY z z z (bN h256)) fl31_2 z<|ld (hw:=gY z z z (bN h256)) hI233 0 ag3 z z z<|q_add (hw:=gY z z z (bN h256)) z z<|mv (hw:=gY z z z (bN h256)) z<|q_gtr (hw:=gY z z z (bN h256)) z z<|pkf (hw:=gY z z z (bY h249)) (bN h256) z<|nl<|?_
 cases H
 exact ⟨z, z, ⟨z, z, z, z, z, z, z, z, z, z, z, z, z, z, z, z, z, z, z, z, z, z, trivial⟩, hI233, trivial⟩
 rintro e r ds wd253 ⟨rfl, rfl, hHas, hI254, _⟩
 rw [hHas.eq]; clear hHas
 refine pkt (hw:=gY z z z (vN h242)) (bY h249) z<|nl<|?_
 cases H
 exact ⟨z, z, ⟨z, z, z, z, z, z, z, z, z, z, z, z, z, z, z, z, z, z, z, trivial⟩, hI254, trivial⟩
 refine nK h249 H fun H=>Sk 3 z z (bN h249) z<|Su 6 z<|wN (gN z z z (bN h249) z)<|pkf (hw:=gY z z z (vN h242)) (bN h249) z<|nl<|?_
 cases H
 exact ⟨z, z, ⟨z, z, z, z, z, z, z, z, z, z, z, z, z, z, z, z, z, z, z, trivial⟩, hI233, trivial⟩
 rintro e r ds wd246 ⟨rfl, rfl, hHas, hI247, _⟩
 rw [hHas.eq]; clear hHas
 refine pkf (vN h242) z<|nl<|?_
 cases H
 exact ⟨z, z, ⟨z, z, z, z, z, z, z, z, z, z, z, z, z, trivial⟩, hI247, trivial⟩
 rintro e r ds wd239 ⟨rfl, rfl, hHas, hI240, _⟩
 rw [hHas.eq]; clear hHas
 refine nl<|hK228 _ _ _<|dC (v236 = true) (fun h257=>?_) fun h257=>?_
 refine yK h257 H fun H=>wt (vY h257)<|sr fun K258 hK259=>asn z<|nl<|hK259 _ _ _<|wr<|?_
 cases H
 exact ⟨z, z, ⟨z, trivial⟩, hI240, hn181, trivial⟩
 refine nK h257 H fun H=>wf (vN h257)<|ws<|hK226 _ _ _<|sr fun K260 hK261=>q_alloc hI240 ze61 fun g263 wd264 hI265=>?_
 have hI266 : Hp G (bx g263 (List.map (int .i64) (List.replicate 256 0 : List Int)) 61 :: bx g75 [int .i64 y72.From, int .i64 y72.Until, int .i64 y72.Width, bool y72.Hyphen] 31 :: bx g26 [int .i64 a10.Before, int .i64 a10.Behind, slice A11 a10.Keep.length c12] 28 :: bx g22 [slice A2 a1.Glyphs.length c3, slice A6 a1.Kerns.length c7] 25 :: bx g127 (List.map (int .i64) v180) 60 :: L) _ := hI265
 refine nl<|hK261 _ _ _<|sQ fun K267 hK268=>sr fun K269 hK270=>asn z<|nl<|hK270 _ _ _<|wb<|bK H fun v286 hC H=>?_
 refine wpc_mono (Q := fun e r ds w => e = .exit 4 ∧ ds = [] ∧ Has [(2, string a15), (4, int .i64 a17), (5, int .i64 a18), (6, pointer (some ⟨g22, 0, none⟩)), (13, bool y36), (14, pointer (some ⟨g75, 0, none⟩)), (16, string y123), (17, pointer (some ⟨g127, 0, none⟩)), (18, int .i64 v141), (19, int .i64 v182), (21, int .i64 y223), (23, pointer (some ⟨g263, 0, none⟩))] r ∧ Hp G (bx g75 [int .i64 y72.From, int .i64 y72.Until, int .i64 y72.Width, bool y72.Hyphen] 31 :: bx g26 [int .i64 a10.Before, int .i64 a10.Behind, slice A11 a10.Keep.length c12] 28 :: bx g22 [slice A2 a1.Glyphs.length c3, slice A6 a1.Kerns.length c7] 25 :: bx g263 (List.map (int .i64) v286) 61 :: bx g127 (List.map (int .i64) v180) 60 :: L) w ∧ v286.length = 256 ∧ True) ?_ ?_
 refine have hI320:=Hp.front hI266 4 z;have hI321:=Hp.front hI320 1 z;have hI322:=Hp.front hI321 4 z;have hI323:=Hp.front hI322 4 z;have hI324:=Hp.front hI323 4 z;wpc_loop fun I hLp=>?_
 refine formelaw17_InlinePlaces_l285.partial_correctness y123 y222 (fun v275 v277 o => ∀ (r : Rg) (w : World), Has [(2, string a15), (4, int .i64 a17), (5, int .i64 a18), (6, pointer (some ⟨g22, 0, none⟩)), (13, bool y36), (14, pointer (some ⟨g75, 0, none⟩)), (16, string y123), (17, pointer (some ⟨g127, 0, none⟩)), (18, int .i64 v141), (19, int .i64 v182), (20, string y222), (21, int .i64 y223), (23, pointer (some ⟨g263, 0, none⟩)), (24, int .i64 v277)] r → Hp G (bx g75 [int .i64 y72.From, int .i64 y72.Until, int .i64 y72.Width, bool y72.Hyphen] 31 :: bx g26 [int .i64 a10.Before, int .i64 a10.Behind, slice A11 a10.Keep.length c12] 28 :: bx g22 [slice A2 a1.Glyphs.length c3, slice A6 a1.Kerns.length c7] 25 :: bx g263 (List.map (int .i64) v275) 61 :: bx g127 (List.map (int .i64) v180) 60 :: L) w → v275.length = 256 → o = v286 → I r [] w) ?_ (List.replicate 256 0 : List Int) 0 _ hC _ _ ⟨rfl, rfl, rfl, rfl, rfl, rfl, rfl, rfl, rfl, rfl, rfl, rfl, rfl, rfl, trivial⟩ hI324 (List.length_replicate ..) rfl
 intro _ ih v275 v277 o H r wd295 hHas hI296 hn276 ho
 rw [ho] at H; clear ho
 rw [hHas.eq]; clear hHas
 refine hLp _ _ _<|sQ fun K297 hK298=>sr fun K299 hK300=>mv z<|mv z<|q_lens so9 z<|q_lss z z<|nl<|hK300 _ _ _<|dC (v277 < (y222.size : Int)) (fun h301=>?_) fun h301=>?_
 refine yK h301 H fun H=>wt (bY h301)<|ws<|hK298 _ _ _<|sQ fun K302 hK303=>wb<|sr fun K304 hK305=>mv z<|mv z<|iK H fun⟨h306, h306'⟩H=>q_is so9 z z h306 h306' z<|iK H fun⟨h307, h307'⟩H=>?_
 have ho308 : 0 + Int.toNat (bt y222 v277) * 1 + 1 ≤ 256 := by omega
 refine q_iaA (a' := ⟨g263, 0 + Int.toNat (bt y222 v277) * 1, none⟩) ar61 z z h307 h307' (add_plain _ _ _)<|q_lda (int .i64) hI296 3 0 ag3 z z hn276 (Nat.lt_of_succ_le ho308)<|q_add z z<|iK H fun⟨h309, h309'⟩H=>?_
 have ho310 : 0 + Int.toNat (bt y222 v277) * 1 + 1 ≤ 256 := by omega
 refine q_iaA (a' := ⟨g263, 0 + Int.toNat (bt y222 v277) * 1, none⟩) ar61 z z h309 h309' (add_plain _ _ _)<|q_sta (int .i64) hI296 3 (w64 ((v275.getD (0 + Int.toNat (bt y222 v277) * 1) 0) + 1)) ag3 z z z z z hn276 (Nat.lt_of_succ_le ho310) fun wd311 hI312=>nl<|hK305 _ _ _<|wpc_region<|mv z<|mv z<|iK H fun⟨h313, h313'⟩H=>q_is so9 z z h313 h313' z<|iK H fun⟨h314, h314'⟩H=>?_
 have ho315 : 0 + Int.toNat (bt y123 v277) * 1 + 1 ≤ 256 := by omega
 refine q_iaA (a' := ⟨g263, 0 + Int.toNat (bt y123 v277) * 1, none⟩) ar61 z z h314 h314' (add_plain _ _ _)<|q_lda (int .i64) hI312 3 0 ag3 z z (set_len hn276) (Nat.lt_of_succ_le ho315)<|q_sub z z<|iK H fun⟨h316, h316'⟩H=>?_
 have ho317 : 0 + Int.toNat (bt y123 v277) * 1 + 1 ≤ 256 := by omega
 exact q_iaA (a' := ⟨g263, 0 + Int.toNat (bt y123 v277) * 1, none⟩) ar61 z z h316 h316' (add_plain _ _ _)<|q_sta (int .i64) hI312 3 (w64 (((List.set v275 (0 + Int.toNat (bt y222 v277) * 1) (w64 ((v275.getD (0 + Int.toNat (bt y222 v277) * 1) 0) + 1))).getD (0 + Int.toNat (bt y123 v277) * 1) 0) - 1)) ag3 z z z z z (set_len hn276) (Nat.lt_of_succ_le ho317) fun wd318 hI319=>nl<|hK303 _ _ _<|wpc_region<|mv z<|q_add z z<|asn z<|nl<|ih _ _ _ H _ _ ⟨z, z, z, z, z, z, z, z, z, z, z, z, z, z, trivial⟩ hI319 (set_len (set_len hn276)) z
 refine nK h301 H fun H=>wf (bN h301)<|wx<|?_
 cases H
 exact ⟨z, z, ⟨z, z, z, z, z, z, z, z, z, z, z, z, trivial⟩, hI296, hn276, trivial⟩
 rintro e r ds wd290 ⟨rfl, rfl, hHas, hI291, hn287, _⟩
 rw [hHas.eq]; clear hHas
 refine hK268 _ _ _<|sQ fun K325 hK326=>sr fun K327 hK328=>asn z<|nl<|hK328 _ _ _<|wb<|bK H fun o348 hC H=>?_
 refine wpc_mono (Q := fun e r ds w => match (generalizing := false) o348 with | (Sum.inl _) => e = .ret ∧ ds = [] ∧ Has [(12, bool false)] r ∧ Hp G (bx g75 [int .i64 y72.From, int .i64 y72.Until, int .i64 y72.Width, bool y72.Hyphen] 31 :: bx g26 [int .i64 a10.Before, int .i64 a10.Behind, slice A11 a10.Keep.length c12] 28 :: bx g22 [slice A2 a1.Glyphs.length c3, slice A6 a1.Kerns.length c7] 25 :: bx g263 (List.map (int .i64) v286) 61 :: bx g127 (List.map (int .i64) v180) 60 :: L) w ∧ True | (Sum.inr _) => e = .exit 6 ∧ ds = [] ∧ Has [(2, string a15), (4, int .i64 a17), (5, int .i64 a18), (6, pointer (some ⟨g22, 0, none⟩)), (13, bool y36), (14, pointer (some ⟨g75, 0, none⟩)), (16, string y123), (17, pointer (some ⟨g127, 0, none⟩)), (18, int .i64 v141), (19, int .i64 v182), (21, int .i64 y223)] r ∧ Hp G (bx g75 [int .i64 y72.From, int .i64 y72.Until, int .i64 y72.Width, bool y72.Hyphen] 31 :: bx g26 [int .i64 a10.Before, int .i64 a10.Behind, slice A11 a10.Keep.length c12] 28 :: bx g22 [slice A2 a1.Glyphs.length c3, slice A6 a1.Kerns.length c7] 25 :: bx g263 (List.map (int .i64) v286) 61 :: bx g127 (List.map (int .i64) v180) 60 :: L) w ∧ True) ?_ ?_
 refine wpc_loop fun I hLp=>?_
 refine formelaw17_InlinePlaces_l339.partial_correctness v286 (fun v333 o => ∀ (r : Rg) (w : World), Has [(2, string a15), (4, int .i64 a17), (5, int .i64 a18), (6, pointer (some ⟨g22, 0, none⟩)), (13, bool y36), (14, pointer (some ⟨g75, 0, none⟩)), (16, string y123), (17, pointer (some ⟨g127, 0, none⟩)), (18, int .i64 v141), (19, int .i64 v182), (21, int .i64 y223), (23, pointer (some ⟨g263, 0, none⟩)), (25, int .i64 v333)] r → Hp G (bx g75 [int .i64 y72.From, int .i64 y72.Until, int .i64 y72.Width, bool y72.Hyphen] 31 :: bx g26 [int .i64 a10.Before, int .i64 a10.Behind, slice A11 a10.Keep.length c12] 28 :: bx g22 [slice A2 a1.Glyphs.length c3, slice A6 a1.Kerns.length c7] 25 :: bx g263 (List.map (int .i64) v286) 61 :: bx g127 (List.map (int .i64) v180) 60 :: L) w → o = o348 → I r [] w) ?_ 0 _ hC _ _ ⟨rfl, rfl, rfl, rfl, rfl, rfl, rfl, rfl, rfl, rfl, rfl, rfl, rfl, trivial⟩ hI291 rfl
 intro _ ih v333 o H r wd351 hHas hI352 ho
 rw [ho] at H; clear ho
 rw [hHas.eq]; clear hHas
 refine hLp _ _ _<|sQ fun K353 hK354=>sr fun K355 hK356=>mv z<|q_lss z z<|nl<|hK356 _ _ _<|dC (v333 < 256) (fun h357=>?_) fun h357=>?_
 refine yK h357 H fun H=>wt (bY h357)<|ws<|hK354 _ _ _<|sQ fun K358 hK359=>wb<|sr fun K360 hK361=>mv z<|iK H fun⟨h362, h362'⟩H=>?_
 have ho363 : 0 + Int.toNat v333 * 1 + 1 ≤ 256 := by omega
 refine q_iaA (a' := ⟨g263, 0 + Int.toNat v333 * 1, none⟩) ar61 z z h362 h362' (add_plain _ _ _)<|q_lda (int .i64) hI352 3 0 ag3 z z hn287 (Nat.lt_of_succ_le ho363)<|q_neq z z<|nl<|hK361 _ _ _<|dC (¬ (v286.getD (0 + Int.toNat v333 * 1) 0) = 0) (fun h364=>?_) fun h364=>?_
 refine yK h364 H fun H=>wt (bY h364)<|sr fun K365 hK366=>asn z<|nl<|hK366 _ _ _<|wr<|?_
 cases H
 exact ⟨z, z, ⟨z, trivial⟩, hI352, trivial⟩
 exact nK h364 H fun H=>wf (bN h364)<|ws<|hK359 _ _ _<|wpc_region<|mv z<|q_add z z<|asn z<|nl<|ih _ _ H _ _ ⟨z, z, z, z, z, z, z, z, z, z, z, z, z, trivial⟩ hI352 z
 refine nK h357 H fun H=>wf (bN h357)<|wx<|?_
 cases H
 exact ⟨z, z, ⟨z, z, z, z, z, z, z, z, z, z, z, trivial⟩, hI352, trivial⟩
 rcases o348 with _ | _
 rintro e r ds wd342 ⟨rfl, rfl, hHas, hI343, _⟩
 rw [hHas.eq]; clear hHas
 refine have hI367:=Hp.front hI343 4 z;have hI368:=Hp.front hI367 3 z;have hI369:=Hp.front hI368 3 z;have hI370:=Hp.front hI369 3 z;have hI371:=Hp.sub hI370 (sk (sk (sk (sk (sd se)))));?_
 cases H
 exact ⟨z, z, ⟨z, trivial⟩, hI371, hn181, trivial⟩
 rintro e r ds wd346 ⟨rfl, rfl, hHas, hI347, _⟩
 rw [hHas.eq]; clear hHas
 refine hK326 _ _ _<|wpc_region<|mv z<|mv z<|mv z<|iK H fun⟨h372, h372'⟩H=>?_
 have ho373 : 0 + Int.toNat v141 * 3 + 3 ≤ 6 := by omega
 refine q_iaA (a' := ⟨g127, 0 + Int.toNat v141 * 3, none⟩) ar60 z z h372 h372' (add_plain _ _ _)<|iK H fun⟨h374, h374'⟩H=>?_
 have ho375 : 0 + Int.toNat v141 * 3 + Int.toNat v182 * 1 + 1 ≤ 6 := by have := ho373; omega
 refine q_iaA (a' := ⟨g127, 0 + Int.toNat v141 * 3 + Int.toNat v182 * 1, none⟩) ar59 z z h374 h374' (add_plain _ _ _)<|q_sta (int .i64) hI347 4 y223 ag3 z z z z z hn181 (Nat.lt_of_succ_le ho375) fun wd376 hI377=>nl<|hK214 _ _ _<|wpc_region<|mv z<|q_add z z<|asn z<|nl<|have hI378:=Hp.front hI377 4 z;have hI379:=Hp.front hI378 3 z;have hI380:=Hp.front hI379 3 z;have hI381:=Hp.front hI380 3 z;have hI382:=Hp.sub hI381 (sk (sk (sk (sk (sd se)))));?_
 exact ih _ _ _ H _ _ ⟨z, z, z, z, z, z, z, z, z, z, trivial⟩ hI382 (set_len hn181) z
 refine nK h212 H fun H=>wf (bN h212)<|wx<|?_
 cases H
 exact ⟨z, z, ⟨z, z, z, z, z, z, z, z, z, trivial⟩, hI207, hn181, trivial⟩
 rcases o203 with v191 | v193
 rintro e r ds wd197 ⟨rfl, rfl, hHas, hI198, hn192, _⟩
 rw [hHas.eq]; clear hHas
 cases H
 exact ⟨z, z, ⟨z, trivial⟩, hI198, hn192, trivial⟩
 rintro e r ds wd201 ⟨rfl, rfl, hHas, hI202, hn194, _⟩
 rw [hHas.eq]; clear hHas
 exact hK173 _ _ _<|wpc_region<|mv z<|q_add z z<|asn z<|nl<|ih _ _ _ H _ _ ⟨z, z, z, z, z, z, z, z, z, trivial⟩ hI202 hn194 z
 refine nK h171 H fun H=>wf (bN h171)<|wx<|?_
 cases H
 exact ⟨z, z, ⟨z, z, z, z, trivial⟩, hI166, hn140, trivial⟩
 rcases o162 with v150 | v152
 rintro e r ds wd156 ⟨rfl, rfl, hHas, hI157, hn151, _⟩
 rw [hHas.eq]; clear hHas
 refine have hI386:=Hp.sub hI157 (sd (sd (sd (sd se))));?_
 cases H
 exact rt ⟨_, _, z, z, z⟩ hI386
 rintro e r ds wd160 ⟨rfl, rfl, hHas, hI161, hn153, _⟩
 rw [hHas.eq]; clear hHas
 refine hK132 _ _ _<|sr fun K387 hK388=>iK H fun⟨h389, h389'⟩H=>?_
 have ho390 : 0 + Int.toNat 0 * 3 + 3 ≤ 6 := by omega
 refine q_iaA (a' := ⟨g127, 0 + Int.toNat 0 * 3, none⟩) ar60 z z h389 h389' (add_plain _ _ _)<|iK H fun⟨h391, h391'⟩H=>?_
 have ho392 : 0 + Int.toNat 0 * 3 + Int.toNat 2 * 1 + 1 ≤ 6 := by have := ho390; omega
 refine q_iaA (a' := ⟨g127, 0 + Int.toNat 0 * 3 + Int.toNat 2 * 1, none⟩) ar59 z z h391 h391' (add_plain _ _ _)<|q_lda (int .i64) hI161 3 0 ag3 z z hn153 (Nat.lt_of_succ_le ho392)<|iK H fun⟨h393, h393'⟩H=>?_
 have ho394 : 0 + Int.toNat 1 * 3 + 3 ≤ 6 := by omega
 refine q_iaA (a' := ⟨g127, 0 + Int.toNat 1 * 3, none⟩) ar60 z z h393 h393' (add_plain _ _ _)<|iK H fun⟨h395, h395'⟩H=>?_
 have ho396 : 0 + Int.toNat 1 * 3 + Int.toNat 2 * 1 + 1 ≤ 6 := by have := ho394; omega
 refine q_iaA (a' := ⟨g127, 0 + Int.toNat 1 * 3 + Int.toNat 2 * 1, none⟩) ar59 z z h395 h395' (add_plain _ _ _)<|q_lda (int .i64) hI161 3 0 ag3 z z hn153 (Nat.lt_of_succ_le ho396)<|q_eql z z<|mv z<|bK H fun v397 hC H=>?_
 refine wpq_split 10 (K := fun e r ds w => e = .normal ∧ ds = [] ∧ Has [(5, int .i64 a18), (13, bool y36), (14, pointer (some ⟨g75, 0, none⟩)), (17, pointer (some ⟨g127, 0, none⟩)), (184, bool v397)] r ∧ Hp G (bx g75 [int .i64 y72.From, int .i64 y72.Until, int .i64 y72.Width, bool y72.Hyphen] 31 :: bx g26 [int .i64 a10.Before, int .i64 a10.Behind, slice A11 a10.Keep.length c12] 28 :: bx g22 [slice A2 a1.Glyphs.length c3, slice A6 a1.Kerns.length c7] 25 :: bx g127 (List.map (int .i64) v152) 60 :: L) w ∧ True) ?_ ?_
 refine have H:=hC;dC ((v152.getD (0 + Int.toNat 0 * 3 + Int.toNat 2 * 1) 0) = (v152.getD (0 + Int.toNat 1 * 3 + Int.toNat 2 * 1) 0)) (fun h403=>?_) fun h403=>?_
 refine yK h403 H fun H=>iK H fun⟨h404, h404'⟩H=>?_
 have ho405 : 0 + Int.toNat 0 * 3 + 3 ≤ 6 := by omega
 refine q_iaA (hw:=gY z z z (bY h403)) (a' := ⟨g127, 0 + Int.toNat 0 * 3, none⟩) ar60 z z h404 h404' (add_plain _ _ _)<|iK H fun⟨h406, h406'⟩H=>?_
 have ho407 : 0 + Int.toNat 0 * 3 + Int.toNat 2 * 1 + 1 ≤ 6 := by have := ho405; omega
 refine q_iaA (hw:=gY z z z (bY h403)) (a' := ⟨g127, 0 + Int.toNat 0 * 3 + Int.toNat 2 * 1, none⟩) ar59 z z h406 h406' (add_plain _ _ _)<|q_lda (hw:=gY z z z (bY h403)) (int .i64) hI161 3 0 ag3 z z hn153 (Nat.lt_of_succ_le ho407)<|q_mul (hw:=gY z z z (bY h403)) z z<|mv (hw:=gY z z z (bY h403)) z<|fa (hw:=gY z z z (bY h403)) fl31_2 z<|ld (hw:=gY z z z (bY h403)) hI161 0 ag3 z z z<|q_sub (hw:=gY z z z (bY h403)) z z<|q_leq (hw:=gY z z z (bY h403)) z z<|pkt (bY h403) z<|nl<|?_
 cases H
 exact ⟨z, z, ⟨z, z, z, z, z, trivial⟩, hI161, trivial⟩
 refine nK h403 H fun H=>Sk 9 z z (bN h403) z<|pkf (bN h403) z<|nl<|?_
 cases H
 exact ⟨z, z, ⟨z, z, z, z, z, trivial⟩, hI161, trivial⟩
 rintro e r ds wd400 ⟨rfl, rfl, hHas, hI401, _⟩
 rw [hHas.eq]; clear hHas
 refine mv z<|bK H fun v408 hC H=>?_
 refine wpq_split 11 (K := fun e r ds w => e = .normal ∧ ds = [] ∧ Has [(5, int .i64 a18), (13, bool y36), (14, pointer (some ⟨g75, 0, none⟩)), (17, pointer (some ⟨g127, 0, none⟩)), (196, bool v408)] r ∧ Hp G (bx g75 [int .i64 y72.From, int .i64 y72.Until, int .i64 y72.Width, bool y72.Hyphen] 31 :: bx g26 [int .i64 a10.Before, int .i64 a10.Behind, slice A11 a10.Keep.length c12] 28 :: bx g22 [slice A2 a1.Glyphs.length c3, slice A6 a1.Kerns.length c7] 25 :: bx g127 (List.map (int .i64) v152) 60 :: L) w ∧ True) ?_ ?_
 refine have H:=hC;dC (v397 = true) (fun h414=>?_) fun h414=>?_
 refine yK h414 H fun H=>iK H fun⟨h415, h415'⟩H=>?_
 have ho416 : 0 + Int.toNat 0 * 3 + 3 ≤ 6 := by omega
 refine q_iaA (hw:=gY z z z (vY h414)) (a' := ⟨g127, 0 + Int.toNat 0 * 3, none⟩) ar60 z z h415 h415' (add_plain _ _ _)<|iK H fun⟨h417, h417'⟩H=>?_
 have ho418 : 0 + Int.toNat 0 * 3 + Int.toNat 2 * 1 + 1 ≤ 6 := by have := ho416; omega
 refine q_iaA (hw:=gY z z z (vY h414)) (a' := ⟨g127, 0 + Int.toNat 0 * 3 + Int.toNat 2 * 1, none⟩) ar59 z z h417 h417' (add_plain _ _ _)<|q_lda (hw:=gY z z z (vY h414)) (int .i64) hI401 3 0 ag3 z z hn153 (Nat.lt_of_succ_le ho418)<|q_mul (hw:=gY z z z (vY h414)) z z<|mv (hw:=gY z z z (vY h414)) z<|fa (hw:=gY z z z (vY h414)) fl31_2 z<|ld (hw:=gY z z z (vY h414)) hI401 0 ag3 z z z<|q_sub (hw:=gY z z z (vY h414)) z z<|q_sub (hw:=gY z z z (vY h414)) z z<|q_geq (hw:=gY z z z (vY h414)) z z<|pkt (vY h414) z<|nl<|?_
 cases H
 exact ⟨z, z, ⟨z, z, z, z, z, trivial⟩, hI401, trivial⟩
 refine nK h414 H fun H=>Sk 10 z z (vN h414) z<|pkf (vN h414) z<|nl<|?_
 cases H
 exact ⟨z, z, ⟨z, z, z, z, z, trivial⟩, hI401, trivial⟩
 rintro e r ds wd411 ⟨rfl, rfl, hHas, hI412, _⟩
 rw [hHas.eq]; clear hHas
 refine asn z<|nl<|hK388 _ _ _<|sr fun K419 hK420=>mv z<|mv z<|bK H fun v421 hC H=>?_
 refine wpq_split 5 (K := fun e r ds w => e = .normal ∧ ds = [] ∧ Has [(5, int .i64 a18), (14, pointer (some ⟨g75, 0, none⟩)), (17, pointer (some ⟨g127, 0, none⟩)), (26, bool v408), (203, bool v421)] r ∧ Hp G (bx g75 [int .i64 y72.From, int .i64 y72.Until, int .i64 y72.Width, bool y72.Hyphen] 31 :: bx g26 [int .i64 a10.Before, int .i64 a10.Behind, slice A11 a10.Keep.length c12] 28 :: bx g22 [slice A2 a1.Glyphs.length c3, slice A6 a1.Kerns.length c7] 25 :: bx g127 (List.map (int .i64) v152) 60 :: L) w ∧ True) ?_ ?_
 refine have H:=hC;dC (y36 = true) (fun h427=>?_) fun h427=>?_
 refine yK h427 H fun H=>iK H fun⟨h428, h428'⟩H=>?_
 have ho429 : 0 + Int.toNat 0 * 3 + 3 ≤ 6 := by omega
 refine q_iaA (hw:=gY z z z (vY h427)) (a' := ⟨g127, 0 + Int.toNat 0 * 3, none⟩) ar60 z z h428 h428' (add_plain _ _ _)<|iK H fun⟨h430, h430'⟩H=>?_
 have ho431 : 0 + Int.toNat 0 * 3 + Int.toNat 0 * 1 + 1 ≤ 6 := by have := ho429; omega
 refine q_iaA (hw:=gY z z z (vY h427)) (a' := ⟨g127, 0 + Int.toNat 0 * 3 + Int.toNat 0 * 1, none⟩) ar59 z z h430 h430' (add_plain _ _ _)<|q_lda (hw:=gY z z z (vY h427)) (int .i64) hI412 3 0 ag3 z z hn153 (Nat.lt_of_succ_le ho431)<|q_eql (hw:=gY z z z (vY h427)) z z<|pkt (vY h427) z<|nl<|?_
 cases H
 exact ⟨z, z, ⟨z, z, z, z, z, trivial⟩, hI412, trivial⟩
 refine nK h427 H fun H=>Sk 4 z z (vN h427) z<|pkf (vN h427) z<|nl<|?_
 cases H
 exact ⟨z, z, ⟨z, z, z, z, z, trivial⟩, hI412, trivial⟩
 rintro e r ds wd424 ⟨rfl, rfl, hHas, hI425, _⟩
 rw [hHas.eq]; clear hHas
 refine mv z<|bK H fun v432 hC H=>?_
 refine wpq_split 8 (K := fun e r ds w => e = .normal ∧ ds = [] ∧ Has [(5, int .i64 a18), (14, pointer (some ⟨g75, 0, none⟩)), (17, pointer (some ⟨g127, 0, none⟩)), (26, bool v408), (212, bool v432)] r ∧ Hp G (bx g75 [int .i64 y72.From, int .i64 y72.Until, int .i64 y72.Width, bool y72.Hyphen] 31 :: bx g26 [int .i64 a10.Before, int .i64 a10.Behind, slice A11 a10.Keep.length c12] 28 :: bx g22 [slice A2 a1.Glyphs.length c3, slice A6 a1.Kerns.length c7] 25 :: bx g127 (List.map (int .i64) v152) 60 :: L) w ∧ True) ?_ ?_
 refine have H:=hC;dC (v421 = true) (fun h438=>?_) fun h438=>?_
 refine yK h438 H fun H=>iK H fun⟨h439, h439'⟩H=>?_
 have ho440 : 0 + Int.toNat 0 * 3 + 3 ≤ 6 := by omega
 refine q_iaA (hw:=gY z z z (vY h438)) (a' := ⟨g127, 0 + Int.toNat 0 * 3, none⟩) ar60 z z h439 h439' (add_plain _ _ _)<|iK H fun⟨h441, h441'⟩H=>?_
 have ho442 : 0 + Int.toNat 0 * 3 + Int.toNat 0 * 1 + 1 ≤ 6 := by have := ho440; omega
 refine q_iaA (hw:=gY z z z (vY h438)) (a' := ⟨g127, 0 + Int.toNat 0 * 3 + Int.toNat 0 * 1, none⟩) ar59 z z h441 h441' (add_plain _ _ _)<|q_lda (hw:=gY z z z (vY h438)) (int .i64) hI425 3 0 ag3 z z hn153 (Nat.lt_of_succ_le ho442)<|iK H fun⟨h443, h443'⟩H=>?_
 have ho444 : 0 + Int.toNat 1 * 3 + 3 ≤ 6 := by omega
 refine q_iaA (hw:=gY z z z (vY h438)) (a' := ⟨g127, 0 + Int.toNat 1 * 3, none⟩) ar60 z z h443 h443' (add_plain _ _ _)<|iK H fun⟨h445, h445'⟩H=>?_
 have ho446 : 0 + Int.toNat 1 * 3 + Int.toNat 1 * 1 + 1 ≤ 6 := by have := ho444; omega
 refine q_iaA (hw:=gY z z z (vY h438)) (a' := ⟨g127, 0 + Int.toNat 1 * 3 + Int.toNat 1 * 1, none⟩) ar59 z z h445 h445' (add_plain _ _ _)<|q_lda (hw:=gY z z z (vY h438)) (int .i64) hI425 3 0 ag3 z z hn153 (Nat.lt_of_succ_le ho446)<|q_eql (hw:=gY z z z (vY h438)) z z<|pkt (vY h438) z<|nl<|?_
 cases H
 exact ⟨z, z, ⟨z, z, z, z, z, trivial⟩, hI425, trivial⟩
 refine nK h438 H fun H=>Sk 7 z z (vN h438) z<|pkf (vN h438) z<|nl<|?_
 cases H
 exact ⟨z, z, ⟨z, z, z, z, z, trivial⟩, hI425, trivial⟩
 rintro e r ds wd435 ⟨rfl, rfl, hHas, hI436, _⟩
 rw [hHas.eq]; clear hHas
 refine mv z<|bK H fun v447 hC H=>?_
 refine wpq_split 8 (K := fun e r ds w => e = .normal ∧ ds = [] ∧ Has [(5, int .i64 a18), (14, pointer (some ⟨g75, 0, none⟩)), (17, pointer (some ⟨g127, 0, none⟩)), (26, bool v408), (221, bool v447)] r ∧ Hp G (bx g75 [int .i64 y72.From, int .i64 y72.Until, int .i64 y72.Width, bool y72.Hyphen] 31 :: bx g26 [int .i64 a10.Before, int .i64 a10.Behind, slice A11 a10.Keep.length c12] 28 :: bx g22 [slice A2 a1.Glyphs.length c3, slice A6 a1.Kerns.length c7] 25 :: bx g127 (List.map (int .i64) v152) 60 :: L) w ∧ True) ?_ ?_
 refine have H:=hC;dC (v432 = true) (fun h453=>?_) fun h453=>?_
 refine yK h453 H fun H=>iK H fun⟨h454, h454'⟩H=>?_
 have ho455 : 0 + Int.toNat 0 * 3 + 3 ≤ 6 := by omega
 refine q_iaA (hw:=gY z z z (vY h453)) (a' := ⟨g127, 0 + Int.toNat 0 * 3, none⟩) ar60 z z h454 h454' (add_plain _ _ _)<|iK H fun⟨h456, h456'⟩H=>?_
 have ho457 : 0 + Int.toNat 0 * 3 + Int.toNat 1 * 1 + 1 ≤ 6 := by have := ho455; omega
 refine q_iaA (hw:=gY z z z (vY h453)) (a' := ⟨g127, 0 + Int.toNat 0 * 3 + Int.toNat 1 * 1, none⟩) ar59 z z h456 h456' (add_plain _ _ _)<|q_lda (hw:=gY z z z (vY h453)) (int .i64) hI436 3 0 ag3 z z hn153 (Nat.lt_of_succ_le ho457)<|iK H fun⟨h458, h458'⟩H=>?_
 have ho459 : 0 + Int.toNat 1 * 3 + 3 ≤ 6 := by omega
 refine q_iaA (hw:=gY z z z (vY h453)) (a' := ⟨g127, 0 + Int.toNat 1 * 3, none⟩) ar60 z z h458 h458' (add_plain _ _ _)<|iK H fun⟨h460, h460'⟩H=>?_
 have ho461 : 0 + Int.toNat 1 * 3 + Int.toNat 0 * 1 + 1 ≤ 6 := by have := ho459; omega
 refine q_iaA (hw:=gY z z z (vY h453)) (a' := ⟨g127, 0 + Int.toNat 1 * 3 + Int.toNat 0 * 1, none⟩) ar59 z z h460 h460' (add_plain _ _ _)<|q_lda (hw:=gY z z z (vY h453)) (int .i64) hI436 3 0 ag3 z z hn153 (Nat.lt_of_succ_le ho461)<|q_eql (hw:=gY z z z (vY h453)) z z<|pkt (vY h453) z<|nl<|?_
 cases H
 exact ⟨z, z, ⟨z, z, z, z, z, trivial⟩, hI436, trivial⟩
 refine nK h453 H fun H=>Sk 7 z z (vN h453) z<|pkf (vN h453) z<|nl<|?_
 cases H
 exact ⟨z, z, ⟨z, z, z, z, z, trivial⟩, hI436, trivial⟩
 rintro e r ds wd450 ⟨rfl, rfl, hHas, hI451, _⟩
 rw [hHas.eq]; clear hHas
 refine mv z<|bK H fun v462 hC H=>?_
 refine wpq_split 9 (K := fun e r ds w => e = .normal ∧ ds = [] ∧ Has [(26, bool v408), (231, bool v462)] r ∧ Hp G (bx g75 [int .i64 y72.From, int .i64 y72.Until, int .i64 y72.Width, bool y72.Hyphen] 31 :: bx g26 [int .i64 a10.Before, int .i64 a10.Behind, slice A11 a10.Keep.length c12] 28 :: bx g22 [slice A2 a1.Glyphs.length c3, slice A6 a1.Kerns.length c7] 25 :: bx g127 (List.map (int .i64) v152) 60 :: L) w ∧ True) ?_ ?_
 refine have H:=hC;dC (v447 = true) (fun h468=>?_) fun h468=>?_
 refine yK h468 H fun H=>iK H fun⟨h469, h469'⟩H=>?_
 have ho470 : 0 + Int.toNat 0 * 3 + 3 ≤ 6 := by omega
 refine q_iaA (hw:=gY z z z (vY h468)) (a' := ⟨g127, 0 + Int.toNat 0 * 3, none⟩) ar60 z z h469 h469' (add_plain _ _ _)<|iK H fun⟨h471, h471'⟩H=>?_
 have ho472 : 0 + Int.toNat 0 * 3 + Int.toNat 1 * 1 + 1 ≤ 6 := by have := ho470; omega
 refine q_iaA (hw:=gY z z z (vY h468)) (a' := ⟨g127, 0 + Int.toNat 0 * 3 + Int.toNat 1 * 1, none⟩) ar59 z z h471 h471' (add_plain _ _ _)<|q_lda (hw:=gY z z z (vY h468)) (int .i64) hI451 3 0 ag3 z z hn153 (Nat.lt_of_succ_le ho472)<|mv (hw:=gY z z z (vY h468)) z<|fa (hw:=gY z z z (vY h468)) fl31_2 z<|ld (hw:=gY z z z (vY h468)) hI451 0 ag3 z z z<|q_sub (hw:=gY z z z (vY h468)) z z<|q_eql (hw:=gY z z z (vY h468)) z z<|pkt (vY h468) z<|nl<|?_
 cases H
 exact ⟨z, z, ⟨z, z, trivial⟩, hI451, trivial⟩
 refine nK h468 H fun H=>Sk 8 z z (vN h468) z<|pkf (vN h468) z<|nl<|?_
 cases H
 exact ⟨z, z, ⟨z, z, trivial⟩, hI451, trivial⟩
 rintro e r ds wd465 ⟨rfl, rfl, hHas, hI466, _⟩
 rw [hHas.eq]; clear hHas
 refine mv z<|bK H fun v473 hC H=>?_
 refine wpq_split 2 (K := fun e r ds w => e = .normal ∧ ds = [] ∧ Has [(234, bool v473)] r ∧ Hp G (bx g75 [int .i64 y72.From, int .i64 y72.Until, int .i64 y72.Width, bool y72.Hyphen] 31 :: bx g26 [int .i64 a10.Before, int .i64 a10.Behind, slice A11 a10.Keep.length c12] 28 :: bx g22 [slice A2 a1.Glyphs.length c3, slice A6 a1.Kerns.length c7] 25 :: bx g127 (List.map (int .i64) v152) 60 :: L) w ∧ True) ?_ ?_
 refine have H:=hC;dC (v462 = true) (fun h479=>?_) fun h479=>?_
 refine yK h479 H fun H=>mv (hw:=gY z z z (vY h479)) z<|pkt (vY h479) z<|nl<|?_
 cases H
 exact ⟨z, z, ⟨z, trivial⟩, hI466, trivial⟩
 refine nK h479 H fun H=>wN (gN z z z (vN h479) z)<|pkf (vN h479) z<|nl<|?_
 cases H
 exact ⟨z, z, ⟨z, trivial⟩, hI466, trivial⟩
 rintro e r ds wd476 ⟨rfl, rfl, hHas, hI477, _⟩
 rw [hHas.eq]; clear hHas
 refine asn z<|nl<|hK420 _ _ _<|wr<|have hI480:=Hp.sub hI477 (sd (sd (sd (sd se))));?_
 cases H
 exact rt ⟨_, _, z, z, z⟩ hI480
end Go.Proofs.YtokeiiakkfdmgaaGreatDoor.LG
