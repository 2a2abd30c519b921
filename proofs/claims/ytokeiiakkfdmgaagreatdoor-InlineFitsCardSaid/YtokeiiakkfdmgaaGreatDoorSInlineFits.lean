/-
  The walks: each function computes its plain function: printed by a program out of the translation.
-/
import Derived.Test.YtokeiiakkfdmgaaGreatDoorSc
set_option linter.unusedVariables false
set_option linter.unusedSimpArgs false
set_option maxRecDepth 100000
namespace Go.Proofs.YtokeiiakkfdmgaaGreatDoor.LG
open Go Go.LG Go.RowKit Go.Value
open Go.Lib Go.Shelf Go.Proofs
set_option maxHeartbeats 1000000 in
theorem formelaw17_InlineFits_spec {a1 : api_Font} {a10 : api_Breaks} {a15 : ByteArray} {a16 : Int} {a17 : List Int} {A2 : Option Addr} {c3 : Nat} {A6 : Option Addr} {c7 : Nat} {A11 : Option Addr} {c12 : Nat} {A18 : Option Addr} {c19 : Nat} {r1022 : Bool} {G : Gh} {L : List Itm} {w : World} (H : formelaw17_InlineFits a1 a10 a15 a16 a17 = some r1022) (hI : Hp G (L) w) (hl4 : a1.Glyphs.length ≤ c3) (hD5 : Dat k_api_Glyph G A2 a1.Glyphs) (hl8 : a1.Kerns.length ≤ c7) (hD9 : Dat k_api_Kern G A6 a1.Kerns) (hl13 : a10.Keep.length ≤ c12) (hD14 : Dat Kd.str G A11 a10.Keep) (hl20 : a17.length ≤ c19) (hD21 : Dat (Kd.int .i64) G A18 a17) (hgl : Gl G) :
    Calls Tryz.prog 5 [agg [slice A2 a1.Glyphs.length c3, slice A6 a1.Kerns.length c7].toArray, agg [int .i64 a10.Before, int .i64 a10.Behind, slice A11 a10.Keep.length c12].toArray, string a15, int .i64 a16, slice A18 a17.length c19].toArray w fun e w' => Hp G (L) w' ∧ e = .returned (bool r1022) := by
 refine calls_intro (N := 215) Tryz.func5 z z (Nat.le_of_ble_eq_true z)<|?_
 unfold formelaw17_InlineFits at H
 refine sr fun K22 hK23=>bxk hI z z fun g25 wd26 hI27=>bxk hI27 z z fun g29 wd30 hI31=>asn z<|nl<|hK23 _ _ _<|sr fun K32 hK33=>bK H fun y39 hy34 H=>cv bo9 (formelaw17_head_spec hy34 hI31 (hgl.mono gR)) z z fun wd37 hI38=>asn z<|nl<|hK33 _ _ _<|sQ fun K40 hK41=>sr fun K42 hK43=>?_
 refine lda hI38 1 ag25 z z z z<|lda hI38 0 ag28 z z z z<|mv z<|mv z<|bK H fun y49 hy44 H=>cv bo18 (formelaw17_usable_spec hy44 hI38 hl4 hD5 hl8 hD9 hl13 hD14) z z fun wd47 hI48=>q_not z<|mv z<|bK H fun v50 hC H=>?_
 refine wpq_split 4 (K := fun e r ds w => e = .normal ∧ ds = [] ∧ Has [(2, string a15), (3, int .i64 a16), (4, slice A18 a17.length c19), (5, pointer (some ⟨g25, 0, none⟩)), (6, pointer (some ⟨g29, 0, none⟩)), (11, bool y39), (36, bool v50)] r ∧ Hp G (bx g29 [int .i64 a10.Before, int .i64 a10.Behind, slice A11 a10.Keep.length c12] 28 :: bx g25 [slice A2 a1.Glyphs.length c3, slice A6 a1.Kerns.length c7] 25 :: L) w ∧ True) ?_ ?_
 refine have H:=hC;dC ((!y49) = true) (fun h56=>?_) fun h56=>?_
 refine yK h56 H fun H=>Sk 3 z z (vY h56) z<|pkt (vY h56) z<|nl<|?_
 cases H
 exact ⟨z, z, ⟨z, z, z, z, z, z, z, trivial⟩, hI48, trivial⟩
 refine nK h56 H fun H=>mv (hw:=gY z z z (vN h56)) z<|q_len (hw:=gY z z z (vN h56)) so29 z<|q_gtr (hw:=gY z z z (vN h56)) z z<|pkf (vN h56) z<|nl<|?_
 cases H
 exact ⟨z, z, ⟨z, z, z, z, z, z, z, trivial⟩, hI48, trivial⟩
 rintro e r ds wd53 ⟨rfl, rfl, hHas, hI54, _⟩
 rw [hHas.eq]; clear hHas
 refine nl<|hK43 _ _ _<|dC (v50 = true) (fun h57=>?_) fun h57=>?_
 refine yK h57 H fun H=>wt (vY h57)<|sr fun K58 hK59=>mv z<|asn z<|nl<|hK59 _ _ _<|wr<|have hI60:=Hp.sub hI54 (sd (sd se));?_
 cases H
 exact rt ⟨_, _, z, z, z⟩ hI60
 refine nK h57 H fun H=>wf (vN h57)<|ws<|hK41 _ _ _<|sr fun K61 hK62=>lda hI54 1 ag25 z z z z<|lda hI54 0 ag28 z z z z<|mv z<|mv z<|mv z<|bK2 H fun y68 y75 hy63 H=>q_cv (vs := [agg [slice A2 a1.Glyphs.length c3, slice A6 a1.Kerns.length c7].toArray, agg [int .i64 a10.Before, int .i64 a10.Behind, slice A11 a10.Keep.length c12].toArray, string a15, int .i64 a16, slice A18 a17.length c19]) bo13 z z (inline_Lines_spec hy63 hI54 hl4 hD5 hl8 hD9 hl13 hD14 hl20 hD21 (hgl.mono gR))<|?_
 rintro _ wd66 ⟨A69, c70, G64, hG65, hI67, hl71, hD72, ho73, rfl⟩
 refine ⟨_, rfl, ?_⟩
 refine mv z<|exk z z<|exk z z<|asn z<|asn z<|nl<|hK62 _ _ _<|sQ fun K76 hK77=>sr fun K78 hK79=>mv z<|q_neq z z<|nl<|hK79 _ _ _<|dC (¬ y75 = 0) (fun h80=>?_) fun h80=>?_
 refine yK h80 H fun H=>wt (bY h80)<|sr fun K81 hK82=>mv z<|asn z<|nl<|hK82 _ _ _<|wr<|have hI83:=Hp.sub hI67 (sd (sd (sd se)));?_
 cases H
 exact rt ⟨_, _, z, z, z⟩ (Hp.low hG65 hI83)
 refine nK h80 H fun H=>wf (bN h80)<|ws<|hK77 _ _ _<|sr fun K84 hK85=>lda hI67 1 ag28 z z z z<|mv z<|bK2 H fun y91 y98 hy86 H=>q_cv (vs := [agg [int .i64 a10.Before, int .i64 a10.Behind, slice A11 a10.Keep.length c12].toArray, string a15]) bo19 z z (breaks_List_spec hy86 hI67 hl13 (Dat.mono hG65 hD14))<|?_
 rintro _ wd89 ⟨A92, c93, G87, hG88, hI90, hl94, hD95, ho96, rfl⟩
 refine ⟨_, rfl, ?_⟩
 refine mv z<|exk z z<|exk z z<|asn z<|asn z<|nl<|hK85 _ _ _<|sr fun K99 hK100=>?_
 refine q_bs hI90 (vs := []) (cs := []) el45 ze51 rfl (by decide) rfl rfl (fun g102 wd103 hI104 => ?_)
 obtain ⟨G105, hG106, hI108, hD107⟩ := Hp.publish (xs := ([] : List api_Break)) (n := 0) k_api_Break hI104 rfl rfl
 refine mv z<|?_
 obtain ⟨nw119, hs120, hf121⟩ := src_dat (u := 45) hI108 so45 (Dat.mono hG106 hD95)
 refine iK H fun h118 H=>?_
 refine q_app (xs := ([] : List api_Break)) (ys := y91) k_api_Break hI108 0 el45 ze51 rfl rfl rfl rfl (Own.mk _ _ _) (show ([] : List api_Break).length ≤ 0 from Nat.le_of_ble_eq_true rfl) hD107 hs120 hf121 rfl (by simp only [List.length_cons, List.length_nil] at *; omega) (by simp only [List.length_cons, List.length_nil] at *; omega) (fun A109 c110 G111 wd112 hG113 ho114 hl115 hD116 hI117 => ?_)
 refine mv z<|q_lens so9 z<|q_build (vs := [(0, int .i64 (a15.size : Int))]) (cs := [int .i64 (a15.size : Int), bool false]) ze51 pl51 z z<|?_
 refine q_bs hI117 (vs := [(0, agg [int .i64 (a15.size : Int), bool false].toArray)]) (cs := [int .i64 (a15.size : Int), bool false]) el45 ze51 rfl (by decide) rfl rfl (fun g123 wd124 hI125 => ?_)
 refine iK H fun h135 H=>?_
 refine q_app (xs := ([] : List api_Break) ++ y91) (ys := [(⟨(a15.size : Int), false⟩ : api_Break)]) k_api_Break hI125 1 el45 ze51 rfl rfl rfl rfl ho114 hl115 hD116 (src_bx hI125 0 so45 rfl rfl) ⟨[int .i64 (a15.size : Int), bool false], _, rfl, (mk_api_Break (x := (⟨(a15.size : Int), false⟩ : api_Break))), rfl⟩ rfl (by simp only [List.length_cons, List.length_nil] at *; omega) (by simp only [List.length_cons, List.length_nil] at *; omega) (fun A126 c127 G128 wd129 hG130 ho131 hl132 hD133 hI134 => ?_)
 refine asn z<|nl<|hK100 _ _ _<|sQ fun K136 hK137=>sr fun K138 hK139=>asn z<|nl<|hK139 _ _ _<|wb<|bK H fun o159 hC H=>?_
 refine wpc_mono (Q := fun e r ds w => match (generalizing := false) o159 with | (Sum.inl _) => e = .ret ∧ ds = [] ∧ Has [(10, bool false)] r ∧ Hp G128 (bx g123 [int .i64 (a15.size : Int), bool false] 51 :: bx g29 [int .i64 a10.Before, int .i64 a10.Behind, slice A11 a10.Keep.length c12] 28 :: bx g25 [slice A2 a1.Glyphs.length c3, slice A6 a1.Kerns.length c7] 25 :: tk (slice A126 ((([] : List api_Break) ++ y91) ++ [(⟨(a15.size : Int), false⟩ : api_Break)]).length c127) 2 51 :: tk (slice A92 y91.length c93) 2 51 :: tk (slice A69 y68.length c70) 4 31 :: L) w ∧ True | (Sum.inr _) => e = .exit 0 ∧ ds = [] ∧ Has [(11, bool y39), (15, int .i64 y98)] r ∧ Hp G128 (bx g123 [int .i64 (a15.size : Int), bool false] 51 :: bx g29 [int .i64 a10.Before, int .i64 a10.Behind, slice A11 a10.Keep.length c12] 28 :: bx g25 [slice A2 a1.Glyphs.length c3, slice A6 a1.Kerns.length c7] 25 :: tk (slice A126 ((([] : List api_Break) ++ y91) ++ [(⟨(a15.size : Int), false⟩ : api_Break)]).length c127) 2 51 :: tk (slice A92 y91.length c93) 2 51 :: tk (slice A69 y68.length c70) 4 31 :: L) w ∧ True) ?_ ?_
 refine have hI484:=Hp.front hI134 3 z;have hI485:=Hp.front hI484 3 z;have hI486:=Hp.front hI485 3 z;have hI487:=Hp.front hI486 5 z;have hI488:=Hp.front hI487 5 z;have hI489:=Hp.front hI488 5 z;wpc_loop fun I hLp=>?_
 refine formelaw17_InlineFits_l150.partial_correctness a1 a15 a16 a17 y68 y91 (fun v144 o => ∀ (r : Rg) (w : World), Has [(2, string a15), (3, int .i64 a16), (4, slice A18 a17.length c19), (5, pointer (some ⟨g25, 0, none⟩)), (11, bool y39), (12, slice A69 y68.length c70), (14, slice A126 ((([] : List api_Break) ++ y91) ++ [(⟨(a15.size : Int), false⟩ : api_Break)]).length c127), (15, int .i64 y98), (16, int .i64 v144)] r → Hp G128 (bx g123 [int .i64 (a15.size : Int), bool false] 51 :: bx g29 [int .i64 a10.Before, int .i64 a10.Behind, slice A11 a10.Keep.length c12] 28 :: bx g25 [slice A2 a1.Glyphs.length c3, slice A6 a1.Kerns.length c7] 25 :: tk (slice A126 ((([] : List api_Break) ++ y91) ++ [(⟨(a15.size : Int), false⟩ : api_Break)]).length c127) 2 51 :: tk (slice A92 y91.length c93) 2 51 :: tk (slice A69 y68.length c70) 4 31 :: L) w → o = o159 → I r [] w) ?_ 0 _ hC _ _ ⟨rfl, rfl, rfl, rfl, rfl, rfl, rfl, rfl, rfl, trivial⟩ hI489 rfl
 intro _ ih v144 o H r wd162 hHas hI163 ho
 rw [ho] at H; clear ho
 rw [hHas.eq]; clear hHas
 refine hLp _ _ _<|sQ fun K164 hK165=>sr fun K166 hK167=>mv z<|mv z<|q_len so37 z<|q_lss z z<|nl<|hK167 _ _ _<|dC (v144 < (y68.length : Int)) (fun h168=>?_) fun h168=>?_
 refine yK h168 H fun H=>wt (bY h168)<|ws<|hK165 _ _ _<|sQ fun K169 hK170=>wb<|sQ fun K171 hK172=>sQ fun K173 hK174=>bK H fun v175 hC H=>?_
 refine wpc_mono (Q := fun e r ds w => e = .normal ∧ ds = [] ∧ Has [(2, string a15), (3, int .i64 a16), (4, slice A18 a17.length c19), (5, pointer (some ⟨g25, 0, none⟩)), (11, bool y39), (12, slice A69 y68.length c70), (14, slice A126 ((([] : List api_Break) ++ y91) ++ [(⟨(a15.size : Int), false⟩ : api_Break)]).length c127), (15, int .i64 y98), (16, int .i64 v144), (98, bool v175)] r ∧ Hp G128 (bx g123 [int .i64 (a15.size : Int), bool false] 51 :: bx g29 [int .i64 a10.Before, int .i64 a10.Behind, slice A11 a10.Keep.length c12] 28 :: bx g25 [slice A2 a1.Glyphs.length c3, slice A6 a1.Kerns.length c7] 25 :: tk (slice A126 ((([] : List api_Break) ++ y91) ++ [(⟨(a15.size : Int), false⟩ : api_Break)]).length c127) 2 51 :: tk (slice A92 y91.length c93) 2 51 :: tk (slice A69 y68.length c70) 4 31 :: L) w ∧ True) ?_ ?_
 refine have H:=hC;?_
 refine wpc_quiet mixo (by kernel_rfl) ?_
 refine have hI181:=hI163.drew;wq (mv z wqd) z<|wq (mv z wqd) z<|iK H fun⟨h182, h182'⟩H=>?_
 obtain ⟨ad183, cs184, hA185, hK186, hn187, hc188⟩ := Dat.get (Dat.mono (gT (gT (gT hG88 hG106) hG113) hG130) hD72) z_api_Line (v144) h182 h182'
 obtain ⟨rfl⟩ := open_api_Line hK186
 refine wq (q_ia el37 z hA185 z h182 h182' wqd) z<|wq (q_fa fl31_0 z z wqd) z<|wq (q_lf hI181 ag3 z (gR.cel _ _ (hc188 0 _ z)) wqd) z<|wq (q_lss z z wqd) z<|wq (mv z wqd) z<|dC (((y68.getD (Int.toNat v144) z_api_Line).From) < 0) (fun h189=>?_) fun h189=>?_
 refine yK h189 H fun H=>wq (wN (gN z z z (bY h189) z) wqd) z<|wq (wN (gN z z z (bY h189) z) wqd) z<|wq (wN (gN z z z (bY h189) z) wqd) z<|wq (wN (gN z z z (bY h189) z) wqd) z<|wq (wN (gN z z z (bY h189) z) wqd) z<|wq (wN (gN z z z (bY h189) z) wqd) z<|wq (wN (gN z z z (bY h189) z) wqd) z<|wq (wN (gN z z z (bY h189) z) wqd) z<|wq (wN (gN z z z (bY h189) z) wqd) z<|wq (wN (gN z z z (bY h189) z) wqd) z<|wq (wN (gN z z z (bY h189) z) wqd) z<|wq (pkt (bY h189) z wqd) z<|wq (mv z wqd) z<|?_
 refine wq (wN (gN z z z z z) wqd) z<|wq (wN (gN z z z z z) wqd) z<|wq (wN (gN z z z z z) wqd) z<|wq (wN (gN z z z z z) wqd) z<|wq (wN (gN z z z z z) wqd) z<|wq (wN (gN z z z z z) wqd) z<|wq (wN (gN z z z z z) wqd) z<|wq (wN (gN z z z z z) wqd) z<|wq (pkt z z wqd) z<|wqq_nil<|?_
 cases H
 exact ⟨z, z, ⟨z, z, z, z, z, z, z, z, z, z, trivial⟩, hI181, trivial⟩
 refine nK h189 H fun H=>wq (mv (hw:=gY z z z (bN h189)) z wqd) z<|wq (mv (hw:=gY z z z (bN h189)) z wqd) z<|iK H fun⟨h190, h190'⟩H=>?_
 obtain ⟨ad191, cs192, hA193, hK194, hn195, hc196⟩ := Dat.get (Dat.mono (gT (gT (gT hG88 hG106) hG113) hG130) hD72) z_api_Line (v144) h190 h190'
 obtain ⟨rfl⟩ := open_api_Line hK194
 refine wq (q_ia (hw:=gY z z z (bN h189)) el37 z hA193 z h190 h190' wqd) z<|wq (q_fa (hw:=gY z z z (bN h189)) fl31_1 z z wqd) z<|wq (q_lf (hw:=gY z z z (bN h189)) hI181 ag3 z (gR.cel _ _ (hc196 1 _ z)) wqd) z<|wq (mv (hw:=gY z z z (bN h189)) z wqd) z<|wq (mv (hw:=gY z z z (bN h189)) z wqd) z<|iK H fun⟨h197, h197'⟩H=>?_
 obtain ⟨ad198, cs199, hA200, hK201, hn202, hc203⟩ := Dat.get (Dat.mono (gT (gT (gT hG88 hG106) hG113) hG130) hD72) z_api_Line (v144) h197 h197'
 obtain ⟨rfl⟩ := open_api_Line hK201
 refine wq (q_ia (hw:=gY z z z (bN h189)) el37 z hA200 z h197 h197' wqd) z<|wq (q_fa (hw:=gY z z z (bN h189)) fl31_0 z z wqd) z<|wq (q_lf (hw:=gY z z z (bN h189)) hI181 ag3 z (gR.cel _ _ (hc203 0 _ z)) wqd) z<|wq (q_leq (hw:=gY z z z (bN h189)) z z wqd) z<|wq (pkf (bN h189) z wqd) z<|wq (mv z wqd) z<|dC (((y68.getD (Int.toNat v144) z_api_Line).Until) ≤ ((y68.getD (Int.toNat v144) z_api_Line).From)) (fun h204=>?_) fun h204=>?_
 refine yK h204 H fun H=>wq (wN (gN z z z (bY h204) z) wqd) z<|wq (wN (gN z z z (bY h204) z) wqd) z<|wq (wN (gN z z z (bY h204) z) wqd) z<|wq (wN (gN z z z (bY h204) z) wqd) z<|wq (wN (gN z z z (bY h204) z) wqd) z<|wq (wN (gN z z z (bY h204) z) wqd) z<|wq (wN (gN z z z (bY h204) z) wqd) z<|wq (wN (gN z z z (bY h204) z) wqd) z<|wq (pkt (bY h204) z wqd) z<|wqq_nil<|?_
 cases H
 exact ⟨z, z, ⟨z, z, z, z, z, z, z, z, z, z, trivial⟩, hI181, trivial⟩
 refine nK h204 H fun H=>wq (mv (hw:=gY z z z (bN h204)) z wqd) z<|wq (mv (hw:=gY z z z (bN h204)) z wqd) z<|iK H fun⟨h205, h205'⟩H=>?_
 obtain ⟨ad206, cs207, hA208, hK209, hn210, hc211⟩ := Dat.get (Dat.mono (gT (gT (gT hG88 hG106) hG113) hG130) hD72) z_api_Line (v144) h205 h205'
 obtain ⟨rfl⟩ := open_api_Line hK209
 refine wq (q_ia (hw:=gY z z z (bN h204)) el37 z hA208 z h205 h205' wqd) z<|wq (q_fa (hw:=gY z z z (bN h204)) fl31_1 z z wqd) z<|wq (q_lf (hw:=gY z z z (bN h204)) hI181 ag3 z (gR.cel _ _ (hc211 1 _ z)) wqd) z<|wq (mv (hw:=gY z z z (bN h204)) z wqd) z<|wq (q_lens (hw:=gY z z z (bN h204)) so9 z wqd) z<|wq (q_gtr (hw:=gY z z z (bN h204)) z z wqd) z<|wq (pkf (bN h204) z wqd) z<|wqq_nil<|?_
 cases H
 exact ⟨z, z, ⟨z, z, z, z, z, z, z, z, z, z, trivial⟩, hI181, trivial⟩
 rintro e r ds wd178 ⟨rfl, rfl, hHas, hI179, _⟩
 rw [hHas.eq]; clear hHas
 refine hK174 _ _ _<|dC (v175 = true) (fun h212=>?_) fun h212=>?_
 refine yK h212 H fun H=>wt (vY h212)<|sr fun K213 hK214=>asn z<|nl<|hK214 _ _ _<|wr<|?_
 cases H
 exact ⟨z, z, ⟨z, trivial⟩, hI179, trivial⟩
 refine nK h212 H fun H=>wf (vN h212)<|ws<|hK172 _ _ _<|sr fun K215 hK216=>mv z<|mv z<|mv z<|q_len so29 z<|q_sub z z<|q_min z z<|iK H fun⟨h217, h217'⟩H=>?_
 obtain ⟨ad218, cs219, hA220, hK221, hn222, hc223⟩ := Dat.get (Dat.mono (gT (gT (gT (gT hG65 hG88) hG106) hG113) hG130) hD21) (0 : Int) (min v144 (w64 ((a17.length : Int) - 1))) h217 h217'
 obtain rfl := hK221
 refine q_ia el29 z hA220 z h217 h217'<|q_lf hI179 ag3 z (gR.cel _ _ (hc223 0 _ z))<|asn z<|nl<|hK216 _ _ _<|sQ fun K224 hK225=>?_
 refine wpc_class hI179 mixo (by kernel_rfl) ?_
 refine wq' (fun Gq w hGq Iq=>lda Iq 2 ag25 z z z z wqd) z z<|wq' (fun Gq w hGq Iq=>mv z wqd) z z<|wq' (fun Gq w hGq Iq=>mv z wqd) z z<|wq' (fun Gq w hGq Iq=>mv z wqd) z z<|iK H fun⟨h252, h252'⟩H=>?_
 obtain ⟨ad253, cs254, hA255, hK256, hn257, hc258⟩ := Dat.get (Dat.mono (gT (gT (gT hG88 hG106) hG113) hG130) hD72) z_api_Line (v144) h252 h252'
 obtain ⟨rfl⟩ := open_api_Line hK256
 refine wq' (fun Gq w hGq Iq=>q_ia el37 z hA255 z h252 h252' wqd) z z<|wq' (fun Gq w hGq Iq=>q_fa fl31_0 z z wqd) z z<|wq' (fun Gq w hGq Iq=>q_lf Iq ag3 z (hGq.cel _ _ (hc258 0 _ z)) wqd) z z<|wq' (fun Gq w hGq Iq=>mv z wqd) z z<|wq' (fun Gq w hGq Iq=>mv z wqd) z z<|iK H fun⟨h259, h259'⟩H=>?_
 obtain ⟨ad260, cs261, hA262, hK263, hn264, hc265⟩ := Dat.get (Dat.mono (gT (gT (gT hG88 hG106) hG113) hG130) hD72) z_api_Line (v144) h259 h259'
 obtain ⟨rfl⟩ := open_api_Line hK263
 refine wq' (fun Gq w hGq Iq=>q_ia el37 z hA262 z h259 h259' wqd) z z<|wq' (fun Gq w hGq Iq=>q_fa fl31_1 z z wqd) z z<|wq' (fun Gq w hGq Iq=>q_lf Iq ag3 z (hGq.cel _ _ (hc265 1 _ z)) wqd) z z<|wq' (fun Gq w hGq Iq=>mv z wqd) z z<|wq' (fun Gq w hGq Iq=>mv z wqd) z z<|iK H fun⟨h266, h266'⟩H=>?_
 obtain ⟨ad267, cs268, hA269, hK270, hn271, hc272⟩ := Dat.get (Dat.mono (gT (gT (gT hG88 hG106) hG113) hG130) hD72) z_api_Line (v144) h266 h266'
 obtain ⟨rfl⟩ := open_api_Line hK270
 refine wq' (fun Gq w hGq Iq=>q_ia el37 z hA269 z h266 h266' wqd) z z<|wq' (fun Gq w hGq Iq=>q_fa fl31_3 z z wqd) z z<|wq' (fun Gq w hGq Iq=>q_lf Iq ag4 z (hGq.cel _ _ (hc272 3 _ z)) wqd) z z<|bK H fun y274 hy273 H=>wk (vs := [string a15, int .i64 ((y68.getD (Int.toNat v144) z_api_Line).From), int .i64 ((y68.getD (Int.toNat v144) z_api_Line).Until), bool ((y68.getD (Int.toNat v144) z_api_Line).Hyphen)]) (v := string y274) bo22 z z (fun Gq w hGq Iq => ?_) ?_
 refine Calls.mono (formeref08_Part_spec hy273 Iq)<|?_
 rintro _ w2 ⟨I2, rfl⟩
 exact ⟨z, _, hGq, I2⟩
 refine wq' (fun Gq w hGq Iq=>mv z wqd) z z<|bK2 H fun y276 y277 hy275 H=>wk (vs := [agg [slice A2 a1.Glyphs.length c3, slice A6 a1.Kerns.length c7].toArray, string y274, int .i64 a16]) (v := tuple [int .i64 y276, int .i64 y277].toArray) bo21 z z (fun Gq w hGq Iq => ?_) ?_
 refine Calls.mono (font_Width_spec hy275 Iq hl4 (Dat.mono (gT (gT (gT (gT (gT hG65 hG88) hG106) hG113) hG130) hGq) hD5) hl8 (Dat.mono (gT (gT (gT (gT (gT hG65 hG88) hG106) hG113) hG130) hGq) hD9))<|?_
 rintro _ w2 ⟨I2, rfl⟩
 exact ⟨z, _, hGq, I2⟩
 refine wq' (fun Gq w hGq Iq=>mv z wqd) z z<|wq' (fun Gq w hGq Iq=>exk z z wqd) z z<|wq' (fun Gq w hGq Iq=>exk z z wqd) z z<|wq' (fun Gq w hGq Iq=>asn z wqd) z z<|wq' (fun Gq w hGq Iq=>asn z wqd) z z<|wz fun wd250 G248 hG249 hI251=>hK225 _ _ _<|sr fun K278 hK279=>asn z<|nl<|hK279 _ _ _<|sQ fun K280 hK281=>sr fun K282 hK283=>asn z<|?_
 refine nl<|hK283 _ _ _<|wb<|bK H fun o306 hC H=>?_
 refine wpc_mono (Q := fun e r ds w => match (generalizing := false) o306 with | (Sum.inl _) => e = .ret ∧ ds = [] ∧ Has [(10, bool false)] r ∧ Hp G248 (bx g123 [int .i64 (a15.size : Int), bool false] 51 :: bx g29 [int .i64 a10.Before, int .i64 a10.Behind, slice A11 a10.Keep.length c12] 28 :: bx g25 [slice A2 a1.Glyphs.length c3, slice A6 a1.Kerns.length c7] 25 :: tk (slice A126 ((([] : List api_Break) ++ y91) ++ [(⟨(a15.size : Int), false⟩ : api_Break)]).length c127) 2 51 :: tk (slice A92 y91.length c93) 2 51 :: tk (slice A69 y68.length c70) 4 31 :: L) w ∧ True | (Sum.inr v297) => e = .exit 2 ∧ ds = [] ∧ Has [(2, string a15), (3, int .i64 a16), (4, slice A18 a17.length c19), (5, pointer (some ⟨g25, 0, none⟩)), (11, bool y39), (12, slice A69 y68.length c70), (14, slice A126 ((([] : List api_Break) ++ y91) ++ [(⟨(a15.size : Int), false⟩ : api_Break)]).length c127), (15, int .i64 y98), (16, int .i64 v144), (17, int .i64 (a17.getD (Int.toNat (min v144 (w64 ((a17.length : Int) - 1)))) (0 : Int))), (18, int .i64 y276), (19, int .i64 y277), (20, bool v297)] r ∧ Hp G248 (bx g123 [int .i64 (a15.size : Int), bool false] 51 :: bx g29 [int .i64 a10.Before, int .i64 a10.Behind, slice A11 a10.Keep.length c12] 28 :: bx g25 [slice A2 a1.Glyphs.length c3, slice A6 a1.Kerns.length c7] 25 :: tk (slice A126 ((([] : List api_Break) ++ y91) ++ [(⟨(a15.size : Int), false⟩ : api_Break)]).length c127) 2 51 :: tk (slice A92 y91.length c93) 2 51 :: tk (slice A69 y68.length c70) 4 31 :: L) w ∧ True) ?_ ?_
 refine wpc_loop fun I hLp=>?_
 refine formelaw17_InlineFits_l296.partial_correctness a1 a15 a16 a17 y68 y91 v144 (fun v288 v289 o => ∀ (r : Rg) (w : World), Has [(2, string a15), (3, int .i64 a16), (4, slice A18 a17.length c19), (5, pointer (some ⟨g25, 0, none⟩)), (11, bool y39), (12, slice A69 y68.length c70), (14, slice A126 ((([] : List api_Break) ++ y91) ++ [(⟨(a15.size : Int), false⟩ : api_Break)]).length c127), (15, int .i64 y98), (16, int .i64 v144), (17, int .i64 (a17.getD (Int.toNat (min v144 (w64 ((a17.length : Int) - 1)))) (0 : Int))), (18, int .i64 y276), (19, int .i64 y277), (20, bool v288), (21, int .i64 v289)] r → Hp G248 (bx g123 [int .i64 (a15.size : Int), bool false] 51 :: bx g29 [int .i64 a10.Before, int .i64 a10.Behind, slice A11 a10.Keep.length c12] 28 :: bx g25 [slice A2 a1.Glyphs.length c3, slice A6 a1.Kerns.length c7] 25 :: tk (slice A126 ((([] : List api_Break) ++ y91) ++ [(⟨(a15.size : Int), false⟩ : api_Break)]).length c127) 2 51 :: tk (slice A92 y91.length c93) 2 51 :: tk (slice A69 y68.length c70) 4 31 :: L) w → o = o306 → I r [] w) ?_ true 0 _ hC _ _ ⟨rfl, rfl, rfl, rfl, rfl, rfl, rfl, rfl, rfl, rfl, rfl, rfl, rfl, rfl, trivial⟩ hI251 rfl
 intro _ ih v288 v289 o H r wd309 hHas hI310 ho
 rw [ho] at H; clear ho
 rw [hHas.eq]; clear hHas
 refine hLp _ _ _<|sQ fun K311 hK312=>sr fun K313 hK314=>mv z<|mv z<|q_len so45 z<|q_lss z z<|nl<|hK314 _ _ _<|dC (v289 < (((([] : List api_Break) ++ y91) ++ [(⟨(a15.size : Int), false⟩ : api_Break)]).length : Int)) (fun h315=>?_) fun h315=>?_
 refine yK h315 H fun H=>wt (bY h315)<|ws<|hK312 _ _ _<|sQ fun K316 hK317=>bK H fun o327 hC H=>?_
 refine wpc_mono (Q := fun e r ds w => match (generalizing := false) o327 with | (Sum.inl _) => e = .ret ∧ ds = [] ∧ Has [(10, bool false)] r ∧ Hp G248 (bx g123 [int .i64 (a15.size : Int), bool false] 51 :: bx g29 [int .i64 a10.Before, int .i64 a10.Behind, slice A11 a10.Keep.length c12] 28 :: bx g25 [slice A2 a1.Glyphs.length c3, slice A6 a1.Kerns.length c7] 25 :: tk (slice A126 ((([] : List api_Break) ++ y91) ++ [(⟨(a15.size : Int), false⟩ : api_Break)]).length c127) 2 51 :: tk (slice A92 y91.length c93) 2 51 :: tk (slice A69 y68.length c70) 4 31 :: L) w ∧ True | (Sum.inr v318) => e = .normal ∧ ds = [] ∧ Has [(2, string a15), (3, int .i64 a16), (4, slice A18 a17.length c19), (5, pointer (some ⟨g25, 0, none⟩)), (11, bool y39), (12, slice A69 y68.length c70), (14, slice A126 ((([] : List api_Break) ++ y91) ++ [(⟨(a15.size : Int), false⟩ : api_Break)]).length c127), (15, int .i64 y98), (16, int .i64 v144), (17, int .i64 (a17.getD (Int.toNat (min v144 (w64 ((a17.length : Int) - 1)))) (0 : Int))), (18, int .i64 y276), (19, int .i64 y277), (20, bool v318), (21, int .i64 v289)] r ∧ Hp G248 (bx g123 [int .i64 (a15.size : Int), bool false] 51 :: bx g29 [int .i64 a10.Before, int .i64 a10.Behind, slice A11 a10.Keep.length c12] 28 :: bx g25 [slice A2 a1.Glyphs.length c3, slice A6 a1.Kerns.length c7] 25 :: tk (slice A126 ((([] : List api_Break) ++ y91) ++ [(⟨(a15.size : Int), false⟩ : api_Break)]).length c127) 2 51 :: tk (slice A92 y91.length c93) 2 51 :: tk (slice A69 y68.length c70) 4 31 :: L) w ∧ True) ?_ ?_
 refine have H:=hC;wb<|sr fun K328 hK329=>mv z<|mv z<|iK H fun⟨h330, h330'⟩H=>?_
 obtain ⟨ad331, cs332, hA333, hK334, hn335, hc336⟩ := Dat.get (Dat.mono hG249 hD133) z_api_Break (v289) h330 h330'
 obtain ⟨rfl⟩ := open_api_Break hK334
 refine q_ia el45 z hA333 z h330 h330'<|q_lfA hI310 ag51 z (cs := [int .i64 ((((([] : List api_Break) ++ y91) ++ [(⟨(a15.size : Int), false⟩ : api_Break)]).getD (Int.toNat v289) z_api_Break).At), bool ((((([] : List api_Break) ++ y91) ++ [(⟨(a15.size : Int), false⟩ : api_Break)]).getD (Int.toNat v289) z_api_Break).Hyphen)]) z (fun j v hv => gR.cel _ _ (hc336 j v hv))<|q_alloc hI310 ze51 fun g338 wd339 hI340=>stk hI340 0 ag51 z z z z z z z fun wd341 hI342=>nl<|hK329 _ _ _<|sQ fun K343 hK344=>sQ fun K345 hK346=>bK H fun v347 hC H=>?_
 refine wpc_mono (Q := fun e r ds w => e = .normal ∧ ds = [] ∧ Has [(2, string a15), (3, int .i64 a16), (4, slice A18 a17.length c19), (5, pointer (some ⟨g25, 0, none⟩)), (11, bool y39), (12, slice A69 y68.length c70), (14, slice A126 ((([] : List api_Break) ++ y91) ++ [(⟨(a15.size : Int), false⟩ : api_Break)]).length c127), (15, int .i64 y98), (16, int .i64 v144), (17, int .i64 (a17.getD (Int.toNat (min v144 (w64 ((a17.length : Int) - 1)))) (0 : Int))), (18, int .i64 y276), (19, int .i64 y277), (20, bool v288), (21, int .i64 v289), (22, pointer (some ⟨g338, 0, none⟩)), (157, bool v347)] r ∧ Hp G248 (bx g338 [int .i64 ((((([] : List api_Break) ++ y91) ++ [(⟨(a15.size : Int), false⟩ : api_Break)]).getD (Int.toNat v289) z_api_Break).At), bool ((((([] : List api_Break) ++ y91) ++ [(⟨(a15.size : Int), false⟩ : api_Break)]).getD (Int.toNat v289) z_api_Break).Hyphen)] 51 :: bx g123 [int .i64 (a15.size : Int), bool false] 51 :: bx g29 [int .i64 a10.Before, int .i64 a10.Behind, slice A11 a10.Keep.length c12] 28 :: bx g25 [slice A2 a1.Glyphs.length c3, slice A6 a1.Kerns.length c7] 25 :: tk (slice A126 ((([] : List api_Break) ++ y91) ++ [(⟨(a15.size : Int), false⟩ : api_Break)]).length c127) 2 51 :: tk (slice A92 y91.length c93) 2 51 :: tk (slice A69 y68.length c70) 4 31 :: L) w ∧ True) ?_ ?_
 refine have H:=hC;?_
 refine wpc_quiet mixo (by kernel_rfl) ?_
 refine have hI353:=hI342.drew;wq (fa fl51_0 z wqd) z<|wq (ld hI353 0 ag3 z z z wqd) z<|wq (mv z wqd) z<|wq (mv z wqd) z<|iK H fun⟨h354, h354'⟩H=>?_
 obtain ⟨ad355, cs356, hA357, hK358, hn359, hc360⟩ := Dat.get (Dat.mono (gT (gT (gT (gT hG88 hG106) hG113) hG130) hG249) hD72) z_api_Line (v144) h354 h354'
 obtain ⟨rfl⟩ := open_api_Line hK358
 refine wq (q_ia el37 z hA357 z h354 h354' wqd) z<|wq (q_fa fl31_0 z z wqd) z<|wq (q_lf hI353 ag3 z (gR.cel _ _ (hc360 0 _ z)) wqd) z<|wq (q_leq z z wqd) z<|wq (mv z wqd) z<|dC (((((([] : List api_Break) ++ y91) ++ [(⟨(a15.size : Int), false⟩ : api_Break)]).getD (Int.toNat v289) z_api_Break).At) ≤ ((y68.getD (Int.toNat v144) z_api_Line).From)) (fun h361=>?_) fun h361=>?_
 refine yK h361 H fun H=>wq (wN (gN z z z (bY h361) z) wqd) z<|wq (wN (gN z z z (bY h361) z) wqd) z<|wq (wN (gN z z z (bY h361) z) wqd) z<|wq (wN (gN z z z (bY h361) z) wqd) z<|wq (wN (gN z z z (bY h361) z) wqd) z<|wq (wN (gN z z z (bY h361) z) wqd) z<|wq (wN (gN z z z (bY h361) z) wqd) z<|wq (wN (gN z z z (bY h361) z) wqd) z<|wq (pkt (bY h361) z wqd) z<|wqq_nil<|?_
 cases H
 exact ⟨z, z, ⟨z, z, z, z, z, z, z, z, z, z, z, z, z, z, z, z, trivial⟩, hI353, trivial⟩
 refine nK h361 H fun H=>wq (fa (hw:=gY z z z (bN h361)) fl51_0 z wqd) z<|wq (ld (hw:=gY z z z (bN h361)) hI353 0 ag3 z z z wqd) z<|wq (mv (hw:=gY z z z (bN h361)) z wqd) z<|wq (mv (hw:=gY z z z (bN h361)) z wqd) z<|iK H fun⟨h362, h362'⟩H=>?_
 obtain ⟨ad363, cs364, hA365, hK366, hn367, hc368⟩ := Dat.get (Dat.mono (gT (gT (gT (gT hG88 hG106) hG113) hG130) hG249) hD72) z_api_Line (v144) h362 h362'
 obtain ⟨rfl⟩ := open_api_Line hK366
 refine wq (q_ia (hw:=gY z z z (bN h361)) el37 z hA365 z h362 h362' wqd) z<|wq (q_fa (hw:=gY z z z (bN h361)) fl31_1 z z wqd) z<|wq (q_lf (hw:=gY z z z (bN h361)) hI353 ag3 z (gR.cel _ _ (hc368 1 _ z)) wqd) z<|wq (q_eql (hw:=gY z z z (bN h361)) z z wqd) z<|wq (pkf (bN h361) z wqd) z<|wqq_nil<|?_
 cases H
 exact ⟨z, z, ⟨z, z, z, z, z, z, z, z, z, z, z, z, z, z, z, z, trivial⟩, hI353, trivial⟩
 rintro e r ds wd350 ⟨rfl, rfl, hHas, hI351, _⟩
 rw [hHas.eq]; clear hHas
 refine hK346 _ _ _<|dC (v347 = true) (fun h369=>?_) fun h369=>?_
 refine yK h369 H fun H=>wt (vY h369)<|wx<|have hI370:=Hp.front hI351 6 z;have hI371:=Hp.front hI370 6 z;have hI372:=Hp.front hI371 6 z;have hI373:=Hp.front hI372 6 z;have hI374:=Hp.front hI373 6 z;have hI375:=Hp.front hI374 6 z;have hI376:=Hp.sub hI375 (sk (sk (sk (sk (sk (sk (sd se)))))));?_
 cases H
 exact ⟨z, z, ⟨z, z, z, z, z, z, z, z, z, z, z, z, z, z, trivial⟩, hI376, trivial⟩
 refine nK h369 H fun H=>wf (vN h369)<|ws<|hK344 _ _ _<|sQ fun K377 hK378=>sQ fun K379 hK380=>?_
 refine wpc_quiet mixo (by kernel_rfl) ?_
 refine have hI381:=hI351.drew;wq (fa fl51_0 z wqd) z<|wq (ld hI381 0 ag3 z z z wqd) z<|wq (mv z wqd) z<|wq (mv z wqd) z<|iK H fun⟨h382, h382'⟩H=>?_
 obtain ⟨ad383, cs384, hA385, hK386, hn387, hc388⟩ := Dat.get (Dat.mono (gT (gT (gT (gT hG88 hG106) hG113) hG130) hG249) hD72) z_api_Line (v144) h382 h382'
 obtain ⟨rfl⟩ := open_api_Line hK386
 refine wq (q_ia el37 z hA385 z h382 h382' wqd) z<|wq (q_fa fl31_1 z z wqd) z<|wq (q_lf hI381 ag3 z (gR.cel _ _ (hc388 1 _ z)) wqd) z<|wq (q_lss z z wqd) z<|wqq_nil<|hK380 _ _ _<|dC (((((([] : List api_Break) ++ y91) ++ [(⟨(a15.size : Int), false⟩ : api_Break)]).getD (Int.toNat v289) z_api_Break).At) < ((y68.getD (Int.toNat v144) z_api_Line).Until)) (fun h389=>?_) fun h389=>?_
 refine yK h389 H fun H=>wt (bY h389)<|sr fun K390 hK391=>asn z<|nl<|hK391 _ _ _<|wx<|have hI392:=Hp.front hI381 6 z;have hI393:=Hp.front hI392 6 z;have hI394:=Hp.front hI393 6 z;have hI395:=Hp.front hI394 6 z;have hI396:=Hp.front hI395 6 z;have hI397:=Hp.front hI396 6 z;have hI398:=Hp.sub hI397 (sk (sk (sk (sk (sk (sk (sd se)))))));?_
 cases H
 exact ⟨z, z, ⟨z, z, z, z, z, z, z, z, z, z, z, z, z, z, trivial⟩, hI398, trivial⟩
 refine nK h389 H fun H=>wf (bN h389)<|ws<|hK378 _ _ _<|sQ fun K399 hK400=>?_
 refine wpc_class hI381 mixo (by kernel_rfl) ?_
 refine wq' (fun Gq w hGq Iq=>lda Iq 3 ag25 z z z z wqd) z z<|wq' (fun Gq w hGq Iq=>mv z wqd) z z<|wq' (fun Gq w hGq Iq=>mv z wqd) z z<|wq' (fun Gq w hGq Iq=>mv z wqd) z z<|iK H fun⟨h413, h413'⟩H=>?_
 obtain ⟨ad414, cs415, hA416, hK417, hn418, hc419⟩ := Dat.get (Dat.mono (gT (gT (gT (gT hG88 hG106) hG113) hG130) hG249) hD72) z_api_Line (v144) h413 h413'
 obtain ⟨rfl⟩ := open_api_Line hK417
 refine wq' (fun Gq w hGq Iq=>q_ia el37 z hA416 z h413 h413' wqd) z z<|wq' (fun Gq w hGq Iq=>q_fa fl31_0 z z wqd) z z<|wq' (fun Gq w hGq Iq=>q_lf Iq ag3 z (hGq.cel _ _ (hc419 0 _ z)) wqd) z z<|wq' (fun Gq w hGq Iq=>fa fl51_0 z wqd) z z<|wq' (fun Gq w hGq Iq=>ld Iq 0 ag3 z z z wqd) z z<|wq' (fun Gq w hGq Iq=>fa fl51_1 z wqd) z z<|wq' (fun Gq w hGq Iq=>ld Iq 0 ag4 z z z wqd) z z<|bK H fun y421 hy420 H=>?_
 refine wk (vs := [string a15, int .i64 ((y68.getD (Int.toNat v144) z_api_Line).From), int .i64 ((((([] : List api_Break) ++ y91) ++ [(⟨(a15.size : Int), false⟩ : api_Break)]).getD (Int.toNat v289) z_api_Break).At), bool ((((([] : List api_Break) ++ y91) ++ [(⟨(a15.size : Int), false⟩ : api_Break)]).getD (Int.toNat v289) z_api_Break).Hyphen)]) (v := string y421) bo22 z z (fun Gq w hGq Iq => ?_) ?_
 refine Calls.mono (formeref08_Part_spec hy420 Iq)<|?_
 rintro _ w2 ⟨I2, rfl⟩
 exact ⟨z, _, hGq, I2⟩
 refine wq' (fun Gq w hGq Iq=>mv z wqd) z z<|bK2 H fun y423 y424 hy422 H=>wk (vs := [agg [slice A2 a1.Glyphs.length c3, slice A6 a1.Kerns.length c7].toArray, string y421, int .i64 a16]) (v := tuple [int .i64 y423, int .i64 y424].toArray) bo21 z z (fun Gq w hGq Iq => ?_) ?_
 refine Calls.mono (font_Width_spec hy422 Iq hl4 (Dat.mono (gT (gT (gT (gT (gT (gT hG65 hG88) hG106) hG113) hG130) hG249) hGq) hD5) hl8 (Dat.mono (gT (gT (gT (gT (gT (gT hG65 hG88) hG106) hG113) hG130) hG249) hGq) hD9))<|?_
 rintro _ w2 ⟨I2, rfl⟩
 exact ⟨z, _, hGq, I2⟩
 refine wq' (fun Gq w hGq Iq=>mv z wqd) z z<|wq' (fun Gq w hGq Iq=>exk z z wqd) z z<|wq' (fun Gq w hGq Iq=>exk z z wqd) z z<|wq' (fun Gq w hGq Iq=>asn z wqd) z z<|wq' (fun Gq w hGq Iq=>asn z wqd) z z<|wz fun wd411 G409 hG410 hI412=>hK400 _ _ _<|sr fun K425 hK426=>mv z<|q_neq z z<|mv z<|bK H fun v427 hC H=>?_
 refine wpq_split 4 (K := fun e r ds w => e = .normal ∧ ds = [] ∧ Has [(2, string a15), (3, int .i64 a16), (4, slice A18 a17.length c19), (5, pointer (some ⟨g25, 0, none⟩)), (11, bool y39), (12, slice A69 y68.length c70), (14, slice A126 ((([] : List api_Break) ++ y91) ++ [(⟨(a15.size : Int), false⟩ : api_Break)]).length c127), (15, int .i64 y98), (16, int .i64 v144), (17, int .i64 (a17.getD (Int.toNat (min v144 (w64 ((a17.length : Int) - 1)))) (0 : Int))), (18, int .i64 y276), (19, int .i64 y277), (20, bool v288), (21, int .i64 v289), (189, bool v427)] r ∧ Hp G409 (bx g338 [int .i64 ((((([] : List api_Break) ++ y91) ++ [(⟨(a15.size : Int), false⟩ : api_Break)]).getD (Int.toNat v289) z_api_Break).At), bool ((((([] : List api_Break) ++ y91) ++ [(⟨(a15.size : Int), false⟩ : api_Break)]).getD (Int.toNat v289) z_api_Break).Hyphen)] 51 :: bx g123 [int .i64 (a15.size : Int), bool false] 51 :: bx g29 [int .i64 a10.Before, int .i64 a10.Behind, slice A11 a10.Keep.length c12] 28 :: bx g25 [slice A2 a1.Glyphs.length c3, slice A6 a1.Kerns.length c7] 25 :: tk (slice A126 ((([] : List api_Break) ++ y91) ++ [(⟨(a15.size : Int), false⟩ : api_Break)]).length c127) 2 51 :: tk (slice A92 y91.length c93) 2 51 :: tk (slice A69 y68.length c70) 4 31 :: L) w ∧ True) ?_ ?_
 refine have H:=hC;dC (¬ y424 = 0) (fun h433=>?_) fun h433=>?_
 refine yK h433 H fun H=>Sk 3 z z (bY h433) z<|pkt (bY h433) z<|nl<|?_
 cases H
 exact ⟨z, z, ⟨z, z, z, z, z, z, z, z, z, z, z, z, z, z, z, trivial⟩, hI412, trivial⟩
 refine nK h433 H fun H=>mv (hw:=gY z z z (bN h433)) z<|mv (hw:=gY z z z (bN h433)) z<|q_leq (hw:=gY z z z (bN h433)) z z<|pkf (bN h433) z<|nl<|?_
 cases H
 exact ⟨z, z, ⟨z, z, z, z, z, z, z, z, z, z, z, z, z, z, z, trivial⟩, hI412, trivial⟩
 rintro e r ds wd430 ⟨rfl, rfl, hHas, hI431, _⟩
 rw [hHas.eq]; clear hHas
 refine nl<|hK426 _ _ _<|dC (v427 = true) (fun h434=>?_) fun h434=>?_
 refine yK h434 H fun H=>wt (vY h434)<|sr fun K435 hK436=>asn z<|nl<|hK436 _ _ _<|wr<|have hI437:=Hp.front hI431 6 z;have hI438:=Hp.front hI437 6 z;have hI439:=Hp.front hI438 6 z;have hI440:=Hp.front hI439 6 z;have hI441:=Hp.front hI440 6 z;have hI442:=Hp.front hI441 6 z;have hI443:=Hp.sub hI442 (sk (sk (sk (sk (sk (sk (sd se)))))));?_
 cases H
 exact ⟨z, z, ⟨z, trivial⟩, (Hp.low hG410 hI443), trivial⟩
 refine nK h434 H fun H=>wf (vN h434)<|ws<|have hI444:=Hp.front hI431 6 z;have hI445:=Hp.front hI444 6 z;have hI446:=Hp.front hI445 6 z;have hI447:=Hp.front hI446 6 z;have hI448:=Hp.front hI447 6 z;have hI449:=Hp.front hI448 6 z;have hI450:=Hp.sub hI449 (sk (sk (sk (sk (sk (sk (sd se)))))));?_
 cases H
 exact ⟨z, z, ⟨z, z, z, z, z, z, z, z, z, z, z, z, z, z, trivial⟩, (Hp.low hG410 hI450), trivial⟩
 rcases o327 with _ | v318
 rintro e r ds wd321 ⟨rfl, rfl, hHas, hI322, _⟩
 rw [hHas.eq]; clear hHas
 cases H
 exact ⟨z, z, ⟨z, trivial⟩, hI322, trivial⟩
 rintro e r ds wd325 ⟨rfl, rfl, hHas, hI326, _⟩
 rw [hHas.eq]; clear hHas
 exact hK317 _ _ _<|wpc_region<|mv z<|q_add z z<|asn z<|nl<|ih _ _ _ H _ _ ⟨z, z, z, z, z, z, z, z, z, z, z, z, z, z, trivial⟩ hI326 z
 refine nK h315 H fun H=>wf (bN h315)<|wx<|?_
 cases H
 exact ⟨z, z, ⟨z, z, z, z, z, z, z, z, z, z, z, z, z, trivial⟩, hI310, trivial⟩
 rcases o306 with _ | v297
 rintro e r ds wd300 ⟨rfl, rfl, hHas, hI301, _⟩
 rw [hHas.eq]; clear hHas
 cases H
 exact ⟨z, z, ⟨z, trivial⟩, (Hp.low hG249 hI301), trivial⟩
 rintro e r ds wd304 ⟨rfl, rfl, hHas, hI305, _⟩
 rw [hHas.eq]; clear hHas
 refine hK281 _ _ _<|sr fun K451 hK452=>mv z<|q_neq z z<|mv z<|bK H fun v453 hC H=>?_
 refine wpq_split 8 (K := fun e r ds w => e = .normal ∧ ds = [] ∧ Has [(2, string a15), (3, int .i64 a16), (4, slice A18 a17.length c19), (5, pointer (some ⟨g25, 0, none⟩)), (11, bool y39), (12, slice A69 y68.length c70), (14, slice A126 ((([] : List api_Break) ++ y91) ++ [(⟨(a15.size : Int), false⟩ : api_Break)]).length c127), (15, int .i64 y98), (16, int .i64 v144), (17, int .i64 (a17.getD (Int.toNat (min v144 (w64 ((a17.length : Int) - 1)))) (0 : Int))), (18, int .i64 y276), (20, bool v297), (200, bool v453)] r ∧ Hp G248 (bx g123 [int .i64 (a15.size : Int), bool false] 51 :: bx g29 [int .i64 a10.Before, int .i64 a10.Behind, slice A11 a10.Keep.length c12] 28 :: bx g25 [slice A2 a1.Glyphs.length c3, slice A6 a1.Kerns.length c7] 25 :: tk (slice A126 ((([] : List api_Break) ++ y91) ++ [(⟨(a15.size : Int), false⟩ : api_Break)]).length c127) 2 51 :: tk (slice A92 y91.length c93) 2 51 :: tk (slice A69 y68.length c70) 4 31 :: L) w ∧ True) ?_ ?_
 refine have H:=hC;dC (¬ y277 = 0) (fun h459=>?_) fun h459=>?_
 refine yK h459 H fun H=>Sk 7 z z (bY h459) z<|pkt (bY h459) z<|nl<|?_
 cases H
 exact ⟨z, z, ⟨z, z, z, z, z, z, z, z, z, z, z, z, z, trivial⟩, hI305, trivial⟩
 refine nK h459 H fun H=>mv (hw:=gY z z z (bN h459)) z<|mv (hw:=gY z z z (bN h459)) z<|mv (hw:=gY z z z (bN h459)) z<|iK H fun⟨h460, h460'⟩H=>?_
 obtain ⟨ad461, cs462, hA463, hK464, hn465, hc466⟩ := Dat.get (Dat.mono (gT (gT (gT (gT hG88 hG106) hG113) hG130) hG249) hD72) z_api_Line (v144) h460 h460'
 obtain ⟨rfl⟩ := open_api_Line hK464
 refine q_ia (hw:=gY z z z (bN h459)) el37 z hA463 z h460 h460'<|q_fa (hw:=gY z z z (bN h459)) fl31_2 z z<|q_lf (hw:=gY z z z (bN h459)) hI305 ag3 z (gR.cel _ _ (hc466 2 _ z))<|q_neq (hw:=gY z z z (bN h459)) z z<|pkf (bN h459) z<|nl<|?_
 cases H
 exact ⟨z, z, ⟨z, z, z, z, z, z, z, z, z, z, z, z, z, trivial⟩, hI305, trivial⟩
 rintro e r ds wd456 ⟨rfl, rfl, hHas, hI457, _⟩
 rw [hHas.eq]; clear hHas
 refine mv z<|bK H fun v467 hC H=>?_
 refine wpq_split 8 (K := fun e r ds w => e = .normal ∧ ds = [] ∧ Has [(2, string a15), (3, int .i64 a16), (4, slice A18 a17.length c19), (5, pointer (some ⟨g25, 0, none⟩)), (11, bool y39), (12, slice A69 y68.length c70), (14, slice A126 ((([] : List api_Break) ++ y91) ++ [(⟨(a15.size : Int), false⟩ : api_Break)]).length c127), (15, int .i64 y98), (16, int .i64 v144), (209, bool v467)] r ∧ Hp G248 (bx g123 [int .i64 (a15.size : Int), bool false] 51 :: bx g29 [int .i64 a10.Before, int .i64 a10.Behind, slice A11 a10.Keep.length c12] 28 :: bx g25 [slice A2 a1.Glyphs.length c3, slice A6 a1.Kerns.length c7] 25 :: tk (slice A126 ((([] : List api_Break) ++ y91) ++ [(⟨(a15.size : Int), false⟩ : api_Break)]).length c127) 2 51 :: tk (slice A92 y91.length c93) 2 51 :: tk (slice A69 y68.length c70) 4 31 :: L) w ∧ True) ?_ ?_
 refine have H:=hC;dC (v453 = true) (fun h473=>?_) fun h473=>?_
 refine yK h473 H fun H=>Sk 4 z z (vY h473) z<|Su 2 z<|wN (gN z z z (vY h473) z)<|pkt (vY h473) z<|nl<|?_
 cases H
 exact ⟨z, z, ⟨z, z, z, z, z, z, z, z, z, z, trivial⟩, hI457, trivial⟩
 refine nK h473 H fun H=>mv (hw:=gY z z z (vN h473)) z<|mv (hw:=gY z z z (vN h473)) z<|q_gtr (hw:=gY z z z (vN h473)) z z<|mv (hw:=gY z z z (vN h473)) z<|bK H fun v474 hC H=>?_
 refine wpq_split 3 (K := fun e r ds w => e = .normal ∧ ds = [] ∧ Has [(2, string a15), (3, int .i64 a16), (4, slice A18 a17.length c19), (5, pointer (some ⟨g25, 0, none⟩)), (11, bool y39), (12, slice A69 y68.length c70), (14, slice A126 ((([] : List api_Break) ++ y91) ++ [(⟨(a15.size : Int), false⟩ : api_Break)]).length c127), (15, int .i64 y98), (16, int .i64 v144), (201, bool v453), (202, int .i64 y276), (203, int .i64 (a17.getD (Int.toNat (min v144 (w64 ((a17.length : Int) - 1)))) (0 : Int))), (204, bool (decide ((a17.getD (Int.toNat (min v144 (w64 ((a17.length : Int) - 1)))) (0 : Int)) < y276))), (205, bool (decide ((a17.getD (Int.toNat (min v144 (w64 ((a17.length : Int) - 1)))) (0 : Int)) < y276))), (208, bool v474)] r ∧ Hp G248 (bx g123 [int .i64 (a15.size : Int), bool false] 51 :: bx g29 [int .i64 a10.Before, int .i64 a10.Behind, slice A11 a10.Keep.length c12] 28 :: bx g25 [slice A2 a1.Glyphs.length c3, slice A6 a1.Kerns.length c7] 25 :: tk (slice A126 ((([] : List api_Break) ++ y91) ++ [(⟨(a15.size : Int), false⟩ : api_Break)]).length c127) 2 51 :: tk (slice A92 y91.length c93) 2 51 :: tk (slice A69 y68.length c70) 4 31 :: L) w ∧ True) ?_ ?_
 refine have H:=hC;dC ((a17.getD (Int.toNat (min v144 (w64 ((a17.length : Int) - 1)))) (0 : Int)) < y276) (fun h480=>?_) fun h480=>?_
 refine yK h480 H fun H=>mv (hw:=gY z z z (bY h480)) z<|q_not (hw:=gY z z z (bY h480)) z<|pkt (hw:=gY z z z (vN h473)) (bY h480) z<|nl<|?_
 cases H
 exact ⟨z, z, ⟨z, z, z, z, z, z, z, z, z, z, z, z, z, z, z, trivial⟩, hI457, trivial⟩
 refine nK h480 H fun H=>Sk 2 z z (bN h480) z<|pkf (hw:=gY z z z (vN h473)) (bN h480) z<|nl<|?_
 cases H
 exact ⟨z, z, ⟨z, z, z, z, z, z, z, z, z, z, z, z, z, z, z, trivial⟩, hI457, trivial⟩
 rintro e r ds wd477 ⟨rfl, rfl, hHas, hI478, _⟩
 rw [hHas.eq]; clear hHas
 refine pkf (vN h473) z<|nl<|?_
 cases H
 exact ⟨z, z, ⟨z, z, z, z, z, z, z, z, z, z, trivial⟩, hI478, trivial⟩
 rintro e r ds wd470 ⟨rfl, rfl, hHas, hI471, _⟩
 rw [hHas.eq]; clear hHas
 refine nl<|hK452 _ _ _<|dC (v467 = true) (fun h481=>?_) fun h481=>?_
 refine yK h481 H fun H=>wt (vY h481)<|sr fun K482 hK483=>asn z<|nl<|hK483 _ _ _<|wr<|?_
 cases H
 exact ⟨z, z, ⟨z, trivial⟩, (Hp.low hG249 hI471), trivial⟩
 exact nK h481 H fun H=>wf (vN h481)<|ws<|hK170 _ _ _<|wpc_region<|mv z<|q_add z z<|asn z<|nl<|ih _ _ H _ _ ⟨z, z, z, z, z, z, z, z, z, trivial⟩ (Hp.low hG249 hI471) z
 refine nK h168 H fun H=>wf (bN h168)<|wx<|?_
 cases H
 exact ⟨z, z, ⟨z, z, trivial⟩, hI163, trivial⟩
 rcases o159 with _ | _
 rintro e r ds wd153 ⟨rfl, rfl, hHas, hI154, _⟩
 rw [hHas.eq]; clear hHas
 refine have hI490:=Hp.sub hI154 (sd (sd (sd (sd (sd (sd se))))));?_
 cases H
 exact rt ⟨_, _, z, z, z⟩ (Hp.low (gT (gT (gT (gT hG65 hG88) hG106) hG113) hG130) hI490)
 rintro e r ds wd157 ⟨rfl, rfl, hHas, hI158, _⟩
 rw [hHas.eq]; clear hHas
 refine hK137 _ _ _<|sr fun K491 hK492=>mv z<|mv z<|bK H fun v493 hC H=>?_
 refine wpq_split 3 (K := fun e r ds w => e = .normal ∧ ds = [] ∧ Has [(214, bool v493)] r ∧ Hp G128 (bx g123 [int .i64 (a15.size : Int), bool false] 51 :: bx g29 [int .i64 a10.Before, int .i64 a10.Behind, slice A11 a10.Keep.length c12] 28 :: bx g25 [slice A2 a1.Glyphs.length c3, slice A6 a1.Kerns.length c7] 25 :: tk (slice A126 ((([] : List api_Break) ++ y91) ++ [(⟨(a15.size : Int), false⟩ : api_Break)]).length c127) 2 51 :: tk (slice A92 y91.length c93) 2 51 :: tk (slice A69 y68.length c70) 4 31 :: L) w ∧ True) ?_ ?_
 refine have H:=hC;dC (y39 = true) (fun h499=>?_) fun h499=>?_
 refine yK h499 H fun H=>mv (hw:=gY z z z (vY h499)) z<|q_eql (hw:=gY z z z (vY h499)) z z<|pkt (vY h499) z<|nl<|?_
 cases H
 exact ⟨z, z, ⟨z, trivial⟩, hI158, trivial⟩
 refine nK h499 H fun H=>Sk 2 z z (vN h499) z<|pkf (vN h499) z<|nl<|?_
 cases H
 exact ⟨z, z, ⟨z, trivial⟩, hI158, trivial⟩
 rintro e r ds wd496 ⟨rfl, rfl, hHas, hI497, _⟩
 rw [hHas.eq]; clear hHas
 refine asn z<|nl<|hK492 _ _ _<|wr<|have hI500:=Hp.sub hI497 (sd (sd (sd (sd (sd (sd se))))));?_
 cases H
 exact rt ⟨_, _, z, z, z⟩ (Hp.low (gT (gT (gT (gT hG65 hG88) hG106) hG113) hG130) hI500)
end Go.Proofs.YtokeiiakkfdmgaaGreatDoor.LG
