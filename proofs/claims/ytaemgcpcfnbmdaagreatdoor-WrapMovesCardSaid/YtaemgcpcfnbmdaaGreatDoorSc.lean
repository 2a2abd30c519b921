/-
  The walks: each function computes its plain function: printed by a program out of the translation.
-/
import Derived.Test.YtaemgcpcfnbmdaaGreatDoorSb
set_option linter.unusedVariables false
set_option linter.unusedSimpArgs false
set_option maxRecDepth 100000
namespace Go.Proofs.YtaemgcpcfnbmdaaGreatDoor.LG
open Go Go.LG Go.RowKit Go.Value
set_option maxHeartbeats 1000000
open Go.Lib Go.Shelf Go.Proofs
theorem bidi_Order_spec {a1 a2 r1003 r1010 G L w} (H : bidi_Order a1 a2 = some (r1003, r1010)) (hI : Hp G L w) :
    Calls Tryz.prog 81 [string a1, int .i64 a2].toArray w fun e w' => ∃ (A1004 : Option Addr) (n1005 : Nat) (c1006 : Nat) (G' : Gh), G ≤ G' ∧ Hp G' (rwI G' (Kd.int .i64) A1004 [] r1003 [] c1006 3 :: L) w' ∧ r1003.length = n1005 ∧ Mw A1004 A1004 ([] : List Int).length n1005 c1006 c1006 1 ∧ e = .returned (tuple [slice A1004 n1005 c1006, int .i64 r1010].toArray) := by
 refine calls_intro (N := 37) Tryz.func81 z z (Nat.le_of_ble_eq_true z)<|?_
 unfold bidi_Order at H
 refine sr fun K3 hK4=>asn z<|asn z<|nl<|hK4 _ _ _<|sr fun K5 hK6=>mv z<|mv z<|bK2 H fun y12 y19 hy7 H=>q_cv (vs := [string a1, int .i64 a2]) bo116 z z (bidi_Levels_spec hy7 hI)<|?_
 rintro _ wd10 ⟨A13, n14, c15, G8, hG9, hI11, hn16, hM17, rfl⟩
 refine ⟨_, rfl, ?_⟩
 refine mv z<|exk z z<|exk z z<|asn z<|asn z<|nl<|hK6 _ _ _<|sQ fun K20 hK21=>sr fun K22 hK23=>mv z<|q_neq z z<|nl<|hK23 _ _ _<|dC (¬ y19 = 0) (fun h24=>?_) fun h24=>?_
 refine yK h24 H fun H=>wt (bY h24)<|sr fun K25 hK26=>mv z<|asn z<|asn z<|nl<|hK26 _ _ _<|wr<|have hI27:=Hp.emp hI11;have hI29:=Hp.pick 2 [0] hI27 z;?_
 cases H
 exact ⟨.inr z, z, _, ⟨_, _, z, z, ⟨_, _, z, z, z⟩⟩, none, 0, 0, _, hG9, hI29, z, ⟨.inl z, Nat.le_refl _⟩, z⟩
 refine nK h24 H fun H=>wf (bN h24)<|ws<|hK21 _ _ _<|sr fun K30 hK31=>mv z<|q_lens so9 z<|iK H fun⟨h32, h32', h32''⟩H=>q_mks (kd := (Kd.int .i64)) (z := (0 : Int)) hI11 el44 ze3 z z z z h32 h32' h32'' fun g34 n35 wd36 hn38 hI37=>asn z<|nl<|hK31 _ _ _<|sQ fun K39 hK40=>sr fun K41 hK42=>?_
 refine mv z<|q_lenm so44 z hn38<|mv z<|nl<|hK42 _ _ _<|wb<|bK H fun v62 hC H=>?_
 refine wpc_mono (Q := fun e r ds w => e = .exit 0 ∧ ∃ (Gr64 : Gh) (G66 : Gh), ds = [] ∧ G8 ≤ G66 ∧ Has [(6, slice A13 n14 c15), (8, slice (some ⟨g34, 0, none⟩) n35 n35)] r ∧ Hp G66 (rwI Gr64 (Kd.int .i64) (some ⟨g34, 0, none⟩) [] v62 [] n35 3 :: rwI G8 (Kd.int .i64) A13 [] y12 [] c15 3 :: L) w ∧ v62.length = n35 ∧ Gr64 ≤ G66 ∧ True) ?_ ?_
 refine wpc_loop fun I hLp=>?_
 refine bidi_Order_l61.partial_correctness a1 (fun v47 v49 o => ∀ (Gr50 : Gh) (G71 : Gh) (r : Rg) (w : World), G8 ≤ G71 → Has [(6, slice A13 n14 c15), (8, slice (some ⟨g34, 0, none⟩) n35 n35), (23, int .i64 ((List.replicate (Int.toNat (a1.size : Int)) (0 : Int)).length : Int)), (24, int .i64 v49)] r → Hp G71 (rwI Gr50 (Kd.int .i64) (some ⟨g34, 0, none⟩) [] v47 [] n35 3 :: rwI G8 (Kd.int .i64) A13 [] y12 [] c15 3 :: L) w → v47.length = n35 → Gr50 ≤ G71 → o = v62 → I r [] w) ?_ (List.replicate (Int.toNat (a1.size : Int)) (0 : Int)) 0 _ hC G8 _ _ _ gR ⟨rfl, rfl, rfl, rfl, tv⟩ hI37 hn38 gR rfl
 intro _ ih v47 v49 o H Gr50 G71 r wd73 hG72 hHas hI74 hn48 hGr51 ho
 rw [ho] at H; clear ho
 rw [hHas.eq]; clear hHas
 refine hLp _ _ _<|sr fun K75 hK76=>q_lss z z<|nl<|hK76 _ _ _<|sQ fun K77 hK78=>dC (v49 < ((List.replicate (Int.toNat (a1.size : Int)) (0 : Int)).length : Int)) (fun h79=>?_) fun h79=>?_
 refine yK h79 H fun H=>wt (bY h79)<|ws<|hK78 _ _ _<|sQ fun K80 hK81=>wb<|sr fun K82 hK83=>mv z<|asn z<|nl<|hK83 _ _ _<|wpc_region<|mv z<|mv z<|?_
 refine mv z<|iK H fun⟨h84, h84'⟩H=>have hb85:=lt_n hn38 h84';?_
 obtain ⟨ad86, hA87⟩ := Mw.ad (Mw.new (α := Int) g34 n35 1) h84 hb85
 exact q_ia el44 z hA87 z h84 hb85<|q_stm (kd := (Kd.int .i64)) hI74 0 (v := int .i64 v49) (news := [int .i64 v49]) (0 : Int) v49 ag3 z (Mw.new (α := Int) g34 n35 1) hn48 hA87 h84 hb85 (add_zero' _) z z z z z (Nat.le_of_ble_eq_true z) gR (fun _ ho => setAll_K ho z z) fun wd88 hI89=>nl<|hK81 _ _ _<|wpc_region<|q_add z z<|mv z<|nl<|have hI90:=Hp.rwUp hI89 0 z hGr51;ih _ _ _ H G71 _ _ _ hG72 ⟨z, z, z, z, tv⟩ hI90 (set_len hn48) gR z
 refine nK h79 H fun H=>wf (bN h79)<|wx<|have hI91:=Hp.rwUp hI74 0 z hGr51;?_
 cases H
 exact ⟨z, G71, _, z, hG72, ⟨z, z, tv⟩, hI91, hn48, gR, tv⟩
 rintro e r ds wd68 ⟨rfl, Gr64, G66, rfl, hG67, hHas, hI69, hn63, hGr65, _⟩
 rw [hHas.eq]; clear hHas
 refine hK40 _ _ _<|sr fun K92 hK93=>mv z<|mv z<|?_
 refine q_bs hI69 (vs := [(0, int .i64 2), (1, int .i64 1)]) (cs := [int .i64 2, int .i64 1]) el44 ze3 rfl (by decide) rfl rfl (fun g95 wd96 hI97 => ?_)
 obtain ⟨G98, hG99, hI101, hD100⟩ := Hp.publish (xs := ([2, 1] : List Int)) (n := 2) (Kd.int .i64) hI97 ⟨[int .i64 2], _, rfl, rfl, ⟨[int .i64 1], _, rfl, rfl, rfl⟩⟩ rfl
 obtain ⟨G110, hG111, hI112, hD113, ho114, hl115⟩ := Hp.rwFreeze hI101 2 rfl hM17 hn16 (gT hG67 hG99)
 have hn116 : y12.length = n14 := hn16
 subst hn116
 refine have hI118:=Hp.rwUp hI112 1 z (gT hGr65 (gT hG99 hG111));have hI121:=Hp.pick 3 [1, 0, 2] hI118 z;bK H fun y127 hy122 H=>q_cv (vs := [slice (some ⟨g34, 0, none⟩) n35 n35, slice A13 y12.length c15, slice (some ⟨g95, 0, none⟩) ([2, 1] : List Int).length 2]) bo117 z z (bidi_turn_k3_spec (a17 := ([2, 1] : List Int)) hy122 hI121 hn63 (Mw.new (α := Int) g34 n35 1) hl115 hD113 (show ([2, 1] : List Int).length ≤ 2 from Nat.le_of_ble_eq_true z) (Dat.mono hG111 hD100))<|?_
 rintro _ wd125 ⟨G123, hG124, hI126, hn128, rfl⟩
 refine ⟨_, rfl, ?_⟩
 refine nl<|hK93 _ _ _<|sr fun K129 hK130=>mv z<|asn z<|asn z<|nl<|hK130 _ _ _<|wr<|have hI131:=Hp.pick 3 [0] hI126 z;?_
 cases H
 exact ⟨.inr z, z, _, ⟨_, _, z, z, ⟨_, _, z, z, z⟩⟩, (some ⟨g34, 0, none⟩), n35, n35, _, (gT (gT (gT (gT hG9 hG67) hG99) hG111) hG124), hI131, hn128, (Mw.new (α := Int) g34 n35 1), z⟩
theorem bidi_Visual_spec {a1 a2 r1003 r1004 G L w} (H : bidi_Visual a1 a2 = some (r1003, r1004)) (hI : Hp G L w) :
    Calls Tryz.prog 42 [string a1, int .i64 a2].toArray w fun e w' => Hp G L w' ∧ e = .returned (tuple [string r1003, int .i64 r1004].toArray) := by
 refine calls_intro (N := 37) Tryz.func42 z z (Nat.le_of_ble_eq_true z)<|?_
 unfold bidi_Visual at H
 refine sr fun K3 hK4=>asn z<|asn z<|nl<|hK4 _ _ _<|sr fun K5 hK6=>mv z<|mv z<|bK2 H fun y12 y19 hy7 H=>q_cv (vs := [string a1, int .i64 a2]) bo81 z z (bidi_Order_spec hy7 hI)<|?_
 rintro _ wd10 ⟨A13, n14, c15, G8, hG9, hI11, hn16, hM17, rfl⟩
 refine ⟨_, rfl, ?_⟩
 refine mv z<|exk z z<|exk z z<|asn z<|asn z<|nl<|hK6 _ _ _<|sr fun K20 hK21=>mv z<|q_lenm so44 z hn16<|iK H fun⟨h22, h22', h22''⟩H=>q_mks (kd := (Kd.int .u8)) (z := (0 : Int)) hI11 el133 ze5 z z z z h22 h22' h22'' fun g24 n25 wd26 hn28 hI27=>asn z<|nl<|?_
 refine hK21 _ _ _<|sQ fun K29 hK30=>sr fun K31 hK32=>mv z<|q_lenm so44 z hn16<|mv z<|nl<|hK32 _ _ _<|wb<|bK H fun v52 hC H=>?_
 refine wpc_mono (Q := fun e r ds w => e = .exit 0 ∧ ∃ (Gr54 : Gh) (G56 : Gh), ds = [] ∧ G8 ≤ G56 ∧ Has [(7, int .i64 y19), (8, slice (some ⟨g24, 0, none⟩) n25 n25)] r ∧ Hp G56 (rwI Gr54 (Kd.int .u8) (some ⟨g24, 0, none⟩) [] v52 [] n25 5 :: rwI G8 (Kd.int .i64) A13 [] y12 [] c15 3 :: L) w ∧ v52.length = n25 ∧ Gr54 ≤ G56 ∧ True) ?_ ?_
 refine wpc_loop fun I hLp=>?_
 refine bidi_Visual_l51.partial_correctness a1 y12 (fun v37 v39 o => ∀ (Gr40 : Gh) (G61 : Gh) (r : Rg) (w : World), G8 ≤ G61 → Has [(0, string a1), (7, int .i64 y19), (8, slice (some ⟨g24, 0, none⟩) n25 n25), (20, slice A13 n14 c15), (21, int .i64 (y12.length : Int)), (22, int .i64 v39)] r → Hp G61 (rwI Gr40 (Kd.int .u8) (some ⟨g24, 0, none⟩) [] v37 [] n25 5 :: rwI G8 (Kd.int .i64) A13 [] y12 [] c15 3 :: L) w → v37.length = n25 → Gr40 ≤ G61 → o = v52 → I r [] w) ?_ (List.replicate (Int.toNat (y12.length : Int)) (0 : Int)) 0 _ hC G8 _ _ _ gR ⟨rfl, rfl, rfl, rfl, rfl, rfl, tv⟩ hI27 hn28 gR rfl
 intro _ ih v37 v39 o H Gr40 G61 r wd63 hG62 hHas hI64 hn38 hGr41 ho
 rw [ho] at H; clear ho
 rw [hHas.eq]; clear hHas
 refine hLp _ _ _<|sr fun K65 hK66=>q_lss z z<|nl<|hK66 _ _ _<|sQ fun K67 hK68=>dC (v39 < (y12.length : Int)) (fun h69=>?_) fun h69=>?_
 refine yK h69 H fun H=>wt (bY h69)<|ws<|hK68 _ _ _<|sQ fun K70 hK71=>wb<|sr fun K72 hK73=>mv z<|iK H fun⟨h74, h74'⟩H=>have hb75:=lt_n hn16 h74';?_
 obtain ⟨ad76, hA77⟩ := Mw.ad hM17 h74 hb75
 refine q_ia el44 z hA77 z h74 hb75<|?_
 obtain ⟨_, rfl, _, hc79⟩ := Hp.rwGet hI64 1 rfl hM17 hn16 hA77 (0 : Int) h74 hb75
 refine q_load1 (v := int .i64 (y12.getD (Int.toNat v39) (0 : Int))) ag3 z (cell0 (hc79 0 _ z))<|asn z<|asn z<|nl<|hK73 _ _ _<|wpc_region<|mv z<|mv z<|mv z<|mv z<|iK H fun⟨h80, h80'⟩H=>q_is so9 z z h80 h80' z<|iK H fun⟨h81, h81'⟩H=>have hb82:=lt_n hn28 h81';?_
 obtain ⟨ad83, hA84⟩ := Mw.ad (Mw.new (α := Int) g24 n25 1) h81 hb82
 exact q_ia el133 z hA84 z h81 hb82<|q_stm (kd := (Kd.int .u8)) hI64 0 (v := int .u8 (bt a1 (y12.getD (Int.toNat v39) (0 : Int)))) (news := [int .u8 (bt a1 (y12.getD (Int.toNat v39) (0 : Int)))]) (0 : Int) (bt a1 (y12.getD (Int.toNat v39) (0 : Int))) ag5 z (Mw.new (α := Int) g24 n25 1) hn38 hA84 h81 hb82 (add_zero' _) z z z z z (Nat.le_of_ble_eq_true z) gR (fun _ ho => setAll_K ho z z) fun wd85 hI86=>nl<|hK71 _ _ _<|wpc_region<|q_add z z<|mv z<|nl<|have hI87:=Hp.rwUp hI86 0 z hGr41;ih _ _ _ H G61 _ _ _ hG62 ⟨z, z, z, z, z, z, tv⟩ hI87 (set_len hn38) gR z
 refine nK h69 H fun H=>wf (bN h69)<|wx<|have hI88:=Hp.rwUp hI64 0 z hGr41;?_
 cases H
 exact ⟨z, G61, _, z, hG62, ⟨z, z, tv⟩, hI88, hn38, gR, tv⟩
 rintro e r ds wd58 ⟨rfl, Gr54, G56, rfl, hG57, hHas, hI59, hn53, hGr55, _⟩
 rw [hHas.eq]; clear hHas
 refine hK30 _ _ _<|sr fun K89 hK90=>mv z<|?_
 obtain ⟨G91, hG92, hI93, hD94, ho95, hl96⟩ := Hp.rwFreeze hI59 0 rfl (Mw.new (α := Int) g24 n25 1) hn53 hGr55
 have hn97 : v52.length = n25 := hn53
 subst hn97
 refine q_cvb hI93 el133 ik5 so9 z z hD94<|mv z<|asn z<|asn z<|nl<|hK90 _ _ _<|wr<|have hI99:=Hp.pick 2 [] hI93 z;?_
 cases H
 exact rt ⟨_, _, z, z, ⟨_, _, z, z, z⟩⟩ (Hp.low (gT (gT hG9 hG57) hG92) hI99)
theorem inline_Place_spec {a1 a10 a11 a12 a13 a14 a15 A2 c3 A6 c7 r1016 r1017 r1018 G L w} (H : inline_Place a1 a10 a11 a12 a13 a14 a15 = some (r1016, r1017, r1018)) (hI : Hp G L w) (hl4 : a1.Glyphs.length ≤ c3) (hD5 : Dat k_api_Glyph G A2 a1.Glyphs) (hl8 : a1.Kerns.length ≤ c7) (hD9 : Dat k_api_Kern G A6 a1.Kerns) (hgl : Gl G) :
    Calls Tryz.prog 17 [agg [slice A2 a1.Glyphs.length c3, slice A6 a1.Kerns.length c7].toArray, string a10, agg [int .i64 a11.From, int .i64 a11.Until, int .i64 a11.Width, bool a11.Hyphen].toArray, int .i64 a12, int .i64 a13, int .i64 a14, int .i64 a15].toArray w fun e w' => Hp G L w' ∧ e = .returned (tuple [string r1016, int .i64 r1017, int .i64 r1018].toArray) := by
 refine calls_intro (N := 112) Tryz.func17 z z (Nat.le_of_ble_eq_true z)<|?_
 unfold inline_Place at H
 refine sr fun K16 hK17=>bxk hI z z fun g19 wd20 hI21=>bxk hI21 z z fun g23 wd24 hI25=>asn z<|asn z<|asn z<|nl<|hK17 _ _ _<|sr fun K26 hK27=>mv z<|bK H fun y33 hy28 H=>cv bo33 (inline_within_int_spec hy28 hI25) z z fun wd31 hI32=>mv z<|bK H fun v34 hC H=>?_
 refine js 3 hI32 [(1, string a10), (3, int .i64 a12), (4, int .i64 a13), (5, int .i64 a14), (6, int .i64 a15), (7, pointer (some ⟨g19, 0, none⟩)), (9, pointer (some ⟨g23, 0, none⟩)), (29, bool v34)] ?_ fun _ wd37 hI38=>?_
 refine have H:=hC;dC (y33 = true) (fun h40=>?_) fun h40=>?_
 refine yK h40 H fun H=>mv (hw:=gY z z z (vY h40)) z<|bK H fun y46 hy41 H=>cv (hw:=gY z z z (vY h40)) bo33 (inline_within_int_spec hy41 hI32) z z fun wd44 hI45=>pkt (vY h40) z<|nl<|?_
 cases H
 exact je ⟨z, z, z, z, z, z, z, z, tv⟩ hI45
 refine nK h40 H fun H=>Sk 2 z z (vN h40) z<|pkf (vN h40) z<|nl<|?_
 cases H
 exact je ⟨z, z, z, z, z, z, z, z, tv⟩ hI32
 refine mv z<|bK H fun v47 hC H=>js 3 hI38 [(1, string a10), (3, int .i64 a12), (4, int .i64 a13), (5, int .i64 a14), (6, int .i64 a15), (7, pointer (some ⟨g19, 0, none⟩)), (9, pointer (some ⟨g23, 0, none⟩)), (33, bool v47)] ?_ fun _ wd50 hI51=>?_
 refine have H:=hC;dC (v34 = true) (fun h53=>?_) fun h53=>?_
 refine yK h53 H fun H=>mv (hw:=gY z z z (vY h53)) z<|bK H fun y59 hy54 H=>cv (hw:=gY z z z (vY h53)) bo33 (inline_within_int_spec hy54 hI38) z z fun wd57 hI58=>pkt (vY h53) z<|nl<|?_
 cases H
 exact je ⟨z, z, z, z, z, z, z, z, tv⟩ hI58
 refine nK h53 H fun H=>Sk 2 z z (vN h53) z<|pkf (vN h53) z<|nl<|?_
 cases H
 exact je ⟨z, z, z, z, z, z, z, z, tv⟩ hI38
 refine mv z<|bK H fun v60 hC H=>js 3 hI51 [(1, string a10), (3, int .i64 a12), (4, int .i64 a13), (5, int .i64 a14), (6, int .i64 a15), (7, pointer (some ⟨g19, 0, none⟩)), (9, pointer (some ⟨g23, 0, none⟩)), (37, bool v60)] ?_ fun _ wd63 hI64=>?_
 refine have H:=hC;dC (v47 = true) (fun h66=>?_) fun h66=>?_
 refine yK h66 H fun H=>mv (hw:=gY z z z (vY h66)) z<|bK H fun y72 hy67 H=>cv (hw:=gY z z z (vY h66)) bo33 (inline_within_int_spec hy67 hI51) z z fun wd70 hI71=>pkt (vY h66) z<|nl<|?_
 cases H
 exact je ⟨z, z, z, z, z, z, z, z, tv⟩ hI71
 refine nK h66 H fun H=>Sk 2 z z (vN h66) z<|pkf (vN h66) z<|nl<|?_
 cases H
 exact je ⟨z, z, z, z, z, z, z, z, tv⟩ hI51
 refine asn z<|nl<|hK27 _ _ _<|sQ fun K73 hK74=>sr fun K75 hK76=>mv z<|q_not z<|mv z<|bK H fun v77 hC H=>js 4 hI64 [(1, string a10), (3, int .i64 a12), (4, int .i64 a13), (5, int .i64 a14), (6, int .i64 a15), (7, pointer (some ⟨g19, 0, none⟩)), (9, pointer (some ⟨g23, 0, none⟩)), (44, bool v77)] ?_ fun _ wd80 hI81=>?_
 refine have H:=hC;dC ((!v60) = true) (fun h83=>?_) fun h83=>?_
 refine yK h83 H fun H=>Sk 3 z z (vY h83) z<|pkt (vY h83) z<|nl<|?_
 cases H
 exact je ⟨z, z, z, z, z, z, z, z, tv⟩ hI64
 refine nK h83 H fun H=>lda (hw:=gY z z z (vN h83)) hI64 1 ag25 z z z z<|bK H fun y89 hy84 H=>cv (hw:=gY z z z (vN h83)) bo38 (font_Valid_spec hy84 hI64 hl4 hD5 hl8 hD9) z z fun wd87 hI88=>q_not (hw:=gY z z z (vN h83)) z<|pkf (vN h83) z<|nl<|?_
 cases H
 exact je ⟨z, z, z, z, z, z, z, z, tv⟩ hI88
 refine mv z<|bK H fun v90 hC H=>js 4 hI81 [(1, string a10), (3, int .i64 a12), (4, int .i64 a13), (5, int .i64 a14), (6, int .i64 a15), (7, pointer (some ⟨g19, 0, none⟩)), (9, pointer (some ⟨g23, 0, none⟩)), (49, bool v90)] ?_ fun _ wd93 hI94=>?_
 refine have H:=hC;dC (v77 = true) (fun h96=>?_) fun h96=>?_
 refine yK h96 H fun H=>Sk 3 z z (vY h96) z<|pkt (vY h96) z<|nl<|?_
 cases H
 exact je ⟨z, z, z, z, z, z, z, z, tv⟩ hI81
 refine nK h96 H fun H=>mv (hw:=gY z z z (vN h96)) z<|bK H fun y102 hy97 H=>cv (hw:=gY z z z (vN h96)) bo39 (text_Valid_spec hy97 hI81) z z fun wd100 hI101=>q_not (hw:=gY z z z (vN h96)) z<|pkf (vN h96) z<|nl<|?_
 cases H
 exact je ⟨z, z, z, z, z, z, z, z, tv⟩ hI101
 refine mv z<|bK H fun v103 hC H=>js 4 hI94 [(1, string a10), (3, int .i64 a12), (4, int .i64 a13), (5, int .i64 a14), (6, int .i64 a15), (7, pointer (some ⟨g19, 0, none⟩)), (9, pointer (some ⟨g23, 0, none⟩)), (54, bool v103)] ?_ fun _ wd106 hI107=>?_
 refine have H:=hC;dC (v90 = true) (fun h109=>?_) fun h109=>?_
 refine yK h109 H fun H=>Sk 3 z z (vY h109) z<|pkt (vY h109) z<|nl<|?_
 cases H
 exact je ⟨z, z, z, z, z, z, z, z, tv⟩ hI94
 refine nK h109 H fun H=>fa (hw:=gY z z z (vN h109)) fl46_0 z<|ld (hw:=gY z z z (vN h109)) hI94 0 ag3 z z z<|q_lss (hw:=gY z z z (vN h109)) z z<|pkf (vN h109) z<|nl<|?_
 cases H
 exact je ⟨z, z, z, z, z, z, z, z, tv⟩ hI94
 refine mv z<|bK H fun v110 hC H=>js 6 hI107 [(1, string a10), (3, int .i64 a12), (4, int .i64 a13), (5, int .i64 a14), (6, int .i64 a15), (7, pointer (some ⟨g19, 0, none⟩)), (9, pointer (some ⟨g23, 0, none⟩)), (61, bool v110)] ?_ fun _ wd113 hI114=>?_
 refine have H:=hC;dC (v103 = true) (fun h116=>?_) fun h116=>?_
 refine yK h116 H fun H=>Sk 5 z z (vY h116) z<|pkt (vY h116) z<|nl<|?_
 cases H
 exact je ⟨z, z, z, z, z, z, z, z, tv⟩ hI107
 refine nK h116 H fun H=>fa (hw:=gY z z z (vN h116)) fl46_0 z<|ld (hw:=gY z z z (vN h116)) hI107 0 ag3 z z z<|fa (hw:=gY z z z (vN h116)) fl46_1 z<|ld (hw:=gY z z z (vN h116)) hI107 0 ag3 z z z<|q_geq (hw:=gY z z z (vN h116)) z z<|pkf (vN h116) z<|nl<|?_
 cases H
 exact je ⟨z, z, z, z, z, z, z, z, tv⟩ hI107
 refine mv z<|bK H fun v117 hC H=>js 6 hI114 [(1, string a10), (3, int .i64 a12), (4, int .i64 a13), (5, int .i64 a14), (6, int .i64 a15), (7, pointer (some ⟨g19, 0, none⟩)), (9, pointer (some ⟨g23, 0, none⟩)), (68, bool v117)] ?_ fun _ wd120 hI121=>?_
 refine have H:=hC;dC (v110 = true) (fun h123=>?_) fun h123=>?_
 refine yK h123 H fun H=>Sk 5 z z (vY h123) z<|pkt (vY h123) z<|nl<|?_
 cases H
 exact je ⟨z, z, z, z, z, z, z, z, tv⟩ hI114
 refine nK h123 H fun H=>fa (hw:=gY z z z (vN h123)) fl46_1 z<|ld (hw:=gY z z z (vN h123)) hI114 0 ag3 z z z<|mv (hw:=gY z z z (vN h123)) z<|q_lens (hw:=gY z z z (vN h123)) so9 z<|q_gtr (hw:=gY z z z (vN h123)) z z<|pkf (vN h123) z<|nl<|?_
 cases H
 exact je ⟨z, z, z, z, z, z, z, z, tv⟩ hI114
 refine nl<|hK76 _ _ _<|dC (v117 = true) (fun h124=>?_) fun h124=>?_
 refine yK h124 H fun H=>wt (vY h124)<|sr fun K125 hK126=>asn z<|asn z<|asn z<|nl<|hK126 _ _ _<|wr<|have hI127:=Hp.pick 2 [] hI121 z;?_
 cases H
 exact rt ⟨_, _, z, z, ⟨_, _, z, z, ⟨_, _, z, z, z⟩⟩⟩ hI127
 refine nK h124 H fun H=>wf (vN h124)<|ws<|hK74 _ _ _<|sr fun K128 hK129=>mv z<|fa fl46_0 z<|ld hI121 0 ag3 z z z<|fa fl46_1 z<|ld hI121 0 ag3 z z z<|fa fl46_3 z<|ld hI121 0 ag4 z z z<|bK H fun y135 hy130 H=>cv bo40 (inline_seen_spec hy130 hI121 (hgl.mono gR)) z z fun wd133 hI134=>?_
 refine asn z<|nl<|hK129 _ _ _<|sr fun K136 hK137=>lda hI134 1 ag25 z z z z<|mv z<|mv z<|bK2 H fun y143 y144 hy138 H=>cv bo41 (font_Width_spec hy138 hI134 hl4 hD5 hl8 hD9) z z fun wd141 hI142=>mv z<|exk z z<|exk z z<|asn z<|asn z<|?_
 refine nl<|hK137 _ _ _<|sQ fun K145 hK146=>sr fun K147 hK148=>mv z<|q_neq z z<|nl<|hK148 _ _ _<|dC (¬ y144 = 0) (fun h149=>?_) fun h149=>?_
 refine yK h149 H fun H=>wt (bY h149)<|sr fun K150 hK151=>mv z<|asn z<|asn z<|asn z<|nl<|hK151 _ _ _<|wr<|have hI152:=Hp.pick 2 [] hI142 z;?_
 cases H
 exact rt ⟨_, _, z, z, ⟨_, _, z, z, ⟨_, _, z, z, z⟩⟩⟩ hI152
 refine nK h149 H fun H=>wf (bN h149)<|ws<|hK146 _ _ _<|sQ fun K153 hK154=>sr fun K155 hK156=>mv z<|fa fl46_2 z<|ld hI142 0 ag3 z z z<|q_neq z z<|nl<|hK156 _ _ _<|dC (¬ y143 = a11.Width) (fun h157=>?_) fun h157=>?_
 refine yK h157 H fun H=>wt (bY h157)<|sr fun K158 hK159=>asn z<|asn z<|asn z<|nl<|hK159 _ _ _<|wr<|have hI160:=Hp.pick 2 [] hI142 z;?_
 cases H
 exact rt ⟨_, _, z, z, ⟨_, _, z, z, ⟨_, _, z, z, z⟩⟩⟩ hI160
 refine nK h157 H fun H=>wf (bN h157)<|ws<|hK154 _ _ _<|sr fun K161 hK162=>mv z<|mv z<|bK2 H fun y168 y169 hy163 H=>cv bo42 (bidi_Visual_spec hy163 hI142) z z fun wd166 hI167=>mv z<|exk z z<|exk z z<|asn z<|asn z<|?_
 refine nl<|hK162 _ _ _<|sr fun K170 hK171=>mv z<|mv z<|q_sub z z<|asn z<|nl<|hK171 _ _ _<|sQ fun K172 hK173=>sr fun K174 hK175=>mv z<|nl<|hK175 _ _ _<|?_
 refine wb<|sr fun K176 hK177=>mv z<|q_eql z z<|asn z<|nl<|hK177 _ _ _<|dC (a14 = a15) (fun h178=>?_) fun h178=>?_
 refine yK h178 H fun H=>wt (bY h178)<|sr fun K179 hK180=>mv z<|asn z<|asn z<|asn z<|nl<|hK180 _ _ _<|wr<|have hI181:=Hp.pick 2 [] hI167 z;?_
 cases H
 exact rt ⟨_, _, z, z, ⟨_, _, z, z, ⟨_, _, z, z, z⟩⟩⟩ hI181
 refine nK h178 H fun H=>wf (bN h178)<|sr fun K182 hK183=>q_eql z z<|asn z<|nl<|hK183 _ _ _<|dC (a14 = 2) (fun h184=>?_) fun h184=>?_
 refine yK h184 H fun H=>wt (bY h184)<|sr fun K185 hK186=>mv z<|mv z<|q_shr (m := 1) z z z<|asn z<|asn z<|asn z<|nl<|hK186 _ _ _<|wr<|have hI187:=Hp.pick 2 [] hI167 z;?_
 cases H
 exact rt ⟨_, _, z, z, ⟨_, _, z, z, ⟨_, _, z, z, z⟩⟩⟩ hI187
 refine nK h184 H fun H=>wf (bN h184)<|ws<|hK173 _ _ _<|sr fun K188 hK189=>mv z<|mv z<|asn z<|asn z<|asn z<|nl<|hK189 _ _ _<|wr<|have hI190:=Hp.pick 2 [] hI167 z;?_
 cases H
 exact rt ⟨_, _, z, z, ⟨_, _, z, z, ⟨_, _, z, z, z⟩⟩⟩ hI190
theorem wrap_setter_set_spec {a1 a18 a19 A2 c3 A6 c7 A10 c11 A14 c15 r1020 r1021 r1022 G L w} (H : wrap_setter_set a1 a18 a19 = some (r1020, r1021, r1022)) (hI : Hp G L w) (hl4 : a1.f.Glyphs.length ≤ c3) (hD5 : Dat k_api_Glyph G A2 a1.f.Glyphs) (hl8 : a1.f.Kerns.length ≤ c7) (hD9 : Dat k_api_Kern G A6 a1.f.Kerns) (hl12 : a1.b.Keep.length ≤ c11) (hD13 : Dat Kd.str G A10 a1.b.Keep) (hl16 : a1.l.length ≤ c15) (hD17 : Dat k_api_Float G A14 a1.l) (hgl : Gl G) :
    Calls Tryz.prog 52 [agg [slice A2 a1.f.Glyphs.length c3, slice A6 a1.f.Kerns.length c7, int .i64 a1.b.Before, int .i64 a1.b.Behind, slice A10 a1.b.Keep.length c11, string a1.s, int .i64 a1.scale, int .i64 a1.line, int .i64 a1.align, int .i64 a1.dir, int .i64 a1.width, slice A14 a1.l.length c15].toArray, int .i64 a18, int .i64 a19].toArray w fun e w' => Hp G L w' ∧ e = .returned (tuple [agg [string r1020.Text, int .i64 r1020.X, int .i64 r1020.Y, int .i64 r1020.W, int .i64 r1020.H].toArray, int .i64 r1021, bool r1022].toArray) := by
 refine calls_intro_m (N := 95) Tryz.func52 z z (Nat.le_of_ble_eq_true z)<|?_
 unfold wrap_setter_set at H
 refine sr fun K20 hK21=>bxk hI z z fun g23 wd24 hI25=>bxk hI25 z z fun g27 wd28 hI29=>q_alloc hI29 ze50 fun g31 wd32 hI33=>q_alloc hI33 ze3 fun g35 wd36 hI37=>q_alloc hI37 ze4 fun g39 wd40 hI41=>nl<|hK21 _ _ _<|sQ fun K42 hK43=>sr fun K44 hK45=>lda hI41 4 ag97 z z z z<|mv z<|bK2 H fun y53 y72 hy46 H=>q_cv (vs := [agg [slice A2 a1.f.Glyphs.length c3, slice A6 a1.f.Kerns.length c7, int .i64 a1.b.Before, int .i64 a1.b.Behind, slice A10 a1.b.Keep.length c11, string a1.s, int .i64 a1.scale, int .i64 a1.line, int .i64 a1.align, int .i64 a1.dir, int .i64 a1.width, slice A14 a1.l.length c15].toArray, int .i64 a19]) bo86 z z (wrap_setter_heights_spec hy46 hI41 hl4 hD5 hl8 hD9 hl12 hD13 hl16 hD17)<|?_
 rintro _ wd49 ⟨g52, A54, c55, A58, c59, A62, c63, A66, c67, g71, G47, hG48, hI50, hl56, hD57, hl60, hD61, hl64, hD65, hl68, hD69, rfl⟩
 refine ⟨_, rfl, ?_⟩
 refine nl<|hK45 _ _ _<|wb<|?_
 obtain ⟨⟨y219, ⟨v74, v75, v76, v77, v78, v79, v80⟩, jo90⟩, hr209, H⟩ := bS H
 refine wpc_range hI50 bo120 z fun fn tmps gl gd73 wd244 hA206 hI207=>?_
 have hY208 : Yl Tryz.prog (rnd (fun (u : Bool × Int × ByteArray × Int × Int × Int × Int) (x : Int × Bool) => wrap_setter_set_r88 a1 a18 u.1 u.2.1 u.2.2.1 u.2.2.2.1 u.2.2.2.2.1 u.2.2.2.2.2.1 u.2.2.2.2.2.2 x.1 x.2)) (encP (enc1 (Kd.int .i64)) (enc1 Kd.bool)) _ gl := yl_intro (pp := [22, 23]) (gdd := gd73) hI207 (fun (u : Bool × Int × ByteArray × Int × Int × Int × Int) (x : Int × Bool) => wrap_setter_set_r88 a1 a18 u.1 u.2.1 u.2.2.1 u.2.2.2.1 u.2.2.2.2.1 u.2.2.2.2.2.1 u.2.2.2.2.2.2 x.1 x.2) [Code.ret] (fun (u : Bool × Int × ByteArray × Int × Int × Int × Int) (G' : Gh) (K : List Itm) => ∃ (_ : G47 ≤ G'), K = bx g39 [bool u.1] 4 :: bx g35 [int .i64 u.2.1] 3 :: bx g31 [string u.2.2.1, int .i64 u.2.2.2.1, int .i64 u.2.2.2.2.1, int .i64 u.2.2.2.2.2.1, int .i64 u.2.2.2.2.2.2] 50 :: bx g27 [int .i64 a18] 3 :: bx g23 [slice A2 a1.f.Glyphs.length c3, slice A6 a1.f.Kerns.length c7, int .i64 a1.b.Before, int .i64 a1.b.Behind, slice A10 a1.b.Keep.length c11, string a1.s, int .i64 a1.scale, int .i64 a1.line, int .i64 a1.align, int .i64 a1.dir, int .i64 a1.width, slice A14 a1.l.length c15] 97 :: (List.map mkI (gd73 :: ([] : List Nat)) ++ L) ∧ True) hA206 (fun _ _ _ h => (fun h => encP_len (fun h => enc1_len h) (fun h => enc1_len h) h) h) (fun hG' ⟨h0', hK', _⟩ => ⟨gT h0' hG', hK', tv⟩) (by
 rintro Rd Bs ⟨v74, v75, v76, v77, v78, v79, v80⟩ u' ⟨x96, x98⟩ jo' G92 K M wd94 vs ⟨hG93, rfl, _⟩ ⟨_, _, rfl, ⟨_, rfl, hv97⟩, ⟨_, rfl, hv99⟩⟩ H hI100
 cases hv97
 cases hv99
 replace H : wrap_setter_set_r88 a1 a18 v74 v75 v76 v77 v78 v79 v80 x96 x98 = some (u', jo') := H
 unfold wrap_setter_set_r88 at H
 refine sr fun K101 hK102=>asn z<|nl<|hK102 _ _ _<|wpc_region<|asn z<|nl<|?_
 refine ⟨rfl, rfl, _, _, gR, hI100, fun wd104 hI103 => ?_⟩
 refine wb<|sr fun K105 hK106=>fa fl97_8 z<|ld hI103 5 ag31 z z z<|fa fl97_7 z<|ld hI103 5 ag3 z z z<|mv z<|fa fl97_4 z<|ld hI103 5 ag3 z z z<|bK2 H fun y112 y113 hy107 H=>cv bo18 (floats_Room_spec hy107 hI103 hl16 (Dat.mono (gT hG48 hG93) hD17)) z z fun wd110 hI111=>mv z<|exk z z<|exk z z<|?_
 refine q_alloc hI111 ze53 fun g115 wd116 hI117=>stk hI117 0 ag53 z z z z z z z fun wd118 hI119=>asn z<|nl<|hK106 _ _ _<|sQ fun K120 hK121=>sr fun K122 hK123=>mv z<|q_neq z z<|nl<|hK123 _ _ _<|dC (¬ y113 = 0) (fun h124=>?_) fun h124=>?_
 refine yK h124 H fun H=>wt (bY h124)<|sr fun K125 hK126=>q_build (vs := []) (cs := [string (⟨#[]⟩ : ByteArray), int .i64 0, int .i64 0, int .i64 0, int .i64 0]) ze50 pl50 z z<|stk hI119 4 ag50 z z z z z z z fun wd127 hI128=>stk hI128 3 ag3 z z z z z z z fun wd129 hI130=>stk hI130 2 ag4 z z z z z z z fun wd131 hI132=>nl<|hK126 _ _ _<|wr<|have hI139:=Hp.pick 7 [1, 2, 3, 4, 5, 6] hI132 z;?_
 cases H
 exact ⟨(.inl ⟨z, z⟩), _, _, gR, ⟨hG93, z, tv⟩, hI139⟩
 refine nK h124 H fun H=>wf (bN h124)<|ws<|hK121 _ _ _<|sr fun K140 hK141=>fa fl53_1 z<|ld hI119 0 ag3 z z z<|fa fl53_0 z<|ld hI119 0 ag3 z z z<|q_sub z z<|asn z<|nl<|hK141 _ _ _<|sr fun K142 hK143=>?_
 refine fa fl97_0 z<|lda hI119 6 ag25 z z z z<|fa fl97_1 z<|lda hI119 6 ag28 z z z z<|fa fl97_2 z<|ld hI119 6 ag9 z z z<|ld hI119 5 ag3 z z z<|fa fl97_3 z<|ld hI119 6 ag3 z z z<|mv z<|bK2 H fun y149 y150 hy144 H=>cv bo85 (inline_Next_spec hy144 hI119 hl4 (Dat.mono (gT hG48 hG93) hD5) hl8 (Dat.mono (gT hG48 hG93) hD9) hl12 (Dat.mono (gT hG48 hG93) hD13) (hgl.mono (gT hG48 hG93))) z z fun wd147 hI148=>mv z<|exk z z<|?_
 refine exk z z<|q_alloc hI148 ze46 fun g152 wd153 hI154=>stk hI154 0 ag46 z z z z z z z fun wd155 hI156=>asn z<|nl<|hK143 _ _ _<|sQ fun K157 hK158=>sr fun K159 hK160=>fa fl46_2 z<|ld hI156 0 ag3 z z z<|mv z<|q_gtr z z<|mv z<|bK H fun v161 hC H=>?_
 refine js 2 hI156 [(3, pointer (some ⟨g23, 0, none⟩)), (6, pointer (some ⟨g31, 0, none⟩)), (7, pointer (some ⟨g35, 0, none⟩)), (8, pointer (some ⟨g39, 0, none⟩)), (9, int .i64 x96), (11, pointer (some ⟨g115, 0, none⟩)), (13, int .i64 (w64 (y112.Hi - y112.Lo))), (14, pointer (some ⟨g152, 0, none⟩)), (63, bool v161)] ?_ fun _ wd164 hI165=>?_
 refine have H:=hC;dC ((w64 (y112.Hi - y112.Lo)) < y149.Width) (fun h167=>?_) fun h167=>?_
 refine yK h167 H fun H=>mv (hw:=gY z z z (bY h167)) z<|pkt (bY h167) z<|nl<|?_
 cases H
 exact je ⟨z, z, z, z, z, z, z, z, z, tv⟩ hI156
 refine nK h167 H fun H=>wN (gN z z z (bN h167) z)<|pkf (bN h167) z<|nl<|?_
 cases H
 exact je ⟨z, z, z, z, z, z, z, z, z, tv⟩ hI156
 refine nl<|hK160 _ _ _<|dC (v161 = true) (fun h168=>?_) fun h168=>?_
 refine yK h168 H fun H=>wt (vY h168)<|wx<|have hI175:=Hp.pick 8 [2, 3, 4, 5, 6, 7] hI165 z;?_
 cases H
 exact ⟨z, _, _, gR, ⟨hG93, z, tv⟩, hI175⟩
 refine nK h168 H fun H=>wf (vN h168)<|ws<|hK158 _ _ _<|sr fun K176 hK177=>fa fl97_0 z<|lda hI165 7 ag25 z z z z<|fa fl97_2 z<|ld hI165 7 ag9 z z z<|lda hI165 0 ag46 z z z z<|fa fl97_3 z<|ld hI165 7 ag3 z z z<|mv z<|fa fl97_5 z<|?_
 refine ld hI165 7 ag3 z z z<|fa fl97_6 z<|ld hI165 7 ag3 z z z<|bK3 H fun y183 y184 y185 hy178 H=>cv bo17 (inline_Place_spec hy178 hI165 hl4 (Dat.mono (gT hG48 hG93) hD5) hl8 (Dat.mono (gT hG48 hG93) hD9) (hgl.mono (gT hG48 hG93))) z z fun wd181 hI182=>mv z<|exk z z<|exk z z<|exk z z<|asn z<|asn z<|asn z<|nl<|hK177 _ _ _<|?_
 refine sQ fun K186 hK187=>?_
 refine wpc_drawL [0, 0, 2, 0, 14, 0, 0, 64, 0, 256, 1023, 0, 2048, 2047, 16383, 32767] (fun D r w => (D 13 = false ∧ ∃ (G' : Gh), G92 ≤ G' ∧ Regs [(3, pointer (some ⟨g23, 0, none⟩)), (6, pointer (some ⟨g31, 0, none⟩)), (7, pointer (some ⟨g35, 0, none⟩)), (8, pointer (some ⟨g39, 0, none⟩)), (9, int .i64 x96), (11, pointer (some ⟨g115, 0, none⟩)), (14, pointer (some ⟨g152, 0, none⟩)), (16, string y183), (17, int .i64 y184)] [] [(0, 81, string y183), (1, 82, pointer (some ⟨g115, 0, none⟩)), (2, 83, int .i64 y112.Lo), (3, 84, int .i64 y184), (4, 85, int .i64 (w64 (y112.Lo + y184))), (5, 86, int .i64 x96), (6, 87, pointer (some ⟨g152, 2, none⟩)), (7, 88, int .i64 y149.Width), (8, 89, pointer (some ⟨g23, 7, none⟩)), (9, 90, int .i64 a1.line), (10, 91, agg [string y183, int .i64 (w64 (y112.Lo + y184)), int .i64 x96, int .i64 y149.Width, int .i64 a1.line].toArray), (11, 92, pointer (some ⟨g152, 1, none⟩)), (12, 93, int .i64 y149.Until)] D r ∧ Hp G' (bx g152 [int .i64 y149.From, int .i64 y149.Until, int .i64 y149.Width, bool y149.Hyphen] 46 :: bx g115 [int .i64 y112.Lo, int .i64 y112.Hi] 53 :: Bs :: bx g39 [bool v74] 4 :: bx g35 [int .i64 v75] 3 :: bx g31 [string v76, int .i64 v77, int .i64 v78, int .i64 v79, int .i64 v80] 50 :: bx g27 [int .i64 a18] 3 :: bx g23 [slice A2 a1.f.Glyphs.length c3, slice A6 a1.f.Kerns.length c7, int .i64 a1.b.Before, int .i64 a1.b.Behind, slice A10 a1.b.Keep.length c11, string a1.s, int .i64 a1.scale, int .i64 a1.line, int .i64 a1.align, int .i64 a1.dir, int .i64 a1.width, slice A14 a1.l.length c15] 97 :: ((List.map mkI (gd73 :: ([] : List Nat)) ++ L) ++ M)) w) ∨ (D 13 = true ∧ D 14 = false ∧ ∃ (G' : Gh), G92 ≤ G' ∧ Regs [(3, pointer (some ⟨g23, 0, none⟩)), (6, pointer (some ⟨g31, 0, none⟩)), (7, pointer (some ⟨g35, 0, none⟩)), (8, pointer (some ⟨g39, 0, none⟩)), (9, int .i64 x96), (11, pointer (some ⟨g115, 0, none⟩)), (14, pointer (some ⟨g152, 0, none⟩)), (16, string y183), (17, int .i64 y184)] [] [(0, 81, string y183), (1, 82, pointer (some ⟨g115, 0, none⟩)), (2, 83, int .i64 y112.Lo), (3, 84, int .i64 y184), (4, 85, int .i64 (w64 (y112.Lo + y184))), (5, 86, int .i64 x96), (6, 87, pointer (some ⟨g152, 2, none⟩)), (7, 88, int .i64 y149.Width), (8, 89, pointer (some ⟨g23, 7, none⟩)), (9, 90, int .i64 a1.line), (10, 91, agg [string y183, int .i64 (w64 (y112.Lo + y184)), int .i64 x96, int .i64 y149.Width, int .i64 a1.line].toArray), (11, 92, pointer (some ⟨g152, 1, none⟩)), (12, 93, int .i64 y149.Until)] D r ∧ Hp G' (bx g152 [int .i64 y149.From, int .i64 y149.Until, int .i64 y149.Width, bool y149.Hyphen] 46 :: bx g115 [int .i64 y112.Lo, int .i64 y112.Hi] 53 :: Bs :: bx g39 [bool v74] 4 :: bx g35 [int .i64 v75] 3 :: bx g31 [string y183, int .i64 (w64 (y112.Lo + y184)), int .i64 x96, int .i64 y149.Width, int .i64 a1.line] 50 :: bx g27 [int .i64 a18] 3 :: bx g23 [slice A2 a1.f.Glyphs.length c3, slice A6 a1.f.Kerns.length c7, int .i64 a1.b.Before, int .i64 a1.b.Behind, slice A10 a1.b.Keep.length c11, string a1.s, int .i64 a1.scale, int .i64 a1.line, int .i64 a1.align, int .i64 a1.dir, int .i64 a1.width, slice A14 a1.l.length c15] 97 :: ((List.map mkI (gd73 :: ([] : List Nat)) ++ L) ++ M)) w) ∨ (D 14 = true ∧ D 15 = false ∧ ∃ (G' : Gh), G92 ≤ G' ∧ Regs [(3, pointer (some ⟨g23, 0, none⟩)), (6, pointer (some ⟨g31, 0, none⟩)), (7, pointer (some ⟨g35, 0, none⟩)), (8, pointer (some ⟨g39, 0, none⟩)), (9, int .i64 x96), (11, pointer (some ⟨g115, 0, none⟩)), (14, pointer (some ⟨g152, 0, none⟩)), (16, string y183), (17, int .i64 y184)] [] [(0, 81, string y183), (1, 82, pointer (some ⟨g115, 0, none⟩)), (2, 83, int .i64 y112.Lo), (3, 84, int .i64 y184), (4, 85, int .i64 (w64 (y112.Lo + y184))), (5, 86, int .i64 x96), (6, 87, pointer (some ⟨g152, 2, none⟩)), (7, 88, int .i64 y149.Width), (8, 89, pointer (some ⟨g23, 7, none⟩)), (9, 90, int .i64 a1.line), (10, 91, agg [string y183, int .i64 (w64 (y112.Lo + y184)), int .i64 x96, int .i64 y149.Width, int .i64 a1.line].toArray), (11, 92, pointer (some ⟨g152, 1, none⟩)), (12, 93, int .i64 y149.Until)] D r ∧ Hp G' (bx g152 [int .i64 y149.From, int .i64 y149.Until, int .i64 y149.Width, bool y149.Hyphen] 46 :: bx g115 [int .i64 y112.Lo, int .i64 y112.Hi] 53 :: Bs :: bx g39 [bool v74] 4 :: bx g35 [int .i64 y149.Until] 3 :: bx g31 [string y183, int .i64 (w64 (y112.Lo + y184)), int .i64 x96, int .i64 y149.Width, int .i64 a1.line] 50 :: bx g27 [int .i64 a18] 3 :: bx g23 [slice A2 a1.f.Glyphs.length c3, slice A6 a1.f.Kerns.length c7, int .i64 a1.b.Before, int .i64 a1.b.Behind, slice A10 a1.b.Keep.length c11, string a1.s, int .i64 a1.scale, int .i64 a1.line, int .i64 a1.align, int .i64 a1.dir, int .i64 a1.width, slice A14 a1.l.length c15] 97 :: ((List.map mkI (gd73 :: ([] : List Nat)) ++ L) ++ M)) w) ∨ (D 15 = true ∧ ∃ (G' : Gh), G92 ≤ G' ∧ Regs [(3, pointer (some ⟨g23, 0, none⟩)), (6, pointer (some ⟨g31, 0, none⟩)), (7, pointer (some ⟨g35, 0, none⟩)), (8, pointer (some ⟨g39, 0, none⟩)), (9, int .i64 x96), (11, pointer (some ⟨g115, 0, none⟩)), (14, pointer (some ⟨g152, 0, none⟩)), (16, string y183), (17, int .i64 y184)] [] [(0, 81, string y183), (1, 82, pointer (some ⟨g115, 0, none⟩)), (2, 83, int .i64 y112.Lo), (3, 84, int .i64 y184), (4, 85, int .i64 (w64 (y112.Lo + y184))), (5, 86, int .i64 x96), (6, 87, pointer (some ⟨g152, 2, none⟩)), (7, 88, int .i64 y149.Width), (8, 89, pointer (some ⟨g23, 7, none⟩)), (9, 90, int .i64 a1.line), (10, 91, agg [string y183, int .i64 (w64 (y112.Lo + y184)), int .i64 x96, int .i64 y149.Width, int .i64 a1.line].toArray), (11, 92, pointer (some ⟨g152, 1, none⟩)), (12, 93, int .i64 y149.Until)] D r ∧ Hp G' (bx g152 [int .i64 y149.From, int .i64 y149.Until, int .i64 y149.Width, bool y149.Hyphen] 46 :: bx g115 [int .i64 y112.Lo, int .i64 y112.Hi] 53 :: Bs :: bx g39 [bool true] 4 :: bx g35 [int .i64 y149.Until] 3 :: bx g31 [string y183, int .i64 (w64 (y112.Lo + y184)), int .i64 x96, int .i64 y149.Width, int .i64 a1.line] 50 :: bx g27 [int .i64 a18] 3 :: bx g23 [slice A2 a1.f.Glyphs.length c3, slice A6 a1.f.Kerns.length c7, int .i64 a1.b.Before, int .i64 a1.b.Behind, slice A10 a1.b.Keep.length c11, string a1.s, int .i64 a1.scale, int .i64 a1.line, int .i64 a1.align, int .i64 a1.dir, int .i64 a1.width, slice A14 a1.l.length c15] 97 :: ((List.map mkI (gd73 :: ([] : List Nat)) ++ L) ++ M)) w)) mixo z z ?_ ?_ ?_
 exact (.inl ⟨z, _, Gh.le_refl _, Regs.start ⟨z, z, z, z, z, z, z, z, z, tv⟩ trivial, hI182.drew⟩)
 refine ⟨?_, ?_, ?_, ?_, ?_, ?_, ?_, ?_, ?_, ?_, ?_, ?_, ?_, ?_, ?_, ?_, tv⟩
 rintro D r wd198 (⟨hd2, G194, hG195, hReg197, hI196⟩ | ⟨hd1, hd2, G194, hG195, hReg197, hI196⟩ | ⟨hd1, hd2, G194, hG195, hReg197, hI196⟩ | ⟨hd1, G194, hG195, hReg197, hI196⟩) hDi hpre hpost
 obtain ⟨r0, rfl⟩ := Has.ex (cC (hReg197.ins.get 7 rfl) cN)
 exact mv z<|nl ⟨z, (.inl ⟨hd2, _, hG195, (Regs.step hReg197 hDi z z z z), hI196⟩)⟩
 cases (hpost 13 rfl).symm.trans hd1
 cases (hpost 14 rfl).symm.trans hd1
 cases (hpost 15 rfl).symm.trans hd1
 rintro D r wd198 (⟨hd2, G194, hG195, hReg197, hI196⟩ | ⟨hd1, hd2, G194, hG195, hReg197, hI196⟩ | ⟨hd1, hd2, G194, hG195, hReg197, hI196⟩ | ⟨hd1, G194, hG195, hReg197, hI196⟩) hDi hpre hpost
 obtain ⟨r0, rfl⟩ := Has.ex (cC (hReg197.ins.get 5 rfl) cN)
 exact fa fl53_0 z<|nl ⟨z, (.inl ⟨hd2, _, hG195, (Regs.step hReg197 hDi z z z z), hI196⟩)⟩
 cases (hpost 13 rfl).symm.trans hd1
 cases (hpost 14 rfl).symm.trans hd1
 cases (hpost 15 rfl).symm.trans hd1
 rintro D r wd198 (⟨hd2, G194, hG195, hReg197, hI196⟩ | ⟨hd1, hd2, G194, hG195, hReg197, hI196⟩ | ⟨hd1, hd2, G194, hG195, hReg197, hI196⟩ | ⟨hd1, G194, hG195, hReg197, hI196⟩) hDi hpre hpost
 obtain ⟨r0, rfl⟩ := Has.ex (cC (hReg197.get 1 rfl (hpre 1 rfl)) cN)
 exact ld hI196 1 ag3 z z z<|nl ⟨z, (.inl ⟨hd2, _, hG195, (Regs.step hReg197 hDi z z z z), hI196⟩)⟩
 cases (hpost 13 rfl).symm.trans hd1
 cases (hpost 14 rfl).symm.trans hd1
 cases (hpost 15 rfl).symm.trans hd1
 rintro D r wd198 (⟨hd2, G194, hG195, hReg197, hI196⟩ | ⟨hd1, hd2, G194, hG195, hReg197, hI196⟩ | ⟨hd1, hd2, G194, hG195, hReg197, hI196⟩ | ⟨hd1, G194, hG195, hReg197, hI196⟩) hDi hpre hpost
 obtain ⟨r0, rfl⟩ := Has.ex (cC (hReg197.ins.get 8 rfl) cN)
 exact mv z<|nl ⟨z, (.inl ⟨hd2, _, hG195, (Regs.step hReg197 hDi z z z z), hI196⟩)⟩
 cases (hpost 13 rfl).symm.trans hd1
 cases (hpost 14 rfl).symm.trans hd1
 cases (hpost 15 rfl).symm.trans hd1
 rintro D r wd198 (⟨hd2, G194, hG195, hReg197, hI196⟩ | ⟨hd1, hd2, G194, hG195, hReg197, hI196⟩ | ⟨hd1, hd2, G194, hG195, hReg197, hI196⟩ | ⟨hd1, G194, hG195, hReg197, hI196⟩) hDi hpre hpost
 obtain ⟨r0, rfl⟩ := Has.ex (cC (hReg197.get 2 rfl (hpre 2 rfl)) (cC (hReg197.get 3 rfl (hpre 3 rfl)) cN))
 exact q_add z z<|nl ⟨z, (.inl ⟨hd2, _, hG195, (Regs.step hReg197 hDi z z z z), hI196⟩)⟩
 cases (hpost 13 rfl).symm.trans hd1
 cases (hpost 14 rfl).symm.trans hd1
 cases (hpost 15 rfl).symm.trans hd1
 rintro D r wd198 (⟨hd2, G194, hG195, hReg197, hI196⟩ | ⟨hd1, hd2, G194, hG195, hReg197, hI196⟩ | ⟨hd1, hd2, G194, hG195, hReg197, hI196⟩ | ⟨hd1, G194, hG195, hReg197, hI196⟩) hDi hpre hpost
 obtain ⟨r0, rfl⟩ := Has.ex (cC (hReg197.ins.get 4 rfl) cN)
 exact mv z<|nl ⟨z, (.inl ⟨hd2, _, hG195, (Regs.step hReg197 hDi z z z z), hI196⟩)⟩
 cases (hpost 13 rfl).symm.trans hd1
 cases (hpost 14 rfl).symm.trans hd1
 cases (hpost 15 rfl).symm.trans hd1
 rintro D r wd198 (⟨hd2, G194, hG195, hReg197, hI196⟩ | ⟨hd1, hd2, G194, hG195, hReg197, hI196⟩ | ⟨hd1, hd2, G194, hG195, hReg197, hI196⟩ | ⟨hd1, G194, hG195, hReg197, hI196⟩) hDi hpre hpost
 obtain ⟨r0, rfl⟩ := Has.ex (cC (hReg197.ins.get 6 rfl) cN)
 exact fa fl46_2 z<|nl ⟨z, (.inl ⟨hd2, _, hG195, (Regs.step hReg197 hDi z z z z), hI196⟩)⟩
 cases (hpost 13 rfl).symm.trans hd1
 cases (hpost 14 rfl).symm.trans hd1
 cases (hpost 15 rfl).symm.trans hd1
 rintro D r wd198 (⟨hd2, G194, hG195, hReg197, hI196⟩ | ⟨hd1, hd2, G194, hG195, hReg197, hI196⟩ | ⟨hd1, hd2, G194, hG195, hReg197, hI196⟩ | ⟨hd1, G194, hG195, hReg197, hI196⟩) hDi hpre hpost
 obtain ⟨r0, rfl⟩ := Has.ex (cC (hReg197.get 6 rfl (hpre 6 rfl)) cN)
 exact ld hI196 0 ag3 z z z<|nl ⟨z, (.inl ⟨hd2, _, hG195, (Regs.step hReg197 hDi z z z z), hI196⟩)⟩
 cases (hpost 13 rfl).symm.trans hd1
 cases (hpost 14 rfl).symm.trans hd1
 cases (hpost 15 rfl).symm.trans hd1
 rintro D r wd198 (⟨hd2, G194, hG195, hReg197, hI196⟩ | ⟨hd1, hd2, G194, hG195, hReg197, hI196⟩ | ⟨hd1, hd2, G194, hG195, hReg197, hI196⟩ | ⟨hd1, G194, hG195, hReg197, hI196⟩) hDi hpre hpost
 obtain ⟨r0, rfl⟩ := Has.ex (cC (hReg197.ins.get 0 rfl) cN)
 exact fa fl97_4 z<|nl ⟨z, (.inl ⟨hd2, _, hG195, (Regs.step hReg197 hDi z z z z), hI196⟩)⟩
 cases (hpost 13 rfl).symm.trans hd1
 cases (hpost 14 rfl).symm.trans hd1
 cases (hpost 15 rfl).symm.trans hd1
 rintro D r wd198 (⟨hd2, G194, hG195, hReg197, hI196⟩ | ⟨hd1, hd2, G194, hG195, hReg197, hI196⟩ | ⟨hd1, hd2, G194, hG195, hReg197, hI196⟩ | ⟨hd1, G194, hG195, hReg197, hI196⟩) hDi hpre hpost
 obtain ⟨r0, rfl⟩ := Has.ex (cC (hReg197.get 8 rfl (hpre 8 rfl)) cN)
 exact ld hI196 7 ag3 z z z<|nl ⟨z, (.inl ⟨hd2, _, hG195, (Regs.step hReg197 hDi z z z z), hI196⟩)⟩
 cases (hpost 13 rfl).symm.trans hd1
 cases (hpost 14 rfl).symm.trans hd1
 cases (hpost 15 rfl).symm.trans hd1
 rintro D r wd198 (⟨hd2, G194, hG195, hReg197, hI196⟩ | ⟨hd1, hd2, G194, hG195, hReg197, hI196⟩ | ⟨hd1, hd2, G194, hG195, hReg197, hI196⟩ | ⟨hd1, G194, hG195, hReg197, hI196⟩) hDi hpre hpost
 obtain ⟨r0, rfl⟩ := Has.ex (cC (hReg197.get 0 rfl (hpre 0 rfl)) (cC (hReg197.get 4 rfl (hpre 4 rfl)) (cC (hReg197.get 5 rfl (hpre 5 rfl)) (cC (hReg197.get 7 rfl (hpre 7 rfl)) (cC (hReg197.get 9 rfl (hpre 9 rfl)) cN)))))
 exact q_build (vs := [(0, string y183), (1, int .i64 (w64 (y112.Lo + y184))), (2, int .i64 x96), (3, int .i64 y149.Width), (4, int .i64 a1.line)]) (cs := [string y183, int .i64 (w64 (y112.Lo + y184)), int .i64 x96, int .i64 y149.Width, int .i64 a1.line]) ze50 pl50 z z<|nl ⟨z, (.inl ⟨hd2, _, hG195, (Regs.step hReg197 hDi z z z z), hI196⟩)⟩
 cases (hpost 13 rfl).symm.trans hd1
 cases (hpost 14 rfl).symm.trans hd1
 cases (hpost 15 rfl).symm.trans hd1
 rintro D r wd198 (⟨hd2, G194, hG195, hReg197, hI196⟩ | ⟨hd1, hd2, G194, hG195, hReg197, hI196⟩ | ⟨hd1, hd2, G194, hG195, hReg197, hI196⟩ | ⟨hd1, G194, hG195, hReg197, hI196⟩) hDi hpre hpost
 obtain ⟨r0, rfl⟩ := Has.ex (cC (hReg197.ins.get 6 rfl) cN)
 exact fa fl46_1 z<|nl ⟨z, (.inl ⟨hd2, _, hG195, (Regs.step hReg197 hDi z z z z), hI196⟩)⟩
 obtain ⟨r0, rfl⟩ := Has.ex (cC (hReg197.ins.get 6 rfl) cN)
 exact fa fl46_1 z<|nl ⟨z, (.inr (.inl ⟨hd1, hd2, _, hG195, (Regs.step hReg197 hDi z z z z), hI196⟩))⟩
 cases (hpost 14 rfl).symm.trans hd1
 cases (hpost 15 rfl).symm.trans hd1
 rintro D r wd198 (⟨hd2, G194, hG195, hReg197, hI196⟩ | ⟨hd1, hd2, G194, hG195, hReg197, hI196⟩ | ⟨hd1, hd2, G194, hG195, hReg197, hI196⟩ | ⟨hd1, G194, hG195, hReg197, hI196⟩) hDi hpre hpost
 obtain ⟨r0, rfl⟩ := Has.ex (cC (hReg197.get 11 rfl (hpre 11 rfl)) cN)
 exact ld hI196 0 ag3 z z z<|nl ⟨z, (.inl ⟨hd2, _, hG195, (Regs.step hReg197 hDi z z z z), hI196⟩)⟩
 obtain ⟨r0, rfl⟩ := Has.ex (cC (hReg197.get 11 rfl (hpre 11 rfl)) cN)
 exact ld hI196 0 ag3 z z z<|nl ⟨z, (.inr (.inl ⟨hd1, hd2, _, hG195, (Regs.step hReg197 hDi z z z z), hI196⟩))⟩
 cases (hpost 14 rfl).symm.trans hd1
 cases (hpost 15 rfl).symm.trans hd1
 rintro D r wd198 (⟨hd2, G194, hG195, hReg197, hI196⟩ | ⟨hd1, hd2, G194, hG195, hReg197, hI196⟩ | ⟨hd1, hd2, G194, hG195, hReg197, hI196⟩ | ⟨hd1, G194, hG195, hReg197, hI196⟩) hDi hpre hpost
 obtain ⟨r0, rfl⟩ := Has.ex (cC (hReg197.ins.get 1 rfl) (cC (hReg197.get 10 rfl (hpre 10 rfl)) cN))
 exact stk hI196 5 ag50 z z z z z z z fun wd188 hI189=>nl ⟨z, (.inr (.inl ⟨z, (hpost 14 z), _, hG195, (Regs.stepN hReg197 z z), hI189⟩))⟩
 cases hDi.symm.trans hd1
 cases (hpost 14 rfl).symm.trans hd1
 cases (hpost 15 rfl).symm.trans hd1
 rintro D r wd198 (⟨hd2, G194, hG195, hReg197, hI196⟩ | ⟨hd1, hd2, G194, hG195, hReg197, hI196⟩ | ⟨hd1, hd2, G194, hG195, hReg197, hI196⟩ | ⟨hd1, G194, hG195, hReg197, hI196⟩) hDi hpre hpost
 cases (hpre 13 rfl).symm.trans hd2
 obtain ⟨r0, rfl⟩ := Has.ex (cC (hReg197.ins.get 2 rfl) (cC (hReg197.get 12 rfl (hpre 12 rfl)) cN))
 exact stk hI196 4 ag3 z z z z z z z fun wd190 hI191=>nl ⟨z, (.inr (.inr (.inl ⟨z, (hpost 15 z), _, hG195, (Regs.stepN hReg197 z z), hI191⟩)))⟩
 cases hDi.symm.trans hd1
 cases (hpost 15 rfl).symm.trans hd1
 rintro D r wd198 (⟨hd2, G194, hG195, hReg197, hI196⟩ | ⟨hd1, hd2, G194, hG195, hReg197, hI196⟩ | ⟨hd1, hd2, G194, hG195, hReg197, hI196⟩ | ⟨hd1, G194, hG195, hReg197, hI196⟩) hDi hpre hpost
 cases (hpre 13 rfl).symm.trans hd2
 cases (hpre 14 rfl).symm.trans hd2
 obtain ⟨r0, rfl⟩ := Has.ex (cC (hReg197.ins.get 3 rfl) cN)
 exact stk hI196 3 ag4 z z z z z z z fun wd192 hI193=>nl ⟨z, (.inr (.inr (.inr ⟨z, _, hG195, (Regs.stepN hReg197 z z), hI193⟩)))⟩
 cases hDi.symm.trans hd1
 intro D r wd198 hall hR
 rcases hR with ⟨hd2, G194, hG195, hReg197, hI196⟩ | ⟨hd1, hd2, G194, hG195, hReg197, hI196⟩ | ⟨hd1, hd2, G194, hG195, hReg197, hI196⟩ | ⟨hd1, G194, hG195, hReg197, hI196⟩
 cases (hall 13 (Nat.le_of_ble_eq_true rfl)).symm.trans hd2
 cases (hall 14 (Nat.le_of_ble_eq_true rfl)).symm.trans hd2
 cases (hall 15 (Nat.le_of_ble_eq_true rfl)).symm.trans hd2
 obtain ⟨r0, rfl⟩ := Has.ex (r := r) cN
 refine hK187 _ _ _<|wr<|have hI205:=Hp.pick 8 [2, 3, 4, 5, 6, 7] hI196 z;?_
 cases H
 exact ⟨(.inl ⟨z, z⟩), _, _, hG195, ⟨(gT hG93 hG195), z, tv⟩, hI205⟩)
 refine have hI245:=Hp.sink (A := [bx g52 [slice A54 y53.f.Glyphs.length c55, slice A58 y53.f.Kerns.length c59, int .i64 y53.b.Before, int .i64 y53.b.Behind, slice A62 y53.b.Keep.length c63, string y53.s, int .i64 y53.scale, int .i64 y53.line, int .i64 y53.align, int .i64 y53.dir, int .i64 y53.width, slice A66 y53.l.length c67] 97, bx g71 [int .i64 y72] 3]) (K := [bx g39 [bool false] 4, bx g35 [int .i64 0] 3, bx g31 [string (⟨#[]⟩ : ByteArray), int .i64 0, int .i64 0, int .i64 0, int .i64 0] 50, bx g27 [int .i64 a18] 3, bx g23 [slice A2 a1.f.Glyphs.length c3, slice A6 a1.f.Kerns.length c7, int .i64 a1.b.Before, int .i64 a1.b.Behind, slice A10 a1.b.Keep.length c11, string a1.s, int .i64 a1.scale, int .i64 a1.line, int .i64 a1.align, int .i64 a1.dir, int .i64 a1.width, slice A14 a1.l.length c15] 97]) hI207;(wrap_setter_heights_1_k1_spec (sy := ((false, 0, (⟨#[]⟩ : ByteArray), 0, 0, 0, 0), none)) hr209 hI245 hl56 hD57 hl60 hD61 hl64 hD65 hl68 hD69 hY208 ⟨_, z, Gh.le_refl _, z, tv⟩).mono<|?_
 rintro _ wd212 ⟨T216, G210, hG2110, hI213, ⟨K, rfl, hG211, rfl, _⟩, rfl⟩
 refine have hH218:=Hp.front hI213 2 z;?_
 rcases jo90 with _ | j
 refine ⟨_, rfl, LoopState.ready, none, G210, _, (fun h => nomatch h), hH218, fun wd214 hI215 => ?_⟩
 refine hK43 _ _ _<|sr fun K224 hK225=>q_build (vs := []) (cs := [string (⟨#[]⟩ : ByteArray), int .i64 0, int .i64 0, int .i64 0, int .i64 0]) ze50 pl50 z z<|stk hI215 4 ag50 z z z z z z z fun wd226 hI227=>stk hI227 3 ag3 z z z z z z z fun wd228 hI229=>stk hI229 2 ag4 z z z z z z z fun wd230 hI231=>nl<|hK225 _ _ _<|wr<|?_
 refine ⟨.inr rfl, (gd73 :: ([] : List Nat)), _, _, rfl, Hp.marks (K := [bx g52 [slice A54 y53.f.Glyphs.length c55, slice A58 y53.f.Kerns.length c59, int .i64 y53.b.Before, int .i64 y53.b.Behind, slice A62 y53.b.Keep.length c63, string y53.s, int .i64 y53.scale, int .i64 y53.line, int .i64 y53.align, int .i64 y53.dir, int .i64 y53.width, slice A66 y53.l.length c67] 97, bx g71 [int .i64 y219] 3, bx g39 [bool false] 4, bx g35 [int .i64 0] 3, bx g31 [string (⟨#[]⟩ : ByteArray), int .i64 0, int .i64 0, int .i64 0, int .i64 0] 50, bx g27 [int .i64 a18] 3, bx g23 [slice A2 a1.f.Glyphs.length c3, slice A6 a1.f.Kerns.length c7, int .i64 a1.b.Before, int .i64 a1.b.Behind, slice A10 a1.b.Keep.length c11, string a1.s, int .i64 a1.scale, int .i64 a1.line, int .i64 a1.align, int .i64 a1.dir, int .i64 a1.width, slice A14 a1.l.length c15] 97]) hI231, fun wd233 hI232 => ?_⟩
 refine have hr234:=res_cell1 (P := Tryz.prog) hI232 2 (v := bool false) (g := g39) (o := 0) ag4 z z;have hr235:=res_cell1 (P := Tryz.prog) hI232 3 (v := int .i64 0) (g := g35) (o := 0) ag3 z z;have hr236:=res_cell (P := Tryz.prog) hI232 4 (cs := [string (⟨#[]⟩ : ByteArray), int .i64 0, int .i64 0, int .i64 0, int .i64 0]) (g := g31) (o := 0) ag50 z z z;have hI237:=Hp.pick 7 [] hI232 z;?_
 cases H
 exact ⟨_, ⟨_, _, _, z, z, hr236, ⟨_, _, _, z, z, hr235, ⟨_, _, _, z, z, hr234, z⟩⟩⟩, (Hp.low (gT hG48 hG211) hI237), z⟩
 rcases j with _ | j
 refine ⟨_, rfl, LoopState.done, (some Code.ret), G210, _, (fun h => nomatch h), hH218, fun wd214 hI215 => ?_⟩
 refine ⟨.inr rfl, (gd73 :: ([] : List Nat)), _, _, rfl, Hp.marks (K := [bx g52 [slice A54 y53.f.Glyphs.length c55, slice A58 y53.f.Kerns.length c59, int .i64 y53.b.Before, int .i64 y53.b.Behind, slice A62 y53.b.Keep.length c63, string y53.s, int .i64 y53.scale, int .i64 y53.line, int .i64 y53.align, int .i64 y53.dir, int .i64 y53.width, slice A66 y53.l.length c67] 97, bx g71 [int .i64 y219] 3, bx g39 [bool v74] 4, bx g35 [int .i64 v75] 3, bx g31 [string v76, int .i64 v77, int .i64 v78, int .i64 v79, int .i64 v80] 50, bx g27 [int .i64 a18] 3, bx g23 [slice A2 a1.f.Glyphs.length c3, slice A6 a1.f.Kerns.length c7, int .i64 a1.b.Before, int .i64 a1.b.Behind, slice A10 a1.b.Keep.length c11, string a1.s, int .i64 a1.scale, int .i64 a1.line, int .i64 a1.align, int .i64 a1.dir, int .i64 a1.width, slice A14 a1.l.length c15] 97]) hI215, fun wd239 hI238 => ?_⟩
 refine have hr240:=res_cell1 (P := Tryz.prog) hI238 2 (v := bool v74) (g := g39) (o := 0) ag4 z z;have hr241:=res_cell1 (P := Tryz.prog) hI238 3 (v := int .i64 v75) (g := g35) (o := 0) ag3 z z;have hr242:=res_cell (P := Tryz.prog) hI238 4 (cs := [string v76, int .i64 v77, int .i64 v78, int .i64 v79, int .i64 v80]) (g := g31) (o := 0) ag50 z z z;have hI243:=Hp.pick 7 [] hI238 z;?_
 cases H
 exact ⟨_, ⟨_, _, _, z, z, hr242, ⟨_, _, _, z, z, hr241, ⟨_, _, _, z, z, hr240, z⟩⟩⟩, (Hp.low (gT hG48 hG211) hI243), z⟩
 cases H
theorem wrap_all_k1_spec {a1 a2 a3 a4 A5 c6 A9 c10 A13 c14 A17 c18 r1021 r1028 r1029 G L w} (H : wrap_all_k1 a1 a2 a3 a4 = some (r1021, r1028, r1029)) (hI : Hp G L w) (hl7 : a4.f.Glyphs.length ≤ c6) (hD8 : Dat k_api_Glyph G A5 a4.f.Glyphs) (hl11 : a4.f.Kerns.length ≤ c10) (hD12 : Dat k_api_Kern G A9 a4.f.Kerns) (hl15 : a4.b.Keep.length ≤ c14) (hD16 : Dat Kd.str G A13 a4.b.Keep) (hl19 : a4.l.length ≤ c18) (hD20 : Dat k_api_Float G A17 a4.l) (hgl : Gl G) :
    Calls Tryz.prog 51 [string a1, int .i64 a2, int .i64 a3, func (.func 52) [agg [slice A5 a4.f.Glyphs.length c6, slice A9 a4.f.Kerns.length c10, int .i64 a4.b.Before, int .i64 a4.b.Behind, slice A13 a4.b.Keep.length c14, string a4.s, int .i64 a4.scale, int .i64 a4.line, int .i64 a4.align, int .i64 a4.dir, int .i64 a4.width, slice A17 a4.l.length c18].toArray].toArray [].toArray].toArray w fun e w' => ∃ (A1022 : Option Addr) (c1023 : Nat) (G' : Gh), G ≤ G' ∧ Hp G' (tk (slice A1022 r1021.length c1023) 5 50 :: L) w' ∧ r1021.length ≤ c1023 ∧ Dat k_api_Seen G' A1022 r1021 ∧ Own A1022 c1023 ∧ e = .returned (tuple [slice A1022 r1021.length c1023, int .i64 r1028, bool r1029].toArray) := by
 refine calls_intro (N := 50) Tryz.func51 z z (Nat.le_of_ble_eq_true z)<|?_
 unfold wrap_all_k1 at H
 refine sr fun K21 hK22=>asn z<|asn z<|asn z<|nl<|hK22 _ _ _<|wpc_scope<|sr fun K23 hK24=>asn z<|nl<|hK24 _ _ _<|sr fun K25 hK26=>asn z<|nl<|?_
 refine hK26 _ _ _<|sQ fun K27 hK28=>wpc_label<|hK28 _ _ _<|sQ fun K29 hK30=>wb<|bK H fun o74 hC H=>?_
 refine wpc_mono (Q := fun e r ds w => match (generalizing := false) o74 with | (Sum.inl _) => e = .ret ∧ ds = [] ∧ Has [(8, slice none 0 0), (9, int .i64 0), (10, bool false)] r ∧ Hp G (L) w ∧ True | (Sum.inr (v58, v59)) => e = .exit 0 ∧ ∃ (A60 : Option Addr) (c61 : Nat) (G70 : Gh), ds = [] ∧ G ≤ G70 ∧ Has [(1, int .i64 v58), (11, slice A60 v59.length c61)] r ∧ Hp G70 (tk (slice A60 v59.length c61) 5 50 :: L) w ∧ v59.length ≤ c61 ∧ Dat k_api_Seen G70 A60 v59 ∧ Own A60 c61 ∧ True) ?_ ?_
 refine have hI160:=Hp.emp hI;wpc_loop fun I hLp=>?_
 refine wrap_all_k1_l57.partial_correctness a1 a3 a4 (fun v35 v36 v43 o => ∀ (A37 : Option Addr) (c38 : Nat) (G75 : Gh) (r : Rg) (w : World), G ≤ G75 → Has [(0, string a1), (1, int .i64 v35), (2, int .i64 a3), (3, func (.func 52) [agg [slice A5 a4.f.Glyphs.length c6, slice A9 a4.f.Kerns.length c10, int .i64 a4.b.Before, int .i64 a4.b.Behind, slice A13 a4.b.Keep.length c14, string a4.s, int .i64 a4.scale, int .i64 a4.line, int .i64 a4.align, int .i64 a4.dir, int .i64 a4.width, slice A17 a4.l.length c18].toArray].toArray [].toArray), (11, slice A37 v36.length c38), (12, int .i64 v43)] r → Hp G75 (tk (slice A37 v36.length c38) 5 50 :: L) w → v36.length ≤ c38 → Dat k_api_Seen G75 A37 v36 → Own A37 c38 → o = o74 → I r [] w) ?_ a2 ([] : List api_Seen) 0 _ hC none 0 _ _ _ gR ⟨rfl, rfl, rfl, rfl, rfl, rfl, tv⟩ hI160 (show ([] : List api_Seen).length ≤ 0 from Nat.le_refl 0) (Dat.nil _ _ _) Own.nil rfl
 intro _ ih v35 v36 v43 o H A37 c38 G75 r wd77 hG76 hHas hI78 hl39 hD40 ho41 ho
 rw [ho] at H; clear ho
 rw [hHas.eq]; clear hHas
 refine hLp _ _ _<|wb<|sQ fun K79 hK80=>sr fun K81 hK82=>mv z<|mv z<|iK H fun⟨h83, h84⟩H=>q_ss (l := v43) (h := (a1.size : Int)) so9 z (.inr ⟨_, z, z⟩) (.inl ⟨z, z⟩) h83 h84 (Int.le_refl _)<|bK2 H fun y91 y92 hy86 H=>cv bo73 (text_Words_spec hy86 hI78) z z fun wd89 hI90=>mv z<|exk z z<|exk z z<|asn z<|?_
 refine asn z<|nl<|hK82 _ _ _<|wb<|wpc_loop fun I hLp => hLp _ _ _<|sQ fun K97 hK98=>sr fun K99 hK100=>mv z<|q_eql z z<|nl<|hK100 _ _ _<|dC (y91 = 0) (fun h101=>?_) fun h101=>?_
 refine yK h101 H fun H=>wt (bY h101)<|ws<|hK98 _ _ _<|wb<|wx<|?_
 cases H
 exact ⟨z, A37, c38, _, z, hG76, ⟨z, z, tv⟩, hI90, hl39, hD40, ho41, tv⟩
 refine nK h101 H fun H=>wf (bN h101)<|wx<|hK80 _ _ _<|sr fun K102 hK103=>mv z<|mv z<|mv z<|bK3 H fun y109 y110 y111 hy104 H=>cv bo52 (wrap_setter_set_spec hy104 hI90 hl7 (Dat.mono hG76 hD8) hl11 (Dat.mono hG76 hD12) hl15 (Dat.mono hG76 hD16) hl19 (Dat.mono hG76 hD20) (hgl.mono hG76)) z z fun wd107 hI108=>mv z<|exk z z<|exk z z<|exk z z<|?_
 refine q_alloc hI108 ze50 fun g113 wd114 hI115=>stk hI115 0 ag50 z z z z z z z fun wd116 hI117=>asn z<|asn z<|nl<|hK103 _ _ _<|sQ fun K118 hK119=>sr fun K120 hK121=>mv z<|q_not z<|nl<|hK121 _ _ _<|dC ((!y111) = true) (fun h122=>?_) fun h122=>?_
 refine yK h122 H fun H=>wt (vY h122)<|sr fun K123 hK124=>asn z<|asn z<|asn z<|nl<|hK124 _ _ _<|wr<|have hI125:=Hp.pick 2 [] hI117 z;?_
 cases H
 exact ⟨z, z, ⟨z, z, z, tv⟩, (Hp.low hG76 hI125), tv⟩
 refine nK h122 H fun H=>wf (vN h122)<|ws<|hK119 _ _ _<|iK H fun h152 H=>?_
 refine wpc_drawL [0, 0, 2, 7, 0, 0, 32, 0, 224, 15, 543, 2047] (fun D r w => (D 2 = false ∧ ∃ (G' : Gh), G75 ≤ G' ∧ Regs [(0, string a1), (2, int .i64 a3), (3, func (.func 52) [agg [slice A5 a4.f.Glyphs.length c6, slice A9 a4.f.Kerns.length c10, int .i64 a4.b.Before, int .i64 a4.b.Behind, slice A13 a4.b.Keep.length c14, string a4.s, int .i64 a4.scale, int .i64 a4.line, int .i64 a4.align, int .i64 a4.dir, int .i64 a4.width, slice A17 a4.l.length c18].toArray].toArray [].toArray), (15, pointer (some ⟨g113, 0, none⟩)), (16, int .i64 y110)] [(11, slice A37 v36.length c38, 9)] [(0, 37, slice A37 v36.length c38), (1, 38, agg [string y109.Text, int .i64 y109.X, int .i64 y109.Y, int .i64 y109.W, int .i64 y109.H].toArray), (4, 41, int .i64 y110), (5, 42, pointer (some ⟨g113, 2, none⟩)), (6, 43, int .i64 y109.Y), (7, 44, int .i64 a3), (8, 45, int .i64 (w64 (y109.Y + a3)))] D r ∧ Hp G' (bx g113 [string y109.Text, int .i64 y109.X, int .i64 y109.Y, int .i64 y109.W, int .i64 y109.H] 50 :: tk (slice A37 v36.length c38) 5 50 :: L) w) ∨ (D 2 = true ∧ D 3 = false ∧ ∃ (g140 : Nat) (G' : Gh), G75 ≤ G' ∧ Regs [(0, string a1), (2, int .i64 a3), (3, func (.func 52) [agg [slice A5 a4.f.Glyphs.length c6, slice A9 a4.f.Kerns.length c10, int .i64 a4.b.Before, int .i64 a4.b.Behind, slice A13 a4.b.Keep.length c14, string a4.s, int .i64 a4.scale, int .i64 a4.line, int .i64 a4.align, int .i64 a4.dir, int .i64 a4.width, slice A17 a4.l.length c18].toArray].toArray [].toArray), (15, pointer (some ⟨g113, 0, none⟩)), (16, int .i64 y110)] [(11, slice A37 v36.length c38, 9)] [(0, 37, slice A37 v36.length c38), (1, 38, agg [string y109.Text, int .i64 y109.X, int .i64 y109.Y, int .i64 y109.W, int .i64 y109.H].toArray), (4, 41, int .i64 y110), (5, 42, pointer (some ⟨g113, 2, none⟩)), (6, 43, int .i64 y109.Y), (7, 44, int .i64 a3), (8, 45, int .i64 (w64 (y109.Y + a3))), (2, 39, slice (some ⟨g140, 0, none⟩) 1 1)] D r ∧ Hp G' (bx g140 [string y109.Text, int .i64 y109.X, int .i64 y109.Y, int .i64 y109.W, int .i64 y109.H] 50 :: bx g113 [string y109.Text, int .i64 y109.X, int .i64 y109.Y, int .i64 y109.W, int .i64 y109.H] 50 :: tk (slice A37 v36.length c38) 5 50 :: L) w) ∨ (D 3 = true ∧ ∃ (g140 : Nat) (A143 : Option Addr) (c144 : Nat) (G' : Gh), G75 ≤ G' ∧ (v36 ++ [y109]).length ≤ c144 ∧ Dat k_api_Seen G' A143 (v36 ++ [y109]) ∧ Own A143 c144 ∧ Regs [(0, string a1), (2, int .i64 a3), (3, func (.func 52) [agg [slice A5 a4.f.Glyphs.length c6, slice A9 a4.f.Kerns.length c10, int .i64 a4.b.Before, int .i64 a4.b.Behind, slice A13 a4.b.Keep.length c14, string a4.s, int .i64 a4.scale, int .i64 a4.line, int .i64 a4.align, int .i64 a4.dir, int .i64 a4.width, slice A17 a4.l.length c18].toArray].toArray [].toArray), (15, pointer (some ⟨g113, 0, none⟩)), (16, int .i64 y110)] [(11, slice A37 v36.length c38, 9)] [(0, 37, slice A37 v36.length c38), (1, 38, agg [string y109.Text, int .i64 y109.X, int .i64 y109.Y, int .i64 y109.W, int .i64 y109.H].toArray), (4, 41, int .i64 y110), (5, 42, pointer (some ⟨g113, 2, none⟩)), (6, 43, int .i64 y109.Y), (7, 44, int .i64 a3), (8, 45, int .i64 (w64 (y109.Y + a3))), (2, 39, slice (some ⟨g140, 0, none⟩) 1 1), (3, 40, slice A143 (v36 ++ [y109]).length c144), (9, 11, slice A143 (v36 ++ [y109]).length c144), (10, 12, int .i64 y110), (11, 1, int .i64 (w64 (y109.Y + a3)))] D r ∧ Hp G' (bx g140 [string y109.Text, int .i64 y109.X, int .i64 y109.Y, int .i64 y109.W, int .i64 y109.H] 50 :: bx g113 [string y109.Text, int .i64 y109.X, int .i64 y109.Y, int .i64 y109.W, int .i64 y109.H] 50 :: tk (slice A143 (v36 ++ [y109]).length c144) 5 50 :: L) w)) mixo z z ?_ ?_ ?_
 exact (.inl ⟨z, _, Gh.le_refl _, Regs.start ⟨z, z, z, z, z, tv⟩ ⟨z, tv⟩, hI117.drew⟩)
 refine ⟨?_, ?_, ?_, ?_, ?_, ?_, ?_, ?_, ?_, ?_, ?_, ?_, tv⟩
 rintro D r wd157 (⟨hd2, G153, hG154, hReg156, hI155⟩ | ⟨hd1, hd2, g140, G153, hG154, hReg156, hI155⟩ | ⟨hd1, g140, A143, c144, G153, hG154, hl149, hD150, ho148, hReg156, hI155⟩) hDi hpre hpost
 obtain ⟨r0, rfl⟩ := Has.ex (cC (hReg156.get2 0 rfl (hpost 9 rfl)) cN)
 exact mv z<|nl ⟨z, (.inl ⟨hd2, _, hG154, (Regs.step hReg156 hDi z z z z), hI155⟩)⟩
 obtain ⟨r0, rfl⟩ := Has.ex (cC (hReg156.get2 0 rfl (hpost 9 rfl)) cN)
 exact mv z<|nl ⟨z, (.inr (.inl ⟨hd1, hd2, g140, _, hG154, (Regs.step hReg156 hDi z z z z), hI155⟩))⟩
 cases (hpost 3 rfl).symm.trans hd1
 rintro D r wd157 (⟨hd2, G153, hG154, hReg156, hI155⟩ | ⟨hd1, hd2, g140, G153, hG154, hReg156, hI155⟩ | ⟨hd1, g140, A143, c144, G153, hG154, hl149, hD150, ho148, hReg156, hI155⟩) hDi hpre hpost
 obtain ⟨r0, rfl⟩ := Has.ex (cC (hReg156.ins.get 3 rfl) cN)
 exact lda hI155 0 ag50 z z z z<|nl ⟨z, (.inl ⟨hd2, _, hG154, (Regs.step hReg156 hDi z z z z), hI155⟩)⟩
 cases (hpost 2 rfl).symm.trans hd1
 cases (hpost 3 rfl).symm.trans hd1
 rintro D r wd157 (⟨hd2, G153, hG154, hReg156, hI155⟩ | ⟨hd1, hd2, g140, G153, hG154, hReg156, hI155⟩ | ⟨hd1, g140, A143, c144, G153, hG154, hl149, hD150, ho148, hReg156, hI155⟩) hDi hpre hpost
 obtain ⟨r0, rfl⟩ := Has.ex (cC (hReg156.get 1 rfl (hpre 1 rfl)) cN)
 refine q_bs hI155 (vs := [(0, agg [string y109.Text, int .i64 y109.X, int .i64 y109.Y, int .i64 y109.W, int .i64 y109.H].toArray)]) (cs := [string y109.Text, int .i64 y109.X, int .i64 y109.Y, int .i64 y109.W, int .i64 y109.H]) el34 ze50 rfl (by decide) rfl rfl (fun g140 wd141 hI142 => ?_)
 exact nl ⟨z, (.inr (.inl ⟨z, (hpost 3 z), g140, _, hG154, (Regs.step (Regs.more (new := [(2, 39, slice (some ⟨g140, 0, none⟩) 1 1)]) hReg156 (List.forall_mem_cons.2 ⟨hDi, (fun _ h => nomatch h)⟩)) hDi z z z z), hI142⟩))⟩
 cases hDi.symm.trans hd1
 cases (hpost 3 rfl).symm.trans hd1
 rintro D r wd157 (⟨hd2, G153, hG154, hReg156, hI155⟩ | ⟨hd1, hd2, g140, G153, hG154, hReg156, hI155⟩ | ⟨hd1, g140, A143, c144, G153, hG154, hl149, hD150, ho148, hReg156, hI155⟩) hDi hpre hpost
 cases (hpre 2 rfl).symm.trans hd2
 obtain ⟨r0, rfl⟩ := Has.ex (cC (hReg156.get 0 rfl (hpre 0 rfl)) (cC (hReg156.get 7 rfl (hpre 2 rfl)) cN))
 refine q_app (xs := v36) (ys := [y109]) k_api_Seen hI155 2 el34 ze50 rfl rfl rfl rfl ho41 hl39 (Dat.mono hG154 hD40) (src_bx hI155 0 so34 rfl rfl) ⟨[string y109.Text, int .i64 y109.X, int .i64 y109.Y, int .i64 y109.W, int .i64 y109.H], _, rfl, (mk_api_Seen (x := y109)), rfl⟩ rfl (by simp only [List.length_cons, List.length_nil]; omega) (by simp only [List.length_cons, List.length_nil]; omega) (fun A143 c144 G145 wd146 hG147 ho148 hl149 hD150 hI151 => ?_)
 exact nl ⟨z, (.inr (.inr ⟨z, g140, A143, c144, _, (gT hG154 hG147), hl149, hD150, ho148, (Regs.step (Regs.more (new := [(3, 40, slice A143 (v36 ++ [y109]).length c144), (9, 11, slice A143 (v36 ++ [y109]).length c144), (10, 12, int .i64 y110), (11, 1, int .i64 (w64 (y109.Y + a3)))]) hReg156 (List.forall_mem_cons.2 ⟨hDi, (List.forall_mem_cons.2 ⟨hpost 9 z, (List.forall_mem_cons.2 ⟨hpost 10 z, (List.forall_mem_cons.2 ⟨hpost 11 z, (fun _ h => nomatch h)⟩)⟩)⟩)⟩)) hDi z z z z), hI151⟩))⟩
 cases hDi.symm.trans hd1
 rintro D r wd157 (⟨hd2, G153, hG154, hReg156, hI155⟩ | ⟨hd1, hd2, g140, G153, hG154, hReg156, hI155⟩ | ⟨hd1, g140, A143, c144, G153, hG154, hl149, hD150, ho148, hReg156, hI155⟩) hDi hpre hpost
 obtain ⟨r0, rfl⟩ := Has.ex (cC (hReg156.ins.get 4 rfl) cN)
 exact mv z<|nl ⟨z, (.inl ⟨hd2, _, hG154, (Regs.step hReg156 hDi z z z z), hI155⟩)⟩
 obtain ⟨r0, rfl⟩ := Has.ex (cC (hReg156.ins.get 4 rfl) cN)
 exact mv z<|nl ⟨z, (.inr (.inl ⟨hd1, hd2, g140, _, hG154, (Regs.step hReg156 hDi z z z z), hI155⟩))⟩
 obtain ⟨r0, rfl⟩ := Has.ex (cC (hReg156.ins.get 4 rfl) cN)
 exact mv z<|nl ⟨z, (.inr (.inr ⟨hd1, g140, A143, c144, _, hG154, hl149, hD150, ho148, (Regs.step hReg156 hDi z z z z), hI155⟩))⟩
 rintro D r wd157 (⟨hd2, G153, hG154, hReg156, hI155⟩ | ⟨hd1, hd2, g140, G153, hG154, hReg156, hI155⟩ | ⟨hd1, g140, A143, c144, G153, hG154, hl149, hD150, ho148, hReg156, hI155⟩) hDi hpre hpost
 obtain ⟨r0, rfl⟩ := Has.ex (cC (hReg156.ins.get 3 rfl) cN)
 exact fa fl50_2 z<|nl ⟨z, (.inl ⟨hd2, _, hG154, (Regs.step hReg156 hDi z z z z), hI155⟩)⟩
 obtain ⟨r0, rfl⟩ := Has.ex (cC (hReg156.ins.get 3 rfl) cN)
 exact fa fl50_2 z<|nl ⟨z, (.inr (.inl ⟨hd1, hd2, g140, _, hG154, (Regs.step hReg156 hDi z z z z), hI155⟩))⟩
 obtain ⟨r0, rfl⟩ := Has.ex (cC (hReg156.ins.get 3 rfl) cN)
 exact fa fl50_2 z<|nl ⟨z, (.inr (.inr ⟨hd1, g140, A143, c144, _, hG154, hl149, hD150, ho148, (Regs.step hReg156 hDi z z z z), hI155⟩))⟩
 rintro D r wd157 (⟨hd2, G153, hG154, hReg156, hI155⟩ | ⟨hd1, hd2, g140, G153, hG154, hReg156, hI155⟩ | ⟨hd1, g140, A143, c144, G153, hG154, hl149, hD150, ho148, hReg156, hI155⟩) hDi hpre hpost
 obtain ⟨r0, rfl⟩ := Has.ex (cC (hReg156.get 3 rfl (hpre 5 rfl)) cN)
 exact ld hI155 0 ag3 z z z<|nl ⟨z, (.inl ⟨hd2, _, hG154, (Regs.step hReg156 hDi z z z z), hI155⟩)⟩
 obtain ⟨r0, rfl⟩ := Has.ex (cC (hReg156.get 3 rfl (hpre 5 rfl)) cN)
 exact ld hI155 1 ag3 z z z<|nl ⟨z, (.inr (.inl ⟨hd1, hd2, g140, _, hG154, (Regs.step hReg156 hDi z z z z), hI155⟩))⟩
 obtain ⟨r0, rfl⟩ := Has.ex (cC (hReg156.get 3 rfl (hpre 5 rfl)) cN)
 exact ld hI155 1 ag3 z z z<|nl ⟨z, (.inr (.inr ⟨hd1, g140, A143, c144, _, hG154, hl149, hD150, ho148, (Regs.step hReg156 hDi z z z z), hI155⟩))⟩
 rintro D r wd157 (⟨hd2, G153, hG154, hReg156, hI155⟩ | ⟨hd1, hd2, g140, G153, hG154, hReg156, hI155⟩ | ⟨hd1, g140, A143, c144, G153, hG154, hl149, hD150, ho148, hReg156, hI155⟩) hDi hpre hpost
 obtain ⟨r0, rfl⟩ := Has.ex (cC (hReg156.ins.get 1 rfl) cN)
 exact mv z<|nl ⟨z, (.inl ⟨hd2, _, hG154, (Regs.step hReg156 hDi z z z z), hI155⟩)⟩
 obtain ⟨r0, rfl⟩ := Has.ex (cC (hReg156.ins.get 1 rfl) cN)
 exact mv z<|nl ⟨z, (.inr (.inl ⟨hd1, hd2, g140, _, hG154, (Regs.step hReg156 hDi z z z z), hI155⟩))⟩
 obtain ⟨r0, rfl⟩ := Has.ex (cC (hReg156.ins.get 1 rfl) cN)
 exact mv z<|nl ⟨z, (.inr (.inr ⟨hd1, g140, A143, c144, _, hG154, hl149, hD150, ho148, (Regs.step hReg156 hDi z z z z), hI155⟩))⟩
 rintro D r wd157 (⟨hd2, G153, hG154, hReg156, hI155⟩ | ⟨hd1, hd2, g140, G153, hG154, hReg156, hI155⟩ | ⟨hd1, g140, A143, c144, G153, hG154, hl149, hD150, ho148, hReg156, hI155⟩) hDi hpre hpost
 obtain ⟨r0, rfl⟩ := Has.ex (cC (hReg156.get 4 rfl (hpre 6 rfl)) (cC (hReg156.get 5 rfl (hpre 7 rfl)) cN))
 exact q_add z z<|nl ⟨z, (.inl ⟨hd2, _, hG154, (Regs.step hReg156 hDi z z z z), hI155⟩)⟩
 obtain ⟨r0, rfl⟩ := Has.ex (cC (hReg156.get 4 rfl (hpre 6 rfl)) (cC (hReg156.get 5 rfl (hpre 7 rfl)) cN))
 exact q_add z z<|nl ⟨z, (.inr (.inl ⟨hd1, hd2, g140, _, hG154, (Regs.step hReg156 hDi z z z z), hI155⟩))⟩
 obtain ⟨r0, rfl⟩ := Has.ex (cC (hReg156.get 4 rfl (hpre 6 rfl)) (cC (hReg156.get 5 rfl (hpre 7 rfl)) cN))
 exact q_add z z<|nl ⟨z, (.inr (.inr ⟨hd1, g140, A143, c144, _, hG154, hl149, hD150, ho148, (Regs.step hReg156 hDi z z z z), hI155⟩))⟩
 rintro D r wd157 (⟨hd2, G153, hG154, hReg156, hI155⟩ | ⟨hd1, hd2, g140, G153, hG154, hReg156, hI155⟩ | ⟨hd1, g140, A143, c144, G153, hG154, hl149, hD150, ho148, hReg156, hI155⟩) hDi hpre hpost
 cases (hpre 2 rfl).symm.trans hd2
 cases (hpre 3 rfl).symm.trans hd2
 obtain ⟨r0, rfl⟩ := Has.ex (cC (hReg156.get 8 rfl (hpre 3 rfl)) cN)
 exact asn z<|nl ⟨z, (.inr (.inr ⟨hd1, g140, A143, c144, _, hG154, hl149, hD150, ho148, (Regs.step hReg156 hDi z z z z), hI155⟩))⟩
 rintro D r wd157 (⟨hd2, G153, hG154, hReg156, hI155⟩ | ⟨hd1, hd2, g140, G153, hG154, hReg156, hI155⟩ | ⟨hd1, g140, A143, c144, G153, hG154, hl149, hD150, ho148, hReg156, hI155⟩) hDi hpre hpost
 cases (hpre 2 rfl).symm.trans hd2
 cases (hpre 3 rfl).symm.trans hd2
 obtain ⟨r0, rfl⟩ := Has.ex (cC (hReg156.get 2 rfl (hpre 4 rfl)) cN)
 exact asn z<|nl ⟨z, (.inr (.inr ⟨hd1, g140, A143, c144, _, hG154, hl149, hD150, ho148, (Regs.step hReg156 hDi z z z z), hI155⟩))⟩
 rintro D r wd157 (⟨hd2, G153, hG154, hReg156, hI155⟩ | ⟨hd1, hd2, g140, G153, hG154, hReg156, hI155⟩ | ⟨hd1, g140, A143, c144, G153, hG154, hl149, hD150, ho148, hReg156, hI155⟩) hDi hpre hpost
 cases (hpre 2 rfl).symm.trans hd2
 cases (hpre 3 rfl).symm.trans hd2
 obtain ⟨r0, rfl⟩ := Has.ex (cC (hReg156.get 6 rfl (hpre 8 rfl)) cN)
 exact asn z<|nl ⟨z, (.inr (.inr ⟨hd1, g140, A143, c144, _, hG154, hl149, hD150, ho148, (Regs.step hReg156 hDi z z z z), hI155⟩))⟩
 intro D r wd157 hall hR
 rcases hR with ⟨hd2, G153, hG154, hReg156, hI155⟩ | ⟨hd1, hd2, g140, G153, hG154, hReg156, hI155⟩ | ⟨hd1, g140, A143, c144, G153, hG154, hl149, hD150, ho148, hReg156, hI155⟩
 cases (hall 2 (Nat.le_of_ble_eq_true rfl)).symm.trans hd2
 cases (hall 3 (Nat.le_of_ble_eq_true rfl)).symm.trans hd2
 obtain ⟨r0, rfl⟩ := Has.ex (cC (hReg156.ins.get 0 rfl) (cC (hReg156.get 11 rfl (hall 11 (Nat.le_of_ble_eq_true rfl))) (cC (hReg156.ins.get 1 rfl) (cC (hReg156.ins.get 2 rfl) (cC (hReg156.get 9 rfl (hall 9 (Nat.le_of_ble_eq_true rfl))) (cC (hReg156.get 10 rfl (hall 10 (Nat.le_of_ble_eq_true rfl))) cN))))))
 exact have hI159:=Hp.pick 3 [2] hI155 z;ih _ _ _ _ H A143 c144 _ _ _ (gT hG76 hG154) ⟨z, z, z, z, z, z, tv⟩ hI159 hl149 hD150 ho148 z
 rcases o74 with _ | ⟨v58, v59⟩
 rintro e r ds wd68 ⟨rfl, rfl, hHas, hI69, _⟩
 rw [hHas.eq]; clear hHas
 refine have hI162:=Hp.emp hI69;?_
 cases H
 exact ⟨.inr z, z, _, ⟨_, _, z, z, ⟨_, _, z, z, ⟨_, _, z, z, z⟩⟩⟩, none, 0, _, gR, hI162, (show ([] : List api_Seen).length ≤ 0 from Nat.le_refl 0), (Dat.nil _ _ _), Own.nil, z⟩
 rintro e r ds wd72 ⟨rfl, A60, c61, G70, rfl, hG71, hHas, hI73, hl62, hD63, ho64, _⟩
 rw [hHas.eq]; clear hHas
 refine hK30 _ _ _<|sr fun K164 hK165=>mv z<|mv z<|mv z<|q_leq z z<|asn z<|asn z<|asn z<|nl<|hK165 _ _ _<|wr<|?_
 cases H
 exact ⟨.inr z, z, _, ⟨_, _, z, z, ⟨_, _, z, z, ⟨_, _, z, z, z⟩⟩⟩, A60, c61, _, hG71, hI73, hl62, hD63, ho64, z⟩
theorem wrap_Lines_spec {a1 a10 a15 a16 a17 a18 a19 a20 a21 a22 A2 c3 A6 c7 A11 c12 A23 c24 r1027 r1034 r1035 G L w} (H : wrap_Lines a1 a10 a15 a16 a17 a18 a19 a20 a21 a22 = some (r1027, r1034, r1035)) (hI : Hp G L w) (hl4 : a1.Glyphs.length ≤ c3) (hD5 : Dat k_api_Glyph G A2 a1.Glyphs) (hl8 : a1.Kerns.length ≤ c7) (hD9 : Dat k_api_Kern G A6 a1.Kerns) (hl13 : a10.Keep.length ≤ c12) (hD14 : Dat Kd.str G A11 a10.Keep) (hl25 : a22.length ≤ c24) (hD26 : Dat k_api_Float G A23 a22) (hgl : Gl G) :
    Calls Tryz.prog 24 [agg [slice A2 a1.Glyphs.length c3, slice A6 a1.Kerns.length c7].toArray, agg [int .i64 a10.Before, int .i64 a10.Behind, slice A11 a10.Keep.length c12].toArray, string a15, int .i64 a16, int .i64 a17, int .i64 a18, int .i64 a19, int .i64 a20, int .i64 a21, slice A23 a22.length c24].toArray w fun e w' => ∃ (A1028 : Option Addr) (c1029 : Nat) (G' : Gh), G ≤ G' ∧ Hp G' (tk (slice A1028 r1027.length c1029) 5 50 :: L) w' ∧ r1027.length ≤ c1029 ∧ Dat k_api_Seen G' A1028 r1027 ∧ Own A1028 c1029 ∧ e = .returned (tuple [slice A1028 r1027.length c1029, int .i64 r1034, int .i64 r1035].toArray) := by
 refine calls_intro (N := 58) Tryz.func24 z z (Nat.le_of_ble_eq_true z)<|?_
 unfold wrap_Lines at H
 refine sr fun K27 hK28=>bxk hI z z fun g30 wd31 hI32=>bxk hI32 z z fun g34 wd35 hI36=>asn z<|asn z<|asn z<|nl<|hK28 _ _ _<|sr fun K37 hK38=>lda hI36 1 ag25 z z z z<|lda hI36 0 ag28 z z z z<|mv z<|mv z<|mv z<|?_
 refine mv z<|mv z<|mv z<|mv z<|q_build (vs := [(0, agg [slice A2 a1.Glyphs.length c3, slice A6 a1.Kerns.length c7].toArray), (1, agg [int .i64 a10.Before, int .i64 a10.Behind, slice A11 a10.Keep.length c12].toArray), (2, string a15), (3, int .i64 a16), (4, int .i64 a17), (5, int .i64 a18), (6, int .i64 a19), (7, int .i64 a20), (8, slice A23 a22.length c24)]) (cs := [slice A2 a1.Glyphs.length c3, slice A6 a1.Kerns.length c7, int .i64 a10.Before, int .i64 a10.Behind, slice A11 a10.Keep.length c12, string a15, int .i64 a16, int .i64 a17, int .i64 a18, int .i64 a19, int .i64 a20, slice A23 a22.length c24]) ze97 pl97 z z<|q_alloc hI36 ze97 fun g40 wd41 hI42=>stk hI42 0 ag97 z z z z z z z fun wd43 hI44=>nl<|hK38 _ _ _<|sQ fun K45 hK46=>sr fun K47 hK48=>lda hI44 0 ag97 z z z z<|mv z<|bK H fun y54 hy49 H=>?_
 refine cv bo50 (wrap_setter_check_spec (a1 := (⟨a1, a10, a15, a16, a17, a18, a19, a20, a22⟩ : wrap_setter)) hy49 hI44 hl4 hD5 hl8 hD9 hl13 hD14 hl25 hD26 (hgl.mono gR)) z z fun wd52 hI53=>asn z<|nl<|hK48 _ _ _<|sr fun K55 hK56=>mv z<|q_neq z z<|nl<|hK56 _ _ _<|dC (¬ y54 = 0) (fun h57=>?_) fun h57=>?_
 refine yK h57 H fun H=>wt (bY h57)<|sr fun K58 hK59=>mv z<|asn z<|asn z<|asn z<|nl<|hK59 _ _ _<|wr<|have hI60:=Hp.emp hI53;have hI62:=Hp.pick 4 [0] hI60 z;?_
 cases H
 exact ⟨.inr z, z, _, ⟨_, _, z, z, ⟨_, _, z, z, ⟨_, _, z, z, z⟩⟩⟩, none, 0, _, gR, hI62, (show ([] : List api_Seen).length ≤ 0 from Nat.le_refl 0), (Dat.nil _ _ _), Own.nil, z⟩
 refine nK h57 H fun H=>wf (bN h57)<|ws<|hK46 _ _ _<|sr fun K63 hK64=>mv z<|mv z<|mv z<|lda hI53 0 ag97 z z z z<|q_fn (vs := [agg [slice A2 a1.Glyphs.length c3, slice A6 a1.Kerns.length c7, int .i64 a10.Before, int .i64 a10.Behind, slice A11 a10.Keep.length c12, string a15, int .i64 a16, int .i64 a17, int .i64 a18, int .i64 a19, int .i64 a20, slice A23 a22.length c24].toArray]) (us := []) z z<|bK3 H fun y70 y77 y78 hy65 H=>q_cv (vs := [string a15, int .i64 a21, int .i64 a17, func (.func 52) [agg [slice A2 a1.Glyphs.length c3, slice A6 a1.Kerns.length c7, int .i64 a10.Before, int .i64 a10.Behind, slice A11 a10.Keep.length c12, string a15, int .i64 a16, int .i64 a17, int .i64 a18, int .i64 a19, int .i64 a20, slice A23 a22.length c24].toArray].toArray [].toArray]) bo51 z z (wrap_all_k1_spec (a4 := (⟨a1, a10, a15, a16, a17, a18, a19, a20, a22⟩ : wrap_setter)) hy65 hI53 hl4 hD5 hl8 hD9 hl13 hD14 hl25 hD26 (hgl.mono gR))<|?_
 rintro _ wd68 ⟨A71, c72, G66, hG67, hI69, hl73, hD74, ho75, rfl⟩
 refine ⟨_, rfl, ?_⟩
 refine mv z<|exk z z<|exk z z<|exk z z<|asn z<|asn z<|asn z<|nl<|hK64 _ _ _<|sQ fun K79 hK80=>sr fun K81 hK82=>mv z<|q_not z<|nl<|?_
 refine hK82 _ _ _<|dC ((!y78) = true) (fun h83=>?_) fun h83=>?_
 refine yK h83 H fun H=>wt (vY h83)<|sr fun K84 hK85=>asn z<|asn z<|asn z<|nl<|hK85 _ _ _<|wr<|have hI86:=Hp.emp hI69;have hI88:=Hp.pick 5 [0] hI86 z;?_
 cases H
 exact ⟨.inr z, z, _, ⟨_, _, z, z, ⟨_, _, z, z, ⟨_, _, z, z, z⟩⟩⟩, none, 0, _, hG67, hI88, (show ([] : List api_Seen).length ≤ 0 from Nat.le_refl 0), (Dat.nil _ _ _), Own.nil, z⟩
 refine nK h83 H fun H=>wf (vN h83)<|ws<|hK80 _ _ _<|sr fun K89 hK90=>mv z<|mv z<|asn z<|asn z<|asn z<|nl<|hK90 _ _ _<|wr<|have hI91:=Hp.pick 4 [0] hI69 z;?_
 cases H
 exact ⟨.inr z, z, _, ⟨_, _, z, z, ⟨_, _, z, z, ⟨_, _, z, z, z⟩⟩⟩, A71, c72, _, hG67, hI91, hl73, hD74, ho75, z⟩
theorem formelaw21_ten_spec {r1001 G L w} (H : formelaw21_ten = some r1001) (hI : Hp G L w) :
    Calls Tryz.prog 25 [].toArray w fun e w' => ∃ (A1002 : Option Addr) (c1003 : Nat) (A1006 : Option Addr) (c1007 : Nat) (G' : Gh), G ≤ G' ∧ Hp G' (L) w' ∧ r1001.Glyphs.length ≤ c1003 ∧ Dat k_api_Glyph G' A1002 r1001.Glyphs ∧ r1001.Kerns.length ≤ c1007 ∧ Dat k_api_Kern G' A1006 r1001.Kerns ∧ e = .returned (agg [slice A1002 r1001.Glyphs.length c1003, slice A1006 r1001.Kerns.length c1007].toArray) := by
 refine calls_intro (N := 19) Tryz.func25 z z (Nat.le_of_ble_eq_true z)<|?_
 unfold formelaw21_ten at H
 refine sr fun K1 hK2=>q_alloc hI ze25 fun g4 wd5 hI6=>nl<|hK2 _ _ _<|sr fun K7 hK8=>q_build (vs := [(0, int .u8 32), (1, int .i64 10)]) (cs := [int .u8 32, int .i64 10]) ze103 pl103 z z<|q_build (vs := [(0, int .u8 45), (1, int .i64 10)]) (cs := [int .u8 45, int .i64 10]) ze103 pl103 z z<|?_
 refine q_bs hI6 (vs := [(0, agg [int .u8 32, int .i64 10].toArray), (1, agg [int .u8 45, int .i64 10].toArray)]) (cs := [int .u8 32, int .i64 10, int .u8 45, int .i64 10]) el22 ze103 rfl (by decide) rfl rfl (fun g10 wd11 hI12 => ?_)
 obtain ⟨G13, hG14, hI16, hD15⟩ := Hp.publish (xs := ([(⟨32, 10⟩ : api_Glyph), (⟨45, 10⟩ : api_Glyph)] : List api_Glyph)) (n := 2) k_api_Glyph hI12 ⟨[int .u8 32, int .i64 10], _, rfl, (mk_api_Glyph (x := (⟨32, 10⟩ : api_Glyph))), ⟨[int .u8 45, int .i64 10], _, rfl, (mk_api_Glyph (x := (⟨45, 10⟩ : api_Glyph))), rfl⟩⟩ rfl
 refine q_build (vs := [(0, slice (some ⟨g10, 0, none⟩) ([(⟨32, 10⟩ : api_Glyph), (⟨45, 10⟩ : api_Glyph)] : List api_Glyph).length 2)]) (cs := [slice (some ⟨g10, 0, none⟩) ([(⟨32, 10⟩ : api_Glyph), (⟨45, 10⟩ : api_Glyph)] : List api_Glyph).length 2, slice none 0 0]) ze25 pl25 z z<|q_alloc hI16 ze25 fun g18 wd19 hI20=>stk hI20 0 ag25 z z z z z z z fun wd21 hI22=>nl<|hK8 _ _ _<|sQ fun K23 hK24=>sr fun K25 hK26=>asn z<|nl<|hK26 _ _ _<|wb<|bK H fun v52 hC H=>?_
 refine wpc_mono (Q := fun e r ds w => e = .exit 0 ∧ ∃ (A53 : Option Addr) (c54 : Nat) (G59 : Gh), ds = [] ∧ G13 ≤ G59 ∧ Has [(0, pointer (some ⟨g4, 0, none⟩)), (1, pointer (some ⟨g18, 0, none⟩))] r ∧ Hp G59 (bx g18 [slice A53 v52.length c54, slice none 0 0] 25 :: bx g4 [slice none 0 0, slice none 0 0] 25 :: tk (slice A53 v52.length c54) 2 103 :: L) w ∧ v52.length ≤ c54 ∧ Dat k_api_Glyph G59 A53 v52 ∧ Own A53 c54 ∧ True) ?_ ?_
 refine have hI97:=Hp.pick 3 [0, 2, 1] hI22 z;wpc_loop fun I hLp=>?_
 refine formelaw21_ten_l51.partial_correctness (fun v31 v32 o => ∀ (A33 : Option Addr) (c34 : Nat) (G64 : Gh) (r : Rg) (w : World), G13 ≤ G64 → Has [(0, pointer (some ⟨g4, 0, none⟩)), (1, pointer (some ⟨g18, 0, none⟩)), (2, int .u8 v31)] r → Hp G64 (bx g18 [slice A33 v32.length c34, slice none 0 0] 25 :: bx g4 [slice none 0 0, slice none 0 0] 25 :: tk (slice A33 v32.length c34) 2 103 :: L) w → v32.length ≤ c34 → Dat k_api_Glyph G64 A33 v32 → Own A33 c34 → o = v52 → I r [] w) ?_ 97 ([(⟨32, 10⟩ : api_Glyph), (⟨45, 10⟩ : api_Glyph)] : List api_Glyph) _ hC (some ⟨g10, 0, none⟩) 2 _ _ _ gR ⟨rfl, rfl, rfl, tv⟩ hI97 (show ([(⟨32, 10⟩ : api_Glyph), (⟨45, 10⟩ : api_Glyph)] : List api_Glyph).length ≤ 2 from Nat.le_of_ble_eq_true rfl) hD15 (Own.mk _ _ _) rfl
 intro _ ih v31 v32 o H A33 c34 G64 r wd66 hG65 hHas hI67 hl35 hD36 ho37 ho
 rw [ho] at H; clear ho
 rw [hHas.eq]; clear hHas
 refine hLp _ _ _<|sQ fun K68 hK69=>sr fun K70 hK71=>mv z<|q_leq z z<|nl<|hK71 _ _ _<|dC (v31 ≤ 104) (fun h72=>?_) fun h72=>?_
 refine yK h72 H fun H=>wt (bY h72)<|ws<|hK69 _ _ _<|sQ fun K73 hK74=>wb<|wpc_region<|fa fl25_0 z<|ld hI67 0 ag22 z z z<|mv z<|q_build (vs := [(0, int .u8 v31), (1, int .i64 10)]) (cs := [int .u8 v31, int .i64 10]) ze103 pl103 z z<|?_
 refine q_bs hI67 (vs := [(0, agg [int .u8 v31, int .i64 10].toArray)]) (cs := [int .u8 v31, int .i64 10]) el22 ze103 rfl (by decide) rfl rfl (fun g76 wd77 hI78 => ?_)
 refine iK H fun h88 H=>?_
 refine q_app (xs := v32) (ys := [(⟨v31, 10⟩ : api_Glyph)]) k_api_Glyph hI78 3 el22 ze103 rfl rfl rfl rfl ho37 hl35 hD36 (src_bx hI78 0 so22 rfl rfl) ⟨[int .u8 v31, int .i64 10], _, rfl, (mk_api_Glyph (x := (⟨v31, 10⟩ : api_Glyph))), rfl⟩ rfl (by simp only [List.length_cons, List.length_nil]; omega) (by simp only [List.length_cons, List.length_nil]; omega) (fun A79 c80 G81 wd82 hG83 ho84 hl85 hD86 hI87 => ?_)
 exact fa fl25_0 z<|stk hI87 1 ag22 z z z z z z z fun wd89 hI90=>nl<|hK74 _ _ _<|wpc_region<|mv z<|q_add z z<|asn z<|nl<|have hI94:=Hp.pick 4 [1, 2, 3] hI90 z;ih _ _ _ H A79 c80 _ _ _ (gT hG65 hG83) ⟨z, z, z, tv⟩ hI94 hl85 hD86 ho84 z
 refine nK h72 H fun H=>wf (bN h72)<|wx<|?_
 cases H
 exact ⟨z, A33, c34, _, z, hG65, ⟨z, z, tv⟩, hI67, hl35, hD36, ho37, tv⟩
 rintro e r ds wd61 ⟨rfl, A53, c54, G59, rfl, hG60, hHas, hI62, hl55, hD56, ho57, _⟩
 rw [hHas.eq]; clear hHas
 refine hK24 _ _ _<|sr fun K98 hK99=>lda hI62 0 ag25 z z z z<|stk hI62 1 ag25 z z z z z z z fun wd100 hI101=>nl<|hK99 _ _ _<|wr<|have hr102:=res_cell (P := Tryz.prog) hI101 1 (cs := [slice A53 v52.length c54, slice none 0 0]) (g := g4) (o := 0) ag25 z z z;have hI103:=Hp.pick 3 [] hI101 z;?_
 cases H
 exact ⟨.inr z, z, _, ⟨_, _, _, z, z, hr102, z⟩, A53, c54, none, 0, _, (gT hG14 hG60), hI103, hl55, hD56, (show ([] : List api_Kern).length ≤ 0 from Nat.le_refl 0), (Dat.nil _ _ _), z⟩
theorem formelaw21_head_spec {r1001 G L w} (H : formelaw21_head = some r1001) (hI : Hp G L w) (hgl : Gl G) :
    Calls Tryz.prog 10 [].toArray w fun e w' => Hp G L w' ∧ e = .returned (bool r1001) := by
 refine calls_intro (N := 115) Tryz.func10 z z (Nat.le_of_ble_eq_true z)<|?_
 unfold formelaw21_head at H
 refine sr fun K1 hK2=>asn z<|nl<|hK2 _ _ _<|sr fun K3 hK4=>q_build (vs := [(0, int .i64 1), (1, int .i64 1)]) (cs := [int .i64 1, int .i64 1, slice none 0 0]) ze28 pl28 z z<|q_alloc hI ze28 fun g6 wd7 hI8=>stk hI8 0 ag28 z z z z z z z fun wd9 hI10=>nl<|hK4 _ _ _<|sr fun K11 hK12=>q_build (vs := [(0, int .i64 1), (3, int .i64 30), (4, int .i64 20)]) (cs := [int .i64 1, int .i64 0, int .i64 0, int .i64 30, int .i64 20]) ze57 pl57 z z<|?_
 refine q_bs hI10 (vs := [(0, agg [int .i64 1, int .i64 0, int .i64 0, int .i64 30, int .i64 20].toArray)]) (cs := [int .i64 1, int .i64 0, int .i64 0, int .i64 30, int .i64 20]) el31 ze57 rfl (by decide) rfl rfl (fun g14 wd15 hI16 => ?_)
 obtain ⟨G17, hG18, hI20, hD19⟩ := Hp.publish (xs := ([(⟨1, 0, 0, 30, 20⟩ : api_Float)] : List api_Float)) (n := 1) k_api_Float hI16 ⟨[int .i64 1, int .i64 0, int .i64 0, int .i64 30, int .i64 20], _, rfl, (mk_api_Float (x := (⟨1, 0, 0, 30, 20⟩ : api_Float))), rfl⟩ rfl
 refine q_build (vs := [(0, int .i64 1), (3, int .i64 45), (4, int .i64 20)]) (cs := [int .i64 1, int .i64 0, int .i64 0, int .i64 45, int .i64 20]) ze57 pl57 z z<|?_
 refine q_bs hI20 (vs := [(0, agg [int .i64 1, int .i64 0, int .i64 0, int .i64 45, int .i64 20].toArray)]) (cs := [int .i64 1, int .i64 0, int .i64 0, int .i64 45, int .i64 20]) el31 ze57 rfl (by decide) rfl rfl (fun g22 wd23 hI24 => ?_)
 obtain ⟨G25, hG26, hI28, hD27⟩ := Hp.publish (xs := ([(⟨1, 0, 0, 45, 20⟩ : api_Float)] : List api_Float)) (n := 1) k_api_Float hI24 ⟨[int .i64 1, int .i64 0, int .i64 0, int .i64 45, int .i64 20], _, rfl, (mk_api_Float (x := (⟨1, 0, 0, 45, 20⟩ : api_Float))), rfl⟩ rfl
 refine asn z<|asn z<|nl<|hK12 _ _ _<|sQ fun K29 hK30=>bK H fun y40 hy225 H=>bK3 H fun y240 y247 y248 hy425 H=>?_
 refine wpc_drawL [0, 0, 0, 7, 15, 31, 31, 31, 63, 383, 1023] (fun D r w => (D 0 = false ∧ ∃ (G' : Gh), G25 ≤ G' ∧ Regs [(1, pointer (some ⟨g6, 0, none⟩)), (2, slice (some ⟨g14, 0, none⟩) ([(⟨1, 0, 0, 30, 20⟩ : api_Float)] : List api_Float).length 1), (3, slice (some ⟨g22, 0, none⟩) ([(⟨1, 0, 0, 45, 20⟩ : api_Float)] : List api_Float).length 1)] [] [(1, 27, agg [int .i64 1, int .i64 1, slice none 0 0].toArray), (2, 28, slice (some ⟨g14, 0, none⟩) ([(⟨1, 0, 0, 30, 20⟩ : api_Float)] : List api_Float).length 1)] D r ∧ Hp G' (tk (slice (some ⟨g22, 0, none⟩) ([(⟨1, 0, 0, 45, 20⟩ : api_Float)] : List api_Float).length 1) 5 57 :: tk (slice (some ⟨g14, 0, none⟩) ([(⟨1, 0, 0, 30, 20⟩ : api_Float)] : List api_Float).length 1) 5 57 :: bx g6 [int .i64 1, int .i64 1, slice none 0 0] 28 :: L) w) ∨ (D 0 = true ∧ D 3 = false ∧ ∃ (A41 : Option Addr) (c42 : Nat) (A45 : Option Addr) (c46 : Nat) (G' : Gh), G25 ≤ G' ∧ y40.Glyphs.length ≤ c42 ∧ Dat k_api_Glyph G' A41 y40.Glyphs ∧ y40.Kerns.length ≤ c46 ∧ Dat k_api_Kern G' A45 y40.Kerns ∧ Regs [(1, pointer (some ⟨g6, 0, none⟩)), (2, slice (some ⟨g14, 0, none⟩) ([(⟨1, 0, 0, 30, 20⟩ : api_Float)] : List api_Float).length 1), (3, slice (some ⟨g22, 0, none⟩) ([(⟨1, 0, 0, 45, 20⟩ : api_Float)] : List api_Float).length 1)] [] [(1, 27, agg [int .i64 1, int .i64 1, slice none 0 0].toArray), (2, 28, slice (some ⟨g14, 0, none⟩) ([(⟨1, 0, 0, 30, 20⟩ : api_Float)] : List api_Float).length 1), (0, 26, agg [slice A41 y40.Glyphs.length c42, slice A45 y40.Kerns.length c46].toArray)] D r ∧ Hp G' (tk (slice (some ⟨g22, 0, none⟩) ([(⟨1, 0, 0, 45, 20⟩ : api_Float)] : List api_Float).length 1) 5 57 :: tk (slice (some ⟨g14, 0, none⟩) ([(⟨1, 0, 0, 30, 20⟩ : api_Float)] : List api_Float).length 1) 5 57 :: bx g6 [int .i64 1, int .i64 1, slice none 0 0] 28 :: L) w) ∨ (D 3 = true ∧ ∃ (A41 : Option Addr) (c42 : Nat) (A45 : Option Addr) (c46 : Nat) (A241 : Option Addr) (c242 : Nat) (G' : Gh), G25 ≤ G' ∧ y40.Glyphs.length ≤ c42 ∧ Dat k_api_Glyph G' A41 y40.Glyphs ∧ y40.Kerns.length ≤ c46 ∧ Dat k_api_Kern G' A45 y40.Kerns ∧ y240.length ≤ c242 ∧ Dat k_api_Seen G' A241 y240 ∧ Own A241 c242 ∧ Regs [(1, pointer (some ⟨g6, 0, none⟩)), (2, slice (some ⟨g14, 0, none⟩) ([(⟨1, 0, 0, 30, 20⟩ : api_Float)] : List api_Float).length 1), (3, slice (some ⟨g22, 0, none⟩) ([(⟨1, 0, 0, 45, 20⟩ : api_Float)] : List api_Float).length 1)] [] [(1, 27, agg [int .i64 1, int .i64 1, slice none 0 0].toArray), (2, 28, slice (some ⟨g14, 0, none⟩) ([(⟨1, 0, 0, 30, 20⟩ : api_Float)] : List api_Float).length 1), (0, 26, agg [slice A41 y40.Glyphs.length c42, slice A45 y40.Kerns.length c46].toArray), (3, 29, tuple [slice A241 y240.length c242, int .i64 y247, int .i64 y248].toArray), (4, 25, tuple [slice A241 y240.length c242, int .i64 y247, int .i64 y248].toArray), (5, 30, slice A241 y240.length c242), (6, 31, int .i64 y247), (7, 32, int .i64 y248), (8, 4, slice A241 y240.length c242), (9, 5, int .i64 y247), (10, 6, int .i64 y248)] D r ∧ Hp G' (tk (slice A241 y240.length c242) 5 50 :: tk (slice (some ⟨g22, 0, none⟩) ([(⟨1, 0, 0, 45, 20⟩ : api_Float)] : List api_Float).length 1) 5 57 :: tk (slice (some ⟨g14, 0, none⟩) ([(⟨1, 0, 0, 30, 20⟩ : api_Float)] : List api_Float).length 1) 5 57 :: bx g6 [int .i64 1, int .i64 1, slice none 0 0] 28 :: L) w)) mixo z z ?_ ?_ ?_
 exact (.inl ⟨z, _, Gh.le_refl _, Regs.start ⟨z, z, z, tv⟩ trivial, hI28.drew⟩)
 refine ⟨?_, ?_, ?_, ?_, ?_, ?_, ?_, ?_, ?_, ?_, ?_, tv⟩
 rintro D r wd440 (⟨hd2, G436, hG437, hReg439, hI438⟩ | ⟨hd1, hd2, A41, c42, A45, c46, G436, hG437, hl43, hD44, hl47, hD48, hReg439, hI438⟩ | ⟨hd1, A41, c42, A45, c46, A241, c242, G436, hG437, hl43, hD44, hl47, hD48, hl243, hD244, ho245, hReg439, hI438⟩) hDi hpre hpost
 obtain ⟨r0, rfl⟩ := Has.ex (r := r) cN
 refine q_cv (vs := []) bo25 z z (formelaw21_ten_spec hy225 hI438)<|?_
 rintro _ wd38 ⟨A41, c42, A45, c46, G36, hG37, hI39, hl43, hD44, hl47, hD48, rfl⟩
 refine ⟨_, rfl, ?_⟩
 exact nl ⟨z, (.inr (.inl ⟨z, (hpost 3 z), A41, c42, A45, c46, _, (gT hG437 hG37), hl43, hD44, hl47, hD48, (Regs.step (Regs.more (new := [(0, 26, agg [slice A41 y40.Glyphs.length c42, slice A45 y40.Kerns.length c46].toArray)]) hReg439 (List.forall_mem_cons.2 ⟨hDi, (fun _ h => nomatch h)⟩)) hDi z z z z), hI39⟩))⟩
 cases hDi.symm.trans hd1
 cases (hpost 3 rfl).symm.trans hd1
 rintro D r wd440 (⟨hd2, G436, hG437, hReg439, hI438⟩ | ⟨hd1, hd2, A41, c42, A45, c46, G436, hG437, hl43, hD44, hl47, hD48, hReg439, hI438⟩ | ⟨hd1, A41, c42, A45, c46, A241, c242, G436, hG437, hl43, hD44, hl47, hD48, hl243, hD244, ho245, hReg439, hI438⟩) hDi hpre hpost
 obtain ⟨r0, rfl⟩ := Has.ex (cC (hReg439.ins.get 0 rfl) cN)
 exact lda hI438 2 ag28 z z z z<|nl ⟨z, (.inl ⟨hd2, _, hG437, (Regs.step hReg439 hDi z z z z), hI438⟩)⟩
 obtain ⟨r0, rfl⟩ := Has.ex (cC (hReg439.ins.get 0 rfl) cN)
 exact lda hI438 2 ag28 z z z z<|nl ⟨z, (.inr (.inl ⟨hd1, hd2, A41, c42, A45, c46, _, hG437, hl43, hD44, hl47, hD48, (Regs.step hReg439 hDi z z z z), hI438⟩))⟩
 cases (hpost 3 rfl).symm.trans hd1
 rintro D r wd440 (⟨hd2, G436, hG437, hReg439, hI438⟩ | ⟨hd1, hd2, A41, c42, A45, c46, G436, hG437, hl43, hD44, hl47, hD48, hReg439, hI438⟩ | ⟨hd1, A41, c42, A45, c46, A241, c242, G436, hG437, hl43, hD44, hl47, hD48, hl243, hD244, ho245, hReg439, hI438⟩) hDi hpre hpost
 obtain ⟨r0, rfl⟩ := Has.ex (cC (hReg439.ins.get 1 rfl) cN)
 exact mv z<|nl ⟨z, (.inl ⟨hd2, _, hG437, (Regs.step hReg439 hDi z z z z), hI438⟩)⟩
 obtain ⟨r0, rfl⟩ := Has.ex (cC (hReg439.ins.get 1 rfl) cN)
 exact mv z<|nl ⟨z, (.inr (.inl ⟨hd1, hd2, A41, c42, A45, c46, _, hG437, hl43, hD44, hl47, hD48, (Regs.step hReg439 hDi z z z z), hI438⟩))⟩
 cases (hpost 3 rfl).symm.trans hd1
 rintro D r wd440 (⟨hd2, G436, hG437, hReg439, hI438⟩ | ⟨hd1, hd2, A41, c42, A45, c46, G436, hG437, hl43, hD44, hl47, hD48, hReg439, hI438⟩ | ⟨hd1, A41, c42, A45, c46, A241, c242, G436, hG437, hl43, hD44, hl47, hD48, hl243, hD244, ho245, hReg439, hI438⟩) hDi hpre hpost
 cases (hpre 0 rfl).symm.trans hd2
 obtain ⟨r0, rfl⟩ := Has.ex (cC (hReg439.get 2 rfl (hpre 0 rfl)) (cC (hReg439.get 0 rfl (hpre 1 rfl)) (cC (hReg439.get 1 rfl (hpre 2 rfl)) cN)))
 refine q_cv (vs := [agg [slice A41 y40.Glyphs.length c42, slice A45 y40.Kerns.length c46].toArray, agg [int .i64 1, int .i64 1, slice none 0 0].toArray, string (⟨#[97, 98, 32, 99, 100, 32, 101, 102]⟩ : ByteArray), int .i64 100, int .i64 12, int .i64 0, int .i64 0, int .i64 50, int .i64 0, slice (some ⟨g14, 0, none⟩) ([(⟨1, 0, 0, 30, 20⟩ : api_Float)] : List api_Float).length 1]) bo24 z z (wrap_Lines_spec (a10 := (⟨1, 1, ([] : List ByteArray)⟩ : api_Breaks)) (a22 := ([(⟨1, 0, 0, 30, 20⟩ : api_Float)] : List api_Float)) hy425 hI438 hl43 hD44 hl47 hD48 (show ([] : List ByteArray).length ≤ 0 from Nat.le_refl 0) (Dat.nil _ _ _) (show ([(⟨1, 0, 0, 30, 20⟩ : api_Float)] : List api_Float).length ≤ 1 from Nat.le_of_ble_eq_true z) (Dat.mono (gT hG26 hG437) hD19) (hgl.mono (gT (gT hG18 hG26) hG437)))<|?_
 rintro _ wd238 ⟨A241, c242, G236, hG237, hI239, hl243, hD244, ho245, rfl⟩
 refine ⟨_, rfl, ?_⟩
 exact nl ⟨z, (.inr (.inr ⟨z, A41, c42, A45, c46, A241, c242, _, (gT hG437 hG237), hl43, (Dat.mono hG237 hD44), hl47, (Dat.mono hG237 hD48), hl243, hD244, ho245, (Regs.step (Regs.more (new := [(3, 29, tuple [slice A241 y240.length c242, int .i64 y247, int .i64 y248].toArray), (4, 25, tuple [slice A241 y240.length c242, int .i64 y247, int .i64 y248].toArray), (5, 30, slice A241 y240.length c242), (6, 31, int .i64 y247), (7, 32, int .i64 y248), (8, 4, slice A241 y240.length c242), (9, 5, int .i64 y247), (10, 6, int .i64 y248)]) hReg439 (List.forall_mem_cons.2 ⟨hDi, (List.forall_mem_cons.2 ⟨hpost 4 z, (List.forall_mem_cons.2 ⟨hpost 5 z, (List.forall_mem_cons.2 ⟨hpost 6 z, (List.forall_mem_cons.2 ⟨hpost 7 z, (List.forall_mem_cons.2 ⟨hpost 8 z, (List.forall_mem_cons.2 ⟨hpost 9 z, (List.forall_mem_cons.2 ⟨hpost 10 z, (fun _ h => nomatch h)⟩)⟩)⟩)⟩)⟩)⟩)⟩)⟩)) hDi z z z z), hI239⟩))⟩
 cases hDi.symm.trans hd1
 rintro D r wd440 (⟨hd2, G436, hG437, hReg439, hI438⟩ | ⟨hd1, hd2, A41, c42, A45, c46, G436, hG437, hl43, hD44, hl47, hD48, hReg439, hI438⟩ | ⟨hd1, A41, c42, A45, c46, A241, c242, G436, hG437, hl43, hD44, hl47, hD48, hl243, hD244, ho245, hReg439, hI438⟩) hDi hpre hpost
 cases (hpre 0 rfl).symm.trans hd2
 cases (hpre 3 rfl).symm.trans hd2
 obtain ⟨r0, rfl⟩ := Has.ex (cC (hReg439.get 3 rfl (hpre 3 rfl)) cN)
 exact mv z<|nl ⟨z, (.inr (.inr ⟨hd1, A41, c42, A45, c46, A241, c242, _, hG437, hl43, hD44, hl47, hD48, hl243, hD244, ho245, (Regs.step hReg439 hDi z z z z), hI438⟩))⟩
 rintro D r wd440 (⟨hd2, G436, hG437, hReg439, hI438⟩ | ⟨hd1, hd2, A41, c42, A45, c46, G436, hG437, hl43, hD44, hl47, hD48, hReg439, hI438⟩ | ⟨hd1, A41, c42, A45, c46, A241, c242, G436, hG437, hl43, hD44, hl47, hD48, hl243, hD244, ho245, hReg439, hI438⟩) hDi hpre hpost
 cases (hpre 0 rfl).symm.trans hd2
 cases (hpre 3 rfl).symm.trans hd2
 obtain ⟨r0, rfl⟩ := Has.ex (cC (hReg439.get 4 rfl (hpre 4 rfl)) cN)
 exact exk z z<|nl ⟨z, (.inr (.inr ⟨hd1, A41, c42, A45, c46, A241, c242, _, hG437, hl43, hD44, hl47, hD48, hl243, hD244, ho245, (Regs.step hReg439 hDi z z z z), hI438⟩))⟩
 rintro D r wd440 (⟨hd2, G436, hG437, hReg439, hI438⟩ | ⟨hd1, hd2, A41, c42, A45, c46, G436, hG437, hl43, hD44, hl47, hD48, hReg439, hI438⟩ | ⟨hd1, A41, c42, A45, c46, A241, c242, G436, hG437, hl43, hD44, hl47, hD48, hl243, hD244, ho245, hReg439, hI438⟩) hDi hpre hpost
 cases (hpre 0 rfl).symm.trans hd2
 cases (hpre 3 rfl).symm.trans hd2
 obtain ⟨r0, rfl⟩ := Has.ex (cC (hReg439.get 4 rfl (hpre 4 rfl)) cN)
 exact exk z z<|nl ⟨z, (.inr (.inr ⟨hd1, A41, c42, A45, c46, A241, c242, _, hG437, hl43, hD44, hl47, hD48, hl243, hD244, ho245, (Regs.step hReg439 hDi z z z z), hI438⟩))⟩
 rintro D r wd440 (⟨hd2, G436, hG437, hReg439, hI438⟩ | ⟨hd1, hd2, A41, c42, A45, c46, G436, hG437, hl43, hD44, hl47, hD48, hReg439, hI438⟩ | ⟨hd1, A41, c42, A45, c46, A241, c242, G436, hG437, hl43, hD44, hl47, hD48, hl243, hD244, ho245, hReg439, hI438⟩) hDi hpre hpost
 cases (hpre 0 rfl).symm.trans hd2
 cases (hpre 3 rfl).symm.trans hd2
 obtain ⟨r0, rfl⟩ := Has.ex (cC (hReg439.get 4 rfl (hpre 4 rfl)) cN)
 exact exk z z<|nl ⟨z, (.inr (.inr ⟨hd1, A41, c42, A45, c46, A241, c242, _, hG437, hl43, hD44, hl47, hD48, hl243, hD244, ho245, (Regs.step hReg439 hDi z z z z), hI438⟩))⟩
 rintro D r wd440 (⟨hd2, G436, hG437, hReg439, hI438⟩ | ⟨hd1, hd2, A41, c42, A45, c46, G436, hG437, hl43, hD44, hl47, hD48, hReg439, hI438⟩ | ⟨hd1, A41, c42, A45, c46, A241, c242, G436, hG437, hl43, hD44, hl47, hD48, hl243, hD244, ho245, hReg439, hI438⟩) hDi hpre hpost
 cases (hpre 0 rfl).symm.trans hd2
 cases (hpre 3 rfl).symm.trans hd2
 obtain ⟨r0, rfl⟩ := Has.ex (cC (hReg439.get 5 rfl (hpre 5 rfl)) cN)
 exact asn z<|nl ⟨z, (.inr (.inr ⟨hd1, A41, c42, A45, c46, A241, c242, _, hG437, hl43, hD44, hl47, hD48, hl243, hD244, ho245, (Regs.step hReg439 hDi z z z z), hI438⟩))⟩
 rintro D r wd440 (⟨hd2, G436, hG437, hReg439, hI438⟩ | ⟨hd1, hd2, A41, c42, A45, c46, G436, hG437, hl43, hD44, hl47, hD48, hReg439, hI438⟩ | ⟨hd1, A41, c42, A45, c46, A241, c242, G436, hG437, hl43, hD44, hl47, hD48, hl243, hD244, ho245, hReg439, hI438⟩) hDi hpre hpost
 cases (hpre 0 rfl).symm.trans hd2
 cases (hpre 3 rfl).symm.trans hd2
 obtain ⟨r0, rfl⟩ := Has.ex (cC (hReg439.get 6 rfl (hpre 6 rfl)) cN)
 exact asn z<|nl ⟨z, (.inr (.inr ⟨hd1, A41, c42, A45, c46, A241, c242, _, hG437, hl43, hD44, hl47, hD48, hl243, hD244, ho245, (Regs.step hReg439 hDi z z z z), hI438⟩))⟩
 rintro D r wd440 (⟨hd2, G436, hG437, hReg439, hI438⟩ | ⟨hd1, hd2, A41, c42, A45, c46, G436, hG437, hl43, hD44, hl47, hD48, hReg439, hI438⟩ | ⟨hd1, A41, c42, A45, c46, A241, c242, G436, hG437, hl43, hD44, hl47, hD48, hl243, hD244, ho245, hReg439, hI438⟩) hDi hpre hpost
 cases (hpre 0 rfl).symm.trans hd2
 cases (hpre 3 rfl).symm.trans hd2
 obtain ⟨r0, rfl⟩ := Has.ex (cC (hReg439.get 7 rfl (hpre 7 rfl)) cN)
 exact asn z<|nl ⟨z, (.inr (.inr ⟨hd1, A41, c42, A45, c46, A241, c242, _, hG437, hl43, hD44, hl47, hD48, hl243, hD244, ho245, (Regs.step hReg439 hDi z z z z), hI438⟩))⟩
 intro D r wd440 hall hR
 rcases hR with ⟨hd2, G436, hG437, hReg439, hI438⟩ | ⟨hd1, hd2, A41, c42, A45, c46, G436, hG437, hl43, hD44, hl47, hD48, hReg439, hI438⟩ | ⟨hd1, A41, c42, A45, c46, A241, c242, G436, hG437, hl43, hD44, hl47, hD48, hl243, hD244, ho245, hReg439, hI438⟩
 cases (hall 0 (Nat.le_of_ble_eq_true rfl)).symm.trans hd2
 cases (hall 3 (Nat.le_of_ble_eq_true rfl)).symm.trans hd2
 obtain ⟨r0, rfl⟩ := Has.ex (cC (hReg439.ins.get 0 rfl) (cC (hReg439.ins.get 2 rfl) (cC (hReg439.get 8 rfl (hall 8 (Nat.le_of_ble_eq_true rfl))) (cC (hReg439.get 9 rfl (hall 9 (Nat.le_of_ble_eq_true rfl))) (cC (hReg439.get 10 rfl (hall 10 (Nat.le_of_ble_eq_true rfl))) cN)))))
 refine hK30 _ _ _<|sQ fun K441 hK442=>bK H fun y452 hy637 H=>bK3 H fun y652 y659 y660 hy837 H=>?_
 refine wpc_drawL [0, 0, 0, 7, 15, 31, 31, 31, 63, 383, 1023] (fun D r w => (D 0 = false ∧ ∃ (G' : Gh), G436 ≤ G' ∧ Regs [(1, pointer (some ⟨g6, 0, none⟩)), (3, slice (some ⟨g22, 0, none⟩) ([(⟨1, 0, 0, 45, 20⟩ : api_Float)] : List api_Float).length 1), (4, slice A241 y240.length c242), (5, int .i64 y247), (6, int .i64 y248)] [] [(1, 35, agg [int .i64 1, int .i64 1, slice none 0 0].toArray), (2, 36, slice (some ⟨g22, 0, none⟩) ([(⟨1, 0, 0, 45, 20⟩ : api_Float)] : List api_Float).length 1)] D r ∧ Hp G' (tk (slice A241 y240.length c242) 5 50 :: tk (slice (some ⟨g22, 0, none⟩) ([(⟨1, 0, 0, 45, 20⟩ : api_Float)] : List api_Float).length 1) 5 57 :: tk (slice (some ⟨g14, 0, none⟩) ([(⟨1, 0, 0, 30, 20⟩ : api_Float)] : List api_Float).length 1) 5 57 :: bx g6 [int .i64 1, int .i64 1, slice none 0 0] 28 :: L) w) ∨ (D 0 = true ∧ D 3 = false ∧ ∃ (A453 : Option Addr) (c454 : Nat) (A457 : Option Addr) (c458 : Nat) (G' : Gh), G436 ≤ G' ∧ y452.Glyphs.length ≤ c454 ∧ Dat k_api_Glyph G' A453 y452.Glyphs ∧ y452.Kerns.length ≤ c458 ∧ Dat k_api_Kern G' A457 y452.Kerns ∧ Regs [(1, pointer (some ⟨g6, 0, none⟩)), (3, slice (some ⟨g22, 0, none⟩) ([(⟨1, 0, 0, 45, 20⟩ : api_Float)] : List api_Float).length 1), (4, slice A241 y240.length c242), (5, int .i64 y247), (6, int .i64 y248)] [] [(1, 35, agg [int .i64 1, int .i64 1, slice none 0 0].toArray), (2, 36, slice (some ⟨g22, 0, none⟩) ([(⟨1, 0, 0, 45, 20⟩ : api_Float)] : List api_Float).length 1), (0, 34, agg [slice A453 y452.Glyphs.length c454, slice A457 y452.Kerns.length c458].toArray)] D r ∧ Hp G' (tk (slice A241 y240.length c242) 5 50 :: tk (slice (some ⟨g22, 0, none⟩) ([(⟨1, 0, 0, 45, 20⟩ : api_Float)] : List api_Float).length 1) 5 57 :: tk (slice (some ⟨g14, 0, none⟩) ([(⟨1, 0, 0, 30, 20⟩ : api_Float)] : List api_Float).length 1) 5 57 :: bx g6 [int .i64 1, int .i64 1, slice none 0 0] 28 :: L) w) ∨ (D 3 = true ∧ ∃ (A453 : Option Addr) (c454 : Nat) (A457 : Option Addr) (c458 : Nat) (A653 : Option Addr) (c654 : Nat) (G' : Gh), G436 ≤ G' ∧ y452.Glyphs.length ≤ c454 ∧ Dat k_api_Glyph G' A453 y452.Glyphs ∧ y452.Kerns.length ≤ c458 ∧ Dat k_api_Kern G' A457 y452.Kerns ∧ y652.length ≤ c654 ∧ Dat k_api_Seen G' A653 y652 ∧ Own A653 c654 ∧ Regs [(1, pointer (some ⟨g6, 0, none⟩)), (3, slice (some ⟨g22, 0, none⟩) ([(⟨1, 0, 0, 45, 20⟩ : api_Float)] : List api_Float).length 1), (4, slice A241 y240.length c242), (5, int .i64 y247), (6, int .i64 y248)] [] [(1, 35, agg [int .i64 1, int .i64 1, slice none 0 0].toArray), (2, 36, slice (some ⟨g22, 0, none⟩) ([(⟨1, 0, 0, 45, 20⟩ : api_Float)] : List api_Float).length 1), (0, 34, agg [slice A453 y452.Glyphs.length c454, slice A457 y452.Kerns.length c458].toArray), (3, 37, tuple [slice A653 y652.length c654, int .i64 y659, int .i64 y660].toArray), (4, 33, tuple [slice A653 y652.length c654, int .i64 y659, int .i64 y660].toArray), (5, 38, slice A653 y652.length c654), (6, 39, int .i64 y659), (7, 40, int .i64 y660), (8, 7, slice A653 y652.length c654), (9, 8, int .i64 y659), (10, 9, int .i64 y660)] D r ∧ Hp G' (tk (slice A653 y652.length c654) 5 50 :: tk (slice A241 y240.length c242) 5 50 :: tk (slice (some ⟨g22, 0, none⟩) ([(⟨1, 0, 0, 45, 20⟩ : api_Float)] : List api_Float).length 1) 5 57 :: tk (slice (some ⟨g14, 0, none⟩) ([(⟨1, 0, 0, 30, 20⟩ : api_Float)] : List api_Float).length 1) 5 57 :: bx g6 [int .i64 1, int .i64 1, slice none 0 0] 28 :: L) w)) mixo z z ?_ ?_ ?_
 exact (.inl ⟨z, _, Gh.le_refl _, Regs.start ⟨z, z, z, z, z, tv⟩ trivial, hI438.drew⟩)
 refine ⟨?_, ?_, ?_, ?_, ?_, ?_, ?_, ?_, ?_, ?_, ?_, tv⟩
 rintro D r wd852 (⟨hd2, G848, hG849, hReg851, hI850⟩ | ⟨hd1, hd2, A453, c454, A457, c458, G848, hG849, hl455, hD456, hl459, hD460, hReg851, hI850⟩ | ⟨hd1, A453, c454, A457, c458, A653, c654, G848, hG849, hl455, hD456, hl459, hD460, hl655, hD656, ho657, hReg851, hI850⟩) hDi hpre hpost
 obtain ⟨r0, rfl⟩ := Has.ex (r := r) cN
 refine q_cv (vs := []) bo25 z z (formelaw21_ten_spec hy637 hI850)<|?_
 rintro _ wd450 ⟨A453, c454, A457, c458, G448, hG449, hI451, hl455, hD456, hl459, hD460, rfl⟩
 refine ⟨_, rfl, ?_⟩
 exact nl ⟨z, (.inr (.inl ⟨z, (hpost 3 z), A453, c454, A457, c458, _, (gT hG849 hG449), hl455, hD456, hl459, hD460, (Regs.step (Regs.more (new := [(0, 34, agg [slice A453 y452.Glyphs.length c454, slice A457 y452.Kerns.length c458].toArray)]) hReg851 (List.forall_mem_cons.2 ⟨hDi, (fun _ h => nomatch h)⟩)) hDi z z z z), hI451⟩))⟩
 cases hDi.symm.trans hd1
 cases (hpost 3 rfl).symm.trans hd1
 rintro D r wd852 (⟨hd2, G848, hG849, hReg851, hI850⟩ | ⟨hd1, hd2, A453, c454, A457, c458, G848, hG849, hl455, hD456, hl459, hD460, hReg851, hI850⟩ | ⟨hd1, A453, c454, A457, c458, A653, c654, G848, hG849, hl455, hD456, hl459, hD460, hl655, hD656, ho657, hReg851, hI850⟩) hDi hpre hpost
 obtain ⟨r0, rfl⟩ := Has.ex (cC (hReg851.ins.get 0 rfl) cN)
 exact lda hI850 3 ag28 z z z z<|nl ⟨z, (.inl ⟨hd2, _, hG849, (Regs.step hReg851 hDi z z z z), hI850⟩)⟩
 obtain ⟨r0, rfl⟩ := Has.ex (cC (hReg851.ins.get 0 rfl) cN)
 exact lda hI850 3 ag28 z z z z<|nl ⟨z, (.inr (.inl ⟨hd1, hd2, A453, c454, A457, c458, _, hG849, hl455, hD456, hl459, hD460, (Regs.step hReg851 hDi z z z z), hI850⟩))⟩
 cases (hpost 3 rfl).symm.trans hd1
 rintro D r wd852 (⟨hd2, G848, hG849, hReg851, hI850⟩ | ⟨hd1, hd2, A453, c454, A457, c458, G848, hG849, hl455, hD456, hl459, hD460, hReg851, hI850⟩ | ⟨hd1, A453, c454, A457, c458, A653, c654, G848, hG849, hl455, hD456, hl459, hD460, hl655, hD656, ho657, hReg851, hI850⟩) hDi hpre hpost
 obtain ⟨r0, rfl⟩ := Has.ex (cC (hReg851.ins.get 1 rfl) cN)
 exact mv z<|nl ⟨z, (.inl ⟨hd2, _, hG849, (Regs.step hReg851 hDi z z z z), hI850⟩)⟩
 obtain ⟨r0, rfl⟩ := Has.ex (cC (hReg851.ins.get 1 rfl) cN)
 exact mv z<|nl ⟨z, (.inr (.inl ⟨hd1, hd2, A453, c454, A457, c458, _, hG849, hl455, hD456, hl459, hD460, (Regs.step hReg851 hDi z z z z), hI850⟩))⟩
 cases (hpost 3 rfl).symm.trans hd1
 rintro D r wd852 (⟨hd2, G848, hG849, hReg851, hI850⟩ | ⟨hd1, hd2, A453, c454, A457, c458, G848, hG849, hl455, hD456, hl459, hD460, hReg851, hI850⟩ | ⟨hd1, A453, c454, A457, c458, A653, c654, G848, hG849, hl455, hD456, hl459, hD460, hl655, hD656, ho657, hReg851, hI850⟩) hDi hpre hpost
 cases (hpre 0 rfl).symm.trans hd2
 obtain ⟨r0, rfl⟩ := Has.ex (cC (hReg851.get 2 rfl (hpre 0 rfl)) (cC (hReg851.get 0 rfl (hpre 1 rfl)) (cC (hReg851.get 1 rfl (hpre 2 rfl)) cN)))
 refine q_cv (vs := [agg [slice A453 y452.Glyphs.length c454, slice A457 y452.Kerns.length c458].toArray, agg [int .i64 1, int .i64 1, slice none 0 0].toArray, string (⟨#[97, 98, 32, 99, 100, 32, 101, 102]⟩ : ByteArray), int .i64 100, int .i64 12, int .i64 0, int .i64 0, int .i64 50, int .i64 0, slice (some ⟨g22, 0, none⟩) ([(⟨1, 0, 0, 45, 20⟩ : api_Float)] : List api_Float).length 1]) bo24 z z (wrap_Lines_spec (a10 := (⟨1, 1, ([] : List ByteArray)⟩ : api_Breaks)) (a22 := ([(⟨1, 0, 0, 45, 20⟩ : api_Float)] : List api_Float)) hy837 hI850 hl455 hD456 hl459 hD460 (show ([] : List ByteArray).length ≤ 0 from Nat.le_refl 0) (Dat.nil _ _ _) (show ([(⟨1, 0, 0, 45, 20⟩ : api_Float)] : List api_Float).length ≤ 1 from Nat.le_of_ble_eq_true z) (Dat.mono (gT hG437 hG849) hD27) (hgl.mono (gT (gT (gT hG18 hG26) hG437) hG849)))<|?_
 rintro _ wd650 ⟨A653, c654, G648, hG649, hI651, hl655, hD656, ho657, rfl⟩
 refine ⟨_, rfl, ?_⟩
 exact nl ⟨z, (.inr (.inr ⟨z, A453, c454, A457, c458, A653, c654, _, (gT hG849 hG649), hl455, (Dat.mono hG649 hD456), hl459, (Dat.mono hG649 hD460), hl655, hD656, ho657, (Regs.step (Regs.more (new := [(3, 37, tuple [slice A653 y652.length c654, int .i64 y659, int .i64 y660].toArray), (4, 33, tuple [slice A653 y652.length c654, int .i64 y659, int .i64 y660].toArray), (5, 38, slice A653 y652.length c654), (6, 39, int .i64 y659), (7, 40, int .i64 y660), (8, 7, slice A653 y652.length c654), (9, 8, int .i64 y659), (10, 9, int .i64 y660)]) hReg851 (List.forall_mem_cons.2 ⟨hDi, (List.forall_mem_cons.2 ⟨hpost 4 z, (List.forall_mem_cons.2 ⟨hpost 5 z, (List.forall_mem_cons.2 ⟨hpost 6 z, (List.forall_mem_cons.2 ⟨hpost 7 z, (List.forall_mem_cons.2 ⟨hpost 8 z, (List.forall_mem_cons.2 ⟨hpost 9 z, (List.forall_mem_cons.2 ⟨hpost 10 z, (fun _ h => nomatch h)⟩)⟩)⟩)⟩)⟩)⟩)⟩)⟩)) hDi z z z z), hI651⟩))⟩
 cases hDi.symm.trans hd1
 rintro D r wd852 (⟨hd2, G848, hG849, hReg851, hI850⟩ | ⟨hd1, hd2, A453, c454, A457, c458, G848, hG849, hl455, hD456, hl459, hD460, hReg851, hI850⟩ | ⟨hd1, A453, c454, A457, c458, A653, c654, G848, hG849, hl455, hD456, hl459, hD460, hl655, hD656, ho657, hReg851, hI850⟩) hDi hpre hpost
 cases (hpre 0 rfl).symm.trans hd2
 cases (hpre 3 rfl).symm.trans hd2
 obtain ⟨r0, rfl⟩ := Has.ex (cC (hReg851.get 3 rfl (hpre 3 rfl)) cN)
 exact mv z<|nl ⟨z, (.inr (.inr ⟨hd1, A453, c454, A457, c458, A653, c654, _, hG849, hl455, hD456, hl459, hD460, hl655, hD656, ho657, (Regs.step hReg851 hDi z z z z), hI850⟩))⟩
 rintro D r wd852 (⟨hd2, G848, hG849, hReg851, hI850⟩ | ⟨hd1, hd2, A453, c454, A457, c458, G848, hG849, hl455, hD456, hl459, hD460, hReg851, hI850⟩ | ⟨hd1, A453, c454, A457, c458, A653, c654, G848, hG849, hl455, hD456, hl459, hD460, hl655, hD656, ho657, hReg851, hI850⟩) hDi hpre hpost
 cases (hpre 0 rfl).symm.trans hd2
 cases (hpre 3 rfl).symm.trans hd2
 obtain ⟨r0, rfl⟩ := Has.ex (cC (hReg851.get 4 rfl (hpre 4 rfl)) cN)
 exact exk z z<|nl ⟨z, (.inr (.inr ⟨hd1, A453, c454, A457, c458, A653, c654, _, hG849, hl455, hD456, hl459, hD460, hl655, hD656, ho657, (Regs.step hReg851 hDi z z z z), hI850⟩))⟩
 rintro D r wd852 (⟨hd2, G848, hG849, hReg851, hI850⟩ | ⟨hd1, hd2, A453, c454, A457, c458, G848, hG849, hl455, hD456, hl459, hD460, hReg851, hI850⟩ | ⟨hd1, A453, c454, A457, c458, A653, c654, G848, hG849, hl455, hD456, hl459, hD460, hl655, hD656, ho657, hReg851, hI850⟩) hDi hpre hpost
 cases (hpre 0 rfl).symm.trans hd2
 cases (hpre 3 rfl).symm.trans hd2
 obtain ⟨r0, rfl⟩ := Has.ex (cC (hReg851.get 4 rfl (hpre 4 rfl)) cN)
 exact exk z z<|nl ⟨z, (.inr (.inr ⟨hd1, A453, c454, A457, c458, A653, c654, _, hG849, hl455, hD456, hl459, hD460, hl655, hD656, ho657, (Regs.step hReg851 hDi z z z z), hI850⟩))⟩
 rintro D r wd852 (⟨hd2, G848, hG849, hReg851, hI850⟩ | ⟨hd1, hd2, A453, c454, A457, c458, G848, hG849, hl455, hD456, hl459, hD460, hReg851, hI850⟩ | ⟨hd1, A453, c454, A457, c458, A653, c654, G848, hG849, hl455, hD456, hl459, hD460, hl655, hD656, ho657, hReg851, hI850⟩) hDi hpre hpost
 cases (hpre 0 rfl).symm.trans hd2
 cases (hpre 3 rfl).symm.trans hd2
 obtain ⟨r0, rfl⟩ := Has.ex (cC (hReg851.get 4 rfl (hpre 4 rfl)) cN)
 exact exk z z<|nl ⟨z, (.inr (.inr ⟨hd1, A453, c454, A457, c458, A653, c654, _, hG849, hl455, hD456, hl459, hD460, hl655, hD656, ho657, (Regs.step hReg851 hDi z z z z), hI850⟩))⟩
 rintro D r wd852 (⟨hd2, G848, hG849, hReg851, hI850⟩ | ⟨hd1, hd2, A453, c454, A457, c458, G848, hG849, hl455, hD456, hl459, hD460, hReg851, hI850⟩ | ⟨hd1, A453, c454, A457, c458, A653, c654, G848, hG849, hl455, hD456, hl459, hD460, hl655, hD656, ho657, hReg851, hI850⟩) hDi hpre hpost
 cases (hpre 0 rfl).symm.trans hd2
 cases (hpre 3 rfl).symm.trans hd2
 obtain ⟨r0, rfl⟩ := Has.ex (cC (hReg851.get 5 rfl (hpre 5 rfl)) cN)
 exact asn z<|nl ⟨z, (.inr (.inr ⟨hd1, A453, c454, A457, c458, A653, c654, _, hG849, hl455, hD456, hl459, hD460, hl655, hD656, ho657, (Regs.step hReg851 hDi z z z z), hI850⟩))⟩
 rintro D r wd852 (⟨hd2, G848, hG849, hReg851, hI850⟩ | ⟨hd1, hd2, A453, c454, A457, c458, G848, hG849, hl455, hD456, hl459, hD460, hReg851, hI850⟩ | ⟨hd1, A453, c454, A457, c458, A653, c654, G848, hG849, hl455, hD456, hl459, hD460, hl655, hD656, ho657, hReg851, hI850⟩) hDi hpre hpost
 cases (hpre 0 rfl).symm.trans hd2
 cases (hpre 3 rfl).symm.trans hd2
 obtain ⟨r0, rfl⟩ := Has.ex (cC (hReg851.get 6 rfl (hpre 6 rfl)) cN)
 exact asn z<|nl ⟨z, (.inr (.inr ⟨hd1, A453, c454, A457, c458, A653, c654, _, hG849, hl455, hD456, hl459, hD460, hl655, hD656, ho657, (Regs.step hReg851 hDi z z z z), hI850⟩))⟩
 rintro D r wd852 (⟨hd2, G848, hG849, hReg851, hI850⟩ | ⟨hd1, hd2, A453, c454, A457, c458, G848, hG849, hl455, hD456, hl459, hD460, hReg851, hI850⟩ | ⟨hd1, A453, c454, A457, c458, A653, c654, G848, hG849, hl455, hD456, hl459, hD460, hl655, hD656, ho657, hReg851, hI850⟩) hDi hpre hpost
 cases (hpre 0 rfl).symm.trans hd2
 cases (hpre 3 rfl).symm.trans hd2
 obtain ⟨r0, rfl⟩ := Has.ex (cC (hReg851.get 7 rfl (hpre 7 rfl)) cN)
 exact asn z<|nl ⟨z, (.inr (.inr ⟨hd1, A453, c454, A457, c458, A653, c654, _, hG849, hl455, hD456, hl459, hD460, hl655, hD656, ho657, (Regs.step hReg851 hDi z z z z), hI850⟩))⟩
 intro D r wd852 hall hR
 rcases hR with ⟨hd2, G848, hG849, hReg851, hI850⟩ | ⟨hd1, hd2, A453, c454, A457, c458, G848, hG849, hl455, hD456, hl459, hD460, hReg851, hI850⟩ | ⟨hd1, A453, c454, A457, c458, A653, c654, G848, hG849, hl455, hD456, hl459, hD460, hl655, hD656, ho657, hReg851, hI850⟩
 cases (hall 0 (Nat.le_of_ble_eq_true rfl)).symm.trans hd2
 cases (hall 3 (Nat.le_of_ble_eq_true rfl)).symm.trans hd2
 obtain ⟨r0, rfl⟩ := Has.ex (cC (hReg851.ins.get 0 rfl) (cC (hReg851.ins.get 1 rfl) (cC (hReg851.ins.get 2 rfl) (cC (hReg851.ins.get 3 rfl) (cC (hReg851.ins.get 4 rfl) (cC (hReg851.get 8 rfl (hall 8 (Nat.le_of_ble_eq_true rfl))) (cC (hReg851.get 9 rfl (hall 9 (Nat.le_of_ble_eq_true rfl))) (cC (hReg851.get 10 rfl (hall 10 (Nat.le_of_ble_eq_true rfl))) cN))))))))
 refine hK442 _ _ _<|sQ fun K853 hK854=>bK H fun y864 hy1049 H=>bK3 H fun y1064 y1071 y1072 hy1249 H=>?_
 refine wpc_drawL [0, 0, 0, 7, 15, 31, 31, 31, 63, 383, 1023] (fun D r w => (D 0 = false ∧ ∃ (G' : Gh), G848 ≤ G' ∧ Regs [(1, pointer (some ⟨g6, 0, none⟩)), (3, slice (some ⟨g22, 0, none⟩) ([(⟨1, 0, 0, 45, 20⟩ : api_Float)] : List api_Float).length 1), (4, slice A241 y240.length c242), (5, int .i64 y247), (6, int .i64 y248), (7, slice A653 y652.length c654), (8, int .i64 y659), (9, int .i64 y660)] [] [(1, 43, agg [int .i64 1, int .i64 1, slice none 0 0].toArray), (2, 44, slice (some ⟨g22, 0, none⟩) ([(⟨1, 0, 0, 45, 20⟩ : api_Float)] : List api_Float).length 1)] D r ∧ Hp G' (tk (slice A653 y652.length c654) 5 50 :: tk (slice A241 y240.length c242) 5 50 :: tk (slice (some ⟨g22, 0, none⟩) ([(⟨1, 0, 0, 45, 20⟩ : api_Float)] : List api_Float).length 1) 5 57 :: tk (slice (some ⟨g14, 0, none⟩) ([(⟨1, 0, 0, 30, 20⟩ : api_Float)] : List api_Float).length 1) 5 57 :: bx g6 [int .i64 1, int .i64 1, slice none 0 0] 28 :: L) w) ∨ (D 0 = true ∧ D 3 = false ∧ ∃ (A865 : Option Addr) (c866 : Nat) (A869 : Option Addr) (c870 : Nat) (G' : Gh), G848 ≤ G' ∧ y864.Glyphs.length ≤ c866 ∧ Dat k_api_Glyph G' A865 y864.Glyphs ∧ y864.Kerns.length ≤ c870 ∧ Dat k_api_Kern G' A869 y864.Kerns ∧ Regs [(1, pointer (some ⟨g6, 0, none⟩)), (3, slice (some ⟨g22, 0, none⟩) ([(⟨1, 0, 0, 45, 20⟩ : api_Float)] : List api_Float).length 1), (4, slice A241 y240.length c242), (5, int .i64 y247), (6, int .i64 y248), (7, slice A653 y652.length c654), (8, int .i64 y659), (9, int .i64 y660)] [] [(1, 43, agg [int .i64 1, int .i64 1, slice none 0 0].toArray), (2, 44, slice (some ⟨g22, 0, none⟩) ([(⟨1, 0, 0, 45, 20⟩ : api_Float)] : List api_Float).length 1), (0, 42, agg [slice A865 y864.Glyphs.length c866, slice A869 y864.Kerns.length c870].toArray)] D r ∧ Hp G' (tk (slice A653 y652.length c654) 5 50 :: tk (slice A241 y240.length c242) 5 50 :: tk (slice (some ⟨g22, 0, none⟩) ([(⟨1, 0, 0, 45, 20⟩ : api_Float)] : List api_Float).length 1) 5 57 :: tk (slice (some ⟨g14, 0, none⟩) ([(⟨1, 0, 0, 30, 20⟩ : api_Float)] : List api_Float).length 1) 5 57 :: bx g6 [int .i64 1, int .i64 1, slice none 0 0] 28 :: L) w) ∨ (D 3 = true ∧ ∃ (A865 : Option Addr) (c866 : Nat) (A869 : Option Addr) (c870 : Nat) (A1065 : Option Addr) (c1066 : Nat) (G' : Gh), G848 ≤ G' ∧ y864.Glyphs.length ≤ c866 ∧ Dat k_api_Glyph G' A865 y864.Glyphs ∧ y864.Kerns.length ≤ c870 ∧ Dat k_api_Kern G' A869 y864.Kerns ∧ y1064.length ≤ c1066 ∧ Dat k_api_Seen G' A1065 y1064 ∧ Own A1065 c1066 ∧ Regs [(1, pointer (some ⟨g6, 0, none⟩)), (3, slice (some ⟨g22, 0, none⟩) ([(⟨1, 0, 0, 45, 20⟩ : api_Float)] : List api_Float).length 1), (4, slice A241 y240.length c242), (5, int .i64 y247), (6, int .i64 y248), (7, slice A653 y652.length c654), (8, int .i64 y659), (9, int .i64 y660)] [] [(1, 43, agg [int .i64 1, int .i64 1, slice none 0 0].toArray), (2, 44, slice (some ⟨g22, 0, none⟩) ([(⟨1, 0, 0, 45, 20⟩ : api_Float)] : List api_Float).length 1), (0, 42, agg [slice A865 y864.Glyphs.length c866, slice A869 y864.Kerns.length c870].toArray), (3, 45, tuple [slice A1065 y1064.length c1066, int .i64 y1071, int .i64 y1072].toArray), (4, 41, tuple [slice A1065 y1064.length c1066, int .i64 y1071, int .i64 y1072].toArray), (5, 46, slice A1065 y1064.length c1066), (6, 47, int .i64 y1071), (7, 48, int .i64 y1072), (8, 10, slice A1065 y1064.length c1066), (9, 11, int .i64 y1071), (10, 12, int .i64 y1072)] D r ∧ Hp G' (tk (slice A1065 y1064.length c1066) 5 50 :: tk (slice A653 y652.length c654) 5 50 :: tk (slice A241 y240.length c242) 5 50 :: tk (slice (some ⟨g22, 0, none⟩) ([(⟨1, 0, 0, 45, 20⟩ : api_Float)] : List api_Float).length 1) 5 57 :: tk (slice (some ⟨g14, 0, none⟩) ([(⟨1, 0, 0, 30, 20⟩ : api_Float)] : List api_Float).length 1) 5 57 :: bx g6 [int .i64 1, int .i64 1, slice none 0 0] 28 :: L) w)) mixo z z ?_ ?_ ?_
 exact (.inl ⟨z, _, Gh.le_refl _, Regs.start ⟨z, z, z, z, z, z, z, z, tv⟩ trivial, hI850.drew⟩)
 refine ⟨?_, ?_, ?_, ?_, ?_, ?_, ?_, ?_, ?_, ?_, ?_, tv⟩
 rintro D r wd1264 (⟨hd2, G1260, hG1261, hReg1263, hI1262⟩ | ⟨hd1, hd2, A865, c866, A869, c870, G1260, hG1261, hl867, hD868, hl871, hD872, hReg1263, hI1262⟩ | ⟨hd1, A865, c866, A869, c870, A1065, c1066, G1260, hG1261, hl867, hD868, hl871, hD872, hl1067, hD1068, ho1069, hReg1263, hI1262⟩) hDi hpre hpost
 obtain ⟨r0, rfl⟩ := Has.ex (r := r) cN
 refine q_cv (vs := []) bo25 z z (formelaw21_ten_spec hy1049 hI1262)<|?_
 rintro _ wd862 ⟨A865, c866, A869, c870, G860, hG861, hI863, hl867, hD868, hl871, hD872, rfl⟩
 refine ⟨_, rfl, ?_⟩
 exact nl ⟨z, (.inr (.inl ⟨z, (hpost 3 z), A865, c866, A869, c870, _, (gT hG1261 hG861), hl867, hD868, hl871, hD872, (Regs.step (Regs.more (new := [(0, 42, agg [slice A865 y864.Glyphs.length c866, slice A869 y864.Kerns.length c870].toArray)]) hReg1263 (List.forall_mem_cons.2 ⟨hDi, (fun _ h => nomatch h)⟩)) hDi z z z z), hI863⟩))⟩
 cases hDi.symm.trans hd1
 cases (hpost 3 rfl).symm.trans hd1
 rintro D r wd1264 (⟨hd2, G1260, hG1261, hReg1263, hI1262⟩ | ⟨hd1, hd2, A865, c866, A869, c870, G1260, hG1261, hl867, hD868, hl871, hD872, hReg1263, hI1262⟩ | ⟨hd1, A865, c866, A869, c870, A1065, c1066, G1260, hG1261, hl867, hD868, hl871, hD872, hl1067, hD1068, ho1069, hReg1263, hI1262⟩) hDi hpre hpost
 obtain ⟨r0, rfl⟩ := Has.ex (cC (hReg1263.ins.get 0 rfl) cN)
 exact lda hI1262 4 ag28 z z z z<|nl ⟨z, (.inl ⟨hd2, _, hG1261, (Regs.step hReg1263 hDi z z z z), hI1262⟩)⟩
 obtain ⟨r0, rfl⟩ := Has.ex (cC (hReg1263.ins.get 0 rfl) cN)
 exact lda hI1262 4 ag28 z z z z<|nl ⟨z, (.inr (.inl ⟨hd1, hd2, A865, c866, A869, c870, _, hG1261, hl867, hD868, hl871, hD872, (Regs.step hReg1263 hDi z z z z), hI1262⟩))⟩
 cases (hpost 3 rfl).symm.trans hd1
 rintro D r wd1264 (⟨hd2, G1260, hG1261, hReg1263, hI1262⟩ | ⟨hd1, hd2, A865, c866, A869, c870, G1260, hG1261, hl867, hD868, hl871, hD872, hReg1263, hI1262⟩ | ⟨hd1, A865, c866, A869, c870, A1065, c1066, G1260, hG1261, hl867, hD868, hl871, hD872, hl1067, hD1068, ho1069, hReg1263, hI1262⟩) hDi hpre hpost
 obtain ⟨r0, rfl⟩ := Has.ex (cC (hReg1263.ins.get 1 rfl) cN)
 exact mv z<|nl ⟨z, (.inl ⟨hd2, _, hG1261, (Regs.step hReg1263 hDi z z z z), hI1262⟩)⟩
 obtain ⟨r0, rfl⟩ := Has.ex (cC (hReg1263.ins.get 1 rfl) cN)
 exact mv z<|nl ⟨z, (.inr (.inl ⟨hd1, hd2, A865, c866, A869, c870, _, hG1261, hl867, hD868, hl871, hD872, (Regs.step hReg1263 hDi z z z z), hI1262⟩))⟩
 cases (hpost 3 rfl).symm.trans hd1
 rintro D r wd1264 (⟨hd2, G1260, hG1261, hReg1263, hI1262⟩ | ⟨hd1, hd2, A865, c866, A869, c870, G1260, hG1261, hl867, hD868, hl871, hD872, hReg1263, hI1262⟩ | ⟨hd1, A865, c866, A869, c870, A1065, c1066, G1260, hG1261, hl867, hD868, hl871, hD872, hl1067, hD1068, ho1069, hReg1263, hI1262⟩) hDi hpre hpost
 cases (hpre 0 rfl).symm.trans hd2
 obtain ⟨r0, rfl⟩ := Has.ex (cC (hReg1263.get 2 rfl (hpre 0 rfl)) (cC (hReg1263.get 0 rfl (hpre 1 rfl)) (cC (hReg1263.get 1 rfl (hpre 2 rfl)) cN)))
 refine q_cv (vs := [agg [slice A865 y864.Glyphs.length c866, slice A869 y864.Kerns.length c870].toArray, agg [int .i64 1, int .i64 1, slice none 0 0].toArray, string (⟨#[32]⟩ : ByteArray), int .i64 100, int .i64 12, int .i64 0, int .i64 0, int .i64 50, int .i64 7, slice (some ⟨g22, 0, none⟩) ([(⟨1, 0, 0, 45, 20⟩ : api_Float)] : List api_Float).length 1]) bo24 z z (wrap_Lines_spec (a10 := (⟨1, 1, ([] : List ByteArray)⟩ : api_Breaks)) (a22 := ([(⟨1, 0, 0, 45, 20⟩ : api_Float)] : List api_Float)) hy1249 hI1262 hl867 hD868 hl871 hD872 (show ([] : List ByteArray).length ≤ 0 from Nat.le_refl 0) (Dat.nil _ _ _) (show ([(⟨1, 0, 0, 45, 20⟩ : api_Float)] : List api_Float).length ≤ 1 from Nat.le_of_ble_eq_true z) (Dat.mono (gT (gT hG437 hG849) hG1261) hD27) (hgl.mono (gT (gT (gT (gT hG18 hG26) hG437) hG849) hG1261)))<|?_
 rintro _ wd1062 ⟨A1065, c1066, G1060, hG1061, hI1063, hl1067, hD1068, ho1069, rfl⟩
 refine ⟨_, rfl, ?_⟩
 exact nl ⟨z, (.inr (.inr ⟨z, A865, c866, A869, c870, A1065, c1066, _, (gT hG1261 hG1061), hl867, (Dat.mono hG1061 hD868), hl871, (Dat.mono hG1061 hD872), hl1067, hD1068, ho1069, (Regs.step (Regs.more (new := [(3, 45, tuple [slice A1065 y1064.length c1066, int .i64 y1071, int .i64 y1072].toArray), (4, 41, tuple [slice A1065 y1064.length c1066, int .i64 y1071, int .i64 y1072].toArray), (5, 46, slice A1065 y1064.length c1066), (6, 47, int .i64 y1071), (7, 48, int .i64 y1072), (8, 10, slice A1065 y1064.length c1066), (9, 11, int .i64 y1071), (10, 12, int .i64 y1072)]) hReg1263 (List.forall_mem_cons.2 ⟨hDi, (List.forall_mem_cons.2 ⟨hpost 4 z, (List.forall_mem_cons.2 ⟨hpost 5 z, (List.forall_mem_cons.2 ⟨hpost 6 z, (List.forall_mem_cons.2 ⟨hpost 7 z, (List.forall_mem_cons.2 ⟨hpost 8 z, (List.forall_mem_cons.2 ⟨hpost 9 z, (List.forall_mem_cons.2 ⟨hpost 10 z, (fun _ h => nomatch h)⟩)⟩)⟩)⟩)⟩)⟩)⟩)⟩)) hDi z z z z), hI1063⟩))⟩
 cases hDi.symm.trans hd1
 rintro D r wd1264 (⟨hd2, G1260, hG1261, hReg1263, hI1262⟩ | ⟨hd1, hd2, A865, c866, A869, c870, G1260, hG1261, hl867, hD868, hl871, hD872, hReg1263, hI1262⟩ | ⟨hd1, A865, c866, A869, c870, A1065, c1066, G1260, hG1261, hl867, hD868, hl871, hD872, hl1067, hD1068, ho1069, hReg1263, hI1262⟩) hDi hpre hpost
 cases (hpre 0 rfl).symm.trans hd2
 cases (hpre 3 rfl).symm.trans hd2
 obtain ⟨r0, rfl⟩ := Has.ex (cC (hReg1263.get 3 rfl (hpre 3 rfl)) cN)
 exact mv z<|nl ⟨z, (.inr (.inr ⟨hd1, A865, c866, A869, c870, A1065, c1066, _, hG1261, hl867, hD868, hl871, hD872, hl1067, hD1068, ho1069, (Regs.step hReg1263 hDi z z z z), hI1262⟩))⟩
 rintro D r wd1264 (⟨hd2, G1260, hG1261, hReg1263, hI1262⟩ | ⟨hd1, hd2, A865, c866, A869, c870, G1260, hG1261, hl867, hD868, hl871, hD872, hReg1263, hI1262⟩ | ⟨hd1, A865, c866, A869, c870, A1065, c1066, G1260, hG1261, hl867, hD868, hl871, hD872, hl1067, hD1068, ho1069, hReg1263, hI1262⟩) hDi hpre hpost
 cases (hpre 0 rfl).symm.trans hd2
 cases (hpre 3 rfl).symm.trans hd2
 obtain ⟨r0, rfl⟩ := Has.ex (cC (hReg1263.get 4 rfl (hpre 4 rfl)) cN)
 exact exk z z<|nl ⟨z, (.inr (.inr ⟨hd1, A865, c866, A869, c870, A1065, c1066, _, hG1261, hl867, hD868, hl871, hD872, hl1067, hD1068, ho1069, (Regs.step hReg1263 hDi z z z z), hI1262⟩))⟩
 rintro D r wd1264 (⟨hd2, G1260, hG1261, hReg1263, hI1262⟩ | ⟨hd1, hd2, A865, c866, A869, c870, G1260, hG1261, hl867, hD868, hl871, hD872, hReg1263, hI1262⟩ | ⟨hd1, A865, c866, A869, c870, A1065, c1066, G1260, hG1261, hl867, hD868, hl871, hD872, hl1067, hD1068, ho1069, hReg1263, hI1262⟩) hDi hpre hpost
 cases (hpre 0 rfl).symm.trans hd2
 cases (hpre 3 rfl).symm.trans hd2
 obtain ⟨r0, rfl⟩ := Has.ex (cC (hReg1263.get 4 rfl (hpre 4 rfl)) cN)
 exact exk z z<|nl ⟨z, (.inr (.inr ⟨hd1, A865, c866, A869, c870, A1065, c1066, _, hG1261, hl867, hD868, hl871, hD872, hl1067, hD1068, ho1069, (Regs.step hReg1263 hDi z z z z), hI1262⟩))⟩
 rintro D r wd1264 (⟨hd2, G1260, hG1261, hReg1263, hI1262⟩ | ⟨hd1, hd2, A865, c866, A869, c870, G1260, hG1261, hl867, hD868, hl871, hD872, hReg1263, hI1262⟩ | ⟨hd1, A865, c866, A869, c870, A1065, c1066, G1260, hG1261, hl867, hD868, hl871, hD872, hl1067, hD1068, ho1069, hReg1263, hI1262⟩) hDi hpre hpost
 cases (hpre 0 rfl).symm.trans hd2
 cases (hpre 3 rfl).symm.trans hd2
 obtain ⟨r0, rfl⟩ := Has.ex (cC (hReg1263.get 4 rfl (hpre 4 rfl)) cN)
 exact exk z z<|nl ⟨z, (.inr (.inr ⟨hd1, A865, c866, A869, c870, A1065, c1066, _, hG1261, hl867, hD868, hl871, hD872, hl1067, hD1068, ho1069, (Regs.step hReg1263 hDi z z z z), hI1262⟩))⟩
 rintro D r wd1264 (⟨hd2, G1260, hG1261, hReg1263, hI1262⟩ | ⟨hd1, hd2, A865, c866, A869, c870, G1260, hG1261, hl867, hD868, hl871, hD872, hReg1263, hI1262⟩ | ⟨hd1, A865, c866, A869, c870, A1065, c1066, G1260, hG1261, hl867, hD868, hl871, hD872, hl1067, hD1068, ho1069, hReg1263, hI1262⟩) hDi hpre hpost
 cases (hpre 0 rfl).symm.trans hd2
 cases (hpre 3 rfl).symm.trans hd2
 obtain ⟨r0, rfl⟩ := Has.ex (cC (hReg1263.get 5 rfl (hpre 5 rfl)) cN)
 exact asn z<|nl ⟨z, (.inr (.inr ⟨hd1, A865, c866, A869, c870, A1065, c1066, _, hG1261, hl867, hD868, hl871, hD872, hl1067, hD1068, ho1069, (Regs.step hReg1263 hDi z z z z), hI1262⟩))⟩
 rintro D r wd1264 (⟨hd2, G1260, hG1261, hReg1263, hI1262⟩ | ⟨hd1, hd2, A865, c866, A869, c870, G1260, hG1261, hl867, hD868, hl871, hD872, hReg1263, hI1262⟩ | ⟨hd1, A865, c866, A869, c870, A1065, c1066, G1260, hG1261, hl867, hD868, hl871, hD872, hl1067, hD1068, ho1069, hReg1263, hI1262⟩) hDi hpre hpost
 cases (hpre 0 rfl).symm.trans hd2
 cases (hpre 3 rfl).symm.trans hd2
 obtain ⟨r0, rfl⟩ := Has.ex (cC (hReg1263.get 6 rfl (hpre 6 rfl)) cN)
 exact asn z<|nl ⟨z, (.inr (.inr ⟨hd1, A865, c866, A869, c870, A1065, c1066, _, hG1261, hl867, hD868, hl871, hD872, hl1067, hD1068, ho1069, (Regs.step hReg1263 hDi z z z z), hI1262⟩))⟩
 rintro D r wd1264 (⟨hd2, G1260, hG1261, hReg1263, hI1262⟩ | ⟨hd1, hd2, A865, c866, A869, c870, G1260, hG1261, hl867, hD868, hl871, hD872, hReg1263, hI1262⟩ | ⟨hd1, A865, c866, A869, c870, A1065, c1066, G1260, hG1261, hl867, hD868, hl871, hD872, hl1067, hD1068, ho1069, hReg1263, hI1262⟩) hDi hpre hpost
 cases (hpre 0 rfl).symm.trans hd2
 cases (hpre 3 rfl).symm.trans hd2
 obtain ⟨r0, rfl⟩ := Has.ex (cC (hReg1263.get 7 rfl (hpre 7 rfl)) cN)
 exact asn z<|nl ⟨z, (.inr (.inr ⟨hd1, A865, c866, A869, c870, A1065, c1066, _, hG1261, hl867, hD868, hl871, hD872, hl1067, hD1068, ho1069, (Regs.step hReg1263 hDi z z z z), hI1262⟩))⟩
 intro D r wd1264 hall hR
 rcases hR with ⟨hd2, G1260, hG1261, hReg1263, hI1262⟩ | ⟨hd1, hd2, A865, c866, A869, c870, G1260, hG1261, hl867, hD868, hl871, hD872, hReg1263, hI1262⟩ | ⟨hd1, A865, c866, A869, c870, A1065, c1066, G1260, hG1261, hl867, hD868, hl871, hD872, hl1067, hD1068, ho1069, hReg1263, hI1262⟩
 cases (hall 0 (Nat.le_of_ble_eq_true rfl)).symm.trans hd2
 cases (hall 3 (Nat.le_of_ble_eq_true rfl)).symm.trans hd2
 obtain ⟨r0, rfl⟩ := Has.ex (cC (hReg1263.ins.get 0 rfl) (cC (hReg1263.ins.get 2 rfl) (cC (hReg1263.ins.get 3 rfl) (cC (hReg1263.ins.get 4 rfl) (cC (hReg1263.ins.get 5 rfl) (cC (hReg1263.ins.get 6 rfl) (cC (hReg1263.ins.get 7 rfl) (cC (hReg1263.get 8 rfl (hall 8 (Nat.le_of_ble_eq_true rfl))) (cC (hReg1263.get 9 rfl (hall 9 (Nat.le_of_ble_eq_true rfl))) (cC (hReg1263.get 10 rfl (hall 10 (Nat.le_of_ble_eq_true rfl))) cN))))))))))
 refine hK854 _ _ _<|sQ fun K1265 hK1266=>bK H fun y1276 hy1461 H=>bK3 H fun y1476 y1483 y1484 hy1661 H=>?_
 refine wpc_drawL [0, 0, 3, 7, 15, 15, 15, 31, 191, 511] (fun D r w => (D 0 = false ∧ ∃ (G' : Gh), G1260 ≤ G' ∧ Regs [(1, pointer (some ⟨g6, 0, none⟩)), (4, slice A241 y240.length c242), (5, int .i64 y247), (6, int .i64 y248), (7, slice A653 y652.length c654), (8, int .i64 y659), (9, int .i64 y660), (10, slice A1065 y1064.length c1066), (11, int .i64 y1071), (12, int .i64 y1072)] [] [(1, 51, agg [int .i64 1, int .i64 1, slice none 0 0].toArray)] D r ∧ Hp G' (tk (slice A1065 y1064.length c1066) 5 50 :: tk (slice A653 y652.length c654) 5 50 :: tk (slice A241 y240.length c242) 5 50 :: tk (slice (some ⟨g22, 0, none⟩) ([(⟨1, 0, 0, 45, 20⟩ : api_Float)] : List api_Float).length 1) 5 57 :: tk (slice (some ⟨g14, 0, none⟩) ([(⟨1, 0, 0, 30, 20⟩ : api_Float)] : List api_Float).length 1) 5 57 :: bx g6 [int .i64 1, int .i64 1, slice none 0 0] 28 :: L) w) ∨ (D 0 = true ∧ D 2 = false ∧ ∃ (A1277 : Option Addr) (c1278 : Nat) (A1281 : Option Addr) (c1282 : Nat) (G' : Gh), G1260 ≤ G' ∧ y1276.Glyphs.length ≤ c1278 ∧ Dat k_api_Glyph G' A1277 y1276.Glyphs ∧ y1276.Kerns.length ≤ c1282 ∧ Dat k_api_Kern G' A1281 y1276.Kerns ∧ Regs [(1, pointer (some ⟨g6, 0, none⟩)), (4, slice A241 y240.length c242), (5, int .i64 y247), (6, int .i64 y248), (7, slice A653 y652.length c654), (8, int .i64 y659), (9, int .i64 y660), (10, slice A1065 y1064.length c1066), (11, int .i64 y1071), (12, int .i64 y1072)] [] [(1, 51, agg [int .i64 1, int .i64 1, slice none 0 0].toArray), (0, 50, agg [slice A1277 y1276.Glyphs.length c1278, slice A1281 y1276.Kerns.length c1282].toArray)] D r ∧ Hp G' (tk (slice A1065 y1064.length c1066) 5 50 :: tk (slice A653 y652.length c654) 5 50 :: tk (slice A241 y240.length c242) 5 50 :: tk (slice (some ⟨g22, 0, none⟩) ([(⟨1, 0, 0, 45, 20⟩ : api_Float)] : List api_Float).length 1) 5 57 :: tk (slice (some ⟨g14, 0, none⟩) ([(⟨1, 0, 0, 30, 20⟩ : api_Float)] : List api_Float).length 1) 5 57 :: bx g6 [int .i64 1, int .i64 1, slice none 0 0] 28 :: L) w) ∨ (D 2 = true ∧ ∃ (A1277 : Option Addr) (c1278 : Nat) (A1281 : Option Addr) (c1282 : Nat) (A1477 : Option Addr) (c1478 : Nat) (G' : Gh), G1260 ≤ G' ∧ y1276.Glyphs.length ≤ c1278 ∧ Dat k_api_Glyph G' A1277 y1276.Glyphs ∧ y1276.Kerns.length ≤ c1282 ∧ Dat k_api_Kern G' A1281 y1276.Kerns ∧ y1476.length ≤ c1478 ∧ Dat k_api_Seen G' A1477 y1476 ∧ Own A1477 c1478 ∧ Regs [(1, pointer (some ⟨g6, 0, none⟩)), (4, slice A241 y240.length c242), (5, int .i64 y247), (6, int .i64 y248), (7, slice A653 y652.length c654), (8, int .i64 y659), (9, int .i64 y660), (10, slice A1065 y1064.length c1066), (11, int .i64 y1071), (12, int .i64 y1072)] [] [(1, 51, agg [int .i64 1, int .i64 1, slice none 0 0].toArray), (0, 50, agg [slice A1277 y1276.Glyphs.length c1278, slice A1281 y1276.Kerns.length c1282].toArray), (2, 52, tuple [slice A1477 y1476.length c1478, int .i64 y1483, int .i64 y1484].toArray), (3, 49, tuple [slice A1477 y1476.length c1478, int .i64 y1483, int .i64 y1484].toArray), (4, 53, slice A1477 y1476.length c1478), (5, 54, int .i64 y1483), (6, 55, int .i64 y1484), (7, 13, slice A1477 y1476.length c1478), (8, 14, int .i64 y1483), (9, 15, int .i64 y1484)] D r ∧ Hp G' (tk (slice A1477 y1476.length c1478) 5 50 :: tk (slice A1065 y1064.length c1066) 5 50 :: tk (slice A653 y652.length c654) 5 50 :: tk (slice A241 y240.length c242) 5 50 :: tk (slice (some ⟨g22, 0, none⟩) ([(⟨1, 0, 0, 45, 20⟩ : api_Float)] : List api_Float).length 1) 5 57 :: tk (slice (some ⟨g14, 0, none⟩) ([(⟨1, 0, 0, 30, 20⟩ : api_Float)] : List api_Float).length 1) 5 57 :: bx g6 [int .i64 1, int .i64 1, slice none 0 0] 28 :: L) w)) mixo z z ?_ ?_ ?_
 exact (.inl ⟨z, _, Gh.le_refl _, Regs.start ⟨z, z, z, z, z, z, z, z, z, z, tv⟩ trivial, hI1262.drew⟩)
 refine ⟨?_, ?_, ?_, ?_, ?_, ?_, ?_, ?_, ?_, ?_, tv⟩
 rintro D r wd1676 (⟨hd2, G1672, hG1673, hReg1675, hI1674⟩ | ⟨hd1, hd2, A1277, c1278, A1281, c1282, G1672, hG1673, hl1279, hD1280, hl1283, hD1284, hReg1675, hI1674⟩ | ⟨hd1, A1277, c1278, A1281, c1282, A1477, c1478, G1672, hG1673, hl1279, hD1280, hl1283, hD1284, hl1479, hD1480, ho1481, hReg1675, hI1674⟩) hDi hpre hpost
 obtain ⟨r0, rfl⟩ := Has.ex (r := r) cN
 refine q_cv (vs := []) bo25 z z (formelaw21_ten_spec hy1461 hI1674)<|?_
 rintro _ wd1274 ⟨A1277, c1278, A1281, c1282, G1272, hG1273, hI1275, hl1279, hD1280, hl1283, hD1284, rfl⟩
 refine ⟨_, rfl, ?_⟩
 exact nl ⟨z, (.inr (.inl ⟨z, (hpost 2 z), A1277, c1278, A1281, c1282, _, (gT hG1673 hG1273), hl1279, hD1280, hl1283, hD1284, (Regs.step (Regs.more (new := [(0, 50, agg [slice A1277 y1276.Glyphs.length c1278, slice A1281 y1276.Kerns.length c1282].toArray)]) hReg1675 (List.forall_mem_cons.2 ⟨hDi, (fun _ h => nomatch h)⟩)) hDi z z z z), hI1275⟩))⟩
 cases hDi.symm.trans hd1
 cases (hpost 2 rfl).symm.trans hd1
 rintro D r wd1676 (⟨hd2, G1672, hG1673, hReg1675, hI1674⟩ | ⟨hd1, hd2, A1277, c1278, A1281, c1282, G1672, hG1673, hl1279, hD1280, hl1283, hD1284, hReg1675, hI1674⟩ | ⟨hd1, A1277, c1278, A1281, c1282, A1477, c1478, G1672, hG1673, hl1279, hD1280, hl1283, hD1284, hl1479, hD1480, ho1481, hReg1675, hI1674⟩) hDi hpre hpost
 obtain ⟨r0, rfl⟩ := Has.ex (cC (hReg1675.ins.get 0 rfl) cN)
 exact lda hI1674 5 ag28 z z z z<|nl ⟨z, (.inl ⟨hd2, _, hG1673, (Regs.step hReg1675 hDi z z z z), hI1674⟩)⟩
 obtain ⟨r0, rfl⟩ := Has.ex (cC (hReg1675.ins.get 0 rfl) cN)
 exact lda hI1674 5 ag28 z z z z<|nl ⟨z, (.inr (.inl ⟨hd1, hd2, A1277, c1278, A1281, c1282, _, hG1673, hl1279, hD1280, hl1283, hD1284, (Regs.step hReg1675 hDi z z z z), hI1674⟩))⟩
 cases (hpost 2 rfl).symm.trans hd1
 rintro D r wd1676 (⟨hd2, G1672, hG1673, hReg1675, hI1674⟩ | ⟨hd1, hd2, A1277, c1278, A1281, c1282, G1672, hG1673, hl1279, hD1280, hl1283, hD1284, hReg1675, hI1674⟩ | ⟨hd1, A1277, c1278, A1281, c1282, A1477, c1478, G1672, hG1673, hl1279, hD1280, hl1283, hD1284, hl1479, hD1480, ho1481, hReg1675, hI1674⟩) hDi hpre hpost
 cases (hpre 0 rfl).symm.trans hd2
 obtain ⟨r0, rfl⟩ := Has.ex (cC (hReg1675.get 1 rfl (hpre 0 rfl)) (cC (hReg1675.get 0 rfl (hpre 1 rfl)) cN))
 refine q_cv (vs := [agg [slice A1277 y1276.Glyphs.length c1278, slice A1281 y1276.Kerns.length c1282].toArray, agg [int .i64 1, int .i64 1, slice none 0 0].toArray, string (⟨#[120]⟩ : ByteArray), int .i64 100, int .i64 12, int .i64 0, int .i64 0, int .i64 50, int .i64 0, slice none 0 0]) bo24 z z (wrap_Lines_spec (a10 := (⟨1, 1, ([] : List ByteArray)⟩ : api_Breaks)) (a22 := ([] : List api_Float)) hy1661 hI1674 hl1279 hD1280 hl1283 hD1284 (show ([] : List ByteArray).length ≤ 0 from Nat.le_refl 0) (Dat.nil _ _ _) (show ([] : List api_Float).length ≤ 0 from Nat.le_refl 0) (Dat.nil _ _ _) (hgl.mono (gT (gT (gT (gT (gT hG18 hG26) hG437) hG849) hG1261) hG1673)))<|?_
 rintro _ wd1474 ⟨A1477, c1478, G1472, hG1473, hI1475, hl1479, hD1480, ho1481, rfl⟩
 refine ⟨_, rfl, ?_⟩
 exact nl ⟨z, (.inr (.inr ⟨z, A1277, c1278, A1281, c1282, A1477, c1478, _, (gT hG1673 hG1473), hl1279, (Dat.mono hG1473 hD1280), hl1283, (Dat.mono hG1473 hD1284), hl1479, hD1480, ho1481, (Regs.step (Regs.more (new := [(2, 52, tuple [slice A1477 y1476.length c1478, int .i64 y1483, int .i64 y1484].toArray), (3, 49, tuple [slice A1477 y1476.length c1478, int .i64 y1483, int .i64 y1484].toArray), (4, 53, slice A1477 y1476.length c1478), (5, 54, int .i64 y1483), (6, 55, int .i64 y1484), (7, 13, slice A1477 y1476.length c1478), (8, 14, int .i64 y1483), (9, 15, int .i64 y1484)]) hReg1675 (List.forall_mem_cons.2 ⟨hDi, (List.forall_mem_cons.2 ⟨hpost 3 z, (List.forall_mem_cons.2 ⟨hpost 4 z, (List.forall_mem_cons.2 ⟨hpost 5 z, (List.forall_mem_cons.2 ⟨hpost 6 z, (List.forall_mem_cons.2 ⟨hpost 7 z, (List.forall_mem_cons.2 ⟨hpost 8 z, (List.forall_mem_cons.2 ⟨hpost 9 z, (fun _ h => nomatch h)⟩)⟩)⟩)⟩)⟩)⟩)⟩)⟩)) hDi z z z z), hI1475⟩))⟩
 cases hDi.symm.trans hd1
 rintro D r wd1676 (⟨hd2, G1672, hG1673, hReg1675, hI1674⟩ | ⟨hd1, hd2, A1277, c1278, A1281, c1282, G1672, hG1673, hl1279, hD1280, hl1283, hD1284, hReg1675, hI1674⟩ | ⟨hd1, A1277, c1278, A1281, c1282, A1477, c1478, G1672, hG1673, hl1279, hD1280, hl1283, hD1284, hl1479, hD1480, ho1481, hReg1675, hI1674⟩) hDi hpre hpost
 cases (hpre 0 rfl).symm.trans hd2
 cases (hpre 2 rfl).symm.trans hd2
 obtain ⟨r0, rfl⟩ := Has.ex (cC (hReg1675.get 2 rfl (hpre 2 rfl)) cN)
 exact mv z<|nl ⟨z, (.inr (.inr ⟨hd1, A1277, c1278, A1281, c1282, A1477, c1478, _, hG1673, hl1279, hD1280, hl1283, hD1284, hl1479, hD1480, ho1481, (Regs.step hReg1675 hDi z z z z), hI1674⟩))⟩
 rintro D r wd1676 (⟨hd2, G1672, hG1673, hReg1675, hI1674⟩ | ⟨hd1, hd2, A1277, c1278, A1281, c1282, G1672, hG1673, hl1279, hD1280, hl1283, hD1284, hReg1675, hI1674⟩ | ⟨hd1, A1277, c1278, A1281, c1282, A1477, c1478, G1672, hG1673, hl1279, hD1280, hl1283, hD1284, hl1479, hD1480, ho1481, hReg1675, hI1674⟩) hDi hpre hpost
 cases (hpre 0 rfl).symm.trans hd2
 cases (hpre 2 rfl).symm.trans hd2
 obtain ⟨r0, rfl⟩ := Has.ex (cC (hReg1675.get 3 rfl (hpre 3 rfl)) cN)
 exact exk z z<|nl ⟨z, (.inr (.inr ⟨hd1, A1277, c1278, A1281, c1282, A1477, c1478, _, hG1673, hl1279, hD1280, hl1283, hD1284, hl1479, hD1480, ho1481, (Regs.step hReg1675 hDi z z z z), hI1674⟩))⟩
 rintro D r wd1676 (⟨hd2, G1672, hG1673, hReg1675, hI1674⟩ | ⟨hd1, hd2, A1277, c1278, A1281, c1282, G1672, hG1673, hl1279, hD1280, hl1283, hD1284, hReg1675, hI1674⟩ | ⟨hd1, A1277, c1278, A1281, c1282, A1477, c1478, G1672, hG1673, hl1279, hD1280, hl1283, hD1284, hl1479, hD1480, ho1481, hReg1675, hI1674⟩) hDi hpre hpost
 cases (hpre 0 rfl).symm.trans hd2
 cases (hpre 2 rfl).symm.trans hd2
 obtain ⟨r0, rfl⟩ := Has.ex (cC (hReg1675.get 3 rfl (hpre 3 rfl)) cN)
 exact exk z z<|nl ⟨z, (.inr (.inr ⟨hd1, A1277, c1278, A1281, c1282, A1477, c1478, _, hG1673, hl1279, hD1280, hl1283, hD1284, hl1479, hD1480, ho1481, (Regs.step hReg1675 hDi z z z z), hI1674⟩))⟩
 rintro D r wd1676 (⟨hd2, G1672, hG1673, hReg1675, hI1674⟩ | ⟨hd1, hd2, A1277, c1278, A1281, c1282, G1672, hG1673, hl1279, hD1280, hl1283, hD1284, hReg1675, hI1674⟩ | ⟨hd1, A1277, c1278, A1281, c1282, A1477, c1478, G1672, hG1673, hl1279, hD1280, hl1283, hD1284, hl1479, hD1480, ho1481, hReg1675, hI1674⟩) hDi hpre hpost
 cases (hpre 0 rfl).symm.trans hd2
 cases (hpre 2 rfl).symm.trans hd2
 obtain ⟨r0, rfl⟩ := Has.ex (cC (hReg1675.get 3 rfl (hpre 3 rfl)) cN)
 exact exk z z<|nl ⟨z, (.inr (.inr ⟨hd1, A1277, c1278, A1281, c1282, A1477, c1478, _, hG1673, hl1279, hD1280, hl1283, hD1284, hl1479, hD1480, ho1481, (Regs.step hReg1675 hDi z z z z), hI1674⟩))⟩
 rintro D r wd1676 (⟨hd2, G1672, hG1673, hReg1675, hI1674⟩ | ⟨hd1, hd2, A1277, c1278, A1281, c1282, G1672, hG1673, hl1279, hD1280, hl1283, hD1284, hReg1675, hI1674⟩ | ⟨hd1, A1277, c1278, A1281, c1282, A1477, c1478, G1672, hG1673, hl1279, hD1280, hl1283, hD1284, hl1479, hD1480, ho1481, hReg1675, hI1674⟩) hDi hpre hpost
 cases (hpre 0 rfl).symm.trans hd2
 cases (hpre 2 rfl).symm.trans hd2
 obtain ⟨r0, rfl⟩ := Has.ex (cC (hReg1675.get 4 rfl (hpre 4 rfl)) cN)
 exact asn z<|nl ⟨z, (.inr (.inr ⟨hd1, A1277, c1278, A1281, c1282, A1477, c1478, _, hG1673, hl1279, hD1280, hl1283, hD1284, hl1479, hD1480, ho1481, (Regs.step hReg1675 hDi z z z z), hI1674⟩))⟩
 rintro D r wd1676 (⟨hd2, G1672, hG1673, hReg1675, hI1674⟩ | ⟨hd1, hd2, A1277, c1278, A1281, c1282, G1672, hG1673, hl1279, hD1280, hl1283, hD1284, hReg1675, hI1674⟩ | ⟨hd1, A1277, c1278, A1281, c1282, A1477, c1478, G1672, hG1673, hl1279, hD1280, hl1283, hD1284, hl1479, hD1480, ho1481, hReg1675, hI1674⟩) hDi hpre hpost
 cases (hpre 0 rfl).symm.trans hd2
 cases (hpre 2 rfl).symm.trans hd2
 obtain ⟨r0, rfl⟩ := Has.ex (cC (hReg1675.get 5 rfl (hpre 5 rfl)) cN)
 exact asn z<|nl ⟨z, (.inr (.inr ⟨hd1, A1277, c1278, A1281, c1282, A1477, c1478, _, hG1673, hl1279, hD1280, hl1283, hD1284, hl1479, hD1480, ho1481, (Regs.step hReg1675 hDi z z z z), hI1674⟩))⟩
 rintro D r wd1676 (⟨hd2, G1672, hG1673, hReg1675, hI1674⟩ | ⟨hd1, hd2, A1277, c1278, A1281, c1282, G1672, hG1673, hl1279, hD1280, hl1283, hD1284, hReg1675, hI1674⟩ | ⟨hd1, A1277, c1278, A1281, c1282, A1477, c1478, G1672, hG1673, hl1279, hD1280, hl1283, hD1284, hl1479, hD1480, ho1481, hReg1675, hI1674⟩) hDi hpre hpost
 cases (hpre 0 rfl).symm.trans hd2
 cases (hpre 2 rfl).symm.trans hd2
 obtain ⟨r0, rfl⟩ := Has.ex (cC (hReg1675.get 6 rfl (hpre 6 rfl)) cN)
 exact asn z<|nl ⟨z, (.inr (.inr ⟨hd1, A1277, c1278, A1281, c1282, A1477, c1478, _, hG1673, hl1279, hD1280, hl1283, hD1284, hl1479, hD1480, ho1481, (Regs.step hReg1675 hDi z z z z), hI1674⟩))⟩
 intro D r wd1676 hall hR
 rcases hR with ⟨hd2, G1672, hG1673, hReg1675, hI1674⟩ | ⟨hd1, hd2, A1277, c1278, A1281, c1282, G1672, hG1673, hl1279, hD1280, hl1283, hD1284, hReg1675, hI1674⟩ | ⟨hd1, A1277, c1278, A1281, c1282, A1477, c1478, G1672, hG1673, hl1279, hD1280, hl1283, hD1284, hl1479, hD1480, ho1481, hReg1675, hI1674⟩
 cases (hall 0 (Nat.le_of_ble_eq_true rfl)).symm.trans hd2
 cases (hall 2 (Nat.le_of_ble_eq_true rfl)).symm.trans hd2
 obtain ⟨r0, rfl⟩ := Has.ex (cC (hReg1675.ins.get 0 rfl) (cC (hReg1675.ins.get 1 rfl) (cC (hReg1675.ins.get 2 rfl) (cC (hReg1675.ins.get 3 rfl) (cC (hReg1675.ins.get 4 rfl) (cC (hReg1675.ins.get 5 rfl) (cC (hReg1675.ins.get 6 rfl) (cC (hReg1675.ins.get 7 rfl) (cC (hReg1675.ins.get 8 rfl) (cC (hReg1675.ins.get 9 rfl) (cC (hReg1675.get 9 rfl (hall 9 (Nat.le_of_ble_eq_true rfl))) cN)))))))))))
 refine hK1266 _ _ _<|sQ fun K1677 hK1678=>bK H fun y1688 hy1873 H=>bK3 H fun y1888 y1895 y1896 hy2073 H=>?_
 refine wpc_drawL [0, 0, 3, 7, 15, 15, 15, 31, 191, 511] (fun D r w => (D 0 = false ∧ ∃ (G' : Gh), G1672 ≤ G' ∧ Regs [(1, pointer (some ⟨g6, 0, none⟩)), (4, slice A241 y240.length c242), (5, int .i64 y247), (6, int .i64 y248), (7, slice A653 y652.length c654), (8, int .i64 y659), (9, int .i64 y660), (10, slice A1065 y1064.length c1066), (11, int .i64 y1071), (12, int .i64 y1072), (15, int .i64 y1484)] [] [(1, 58, agg [int .i64 1, int .i64 1, slice none 0 0].toArray)] D r ∧ Hp G' (tk (slice A1477 y1476.length c1478) 5 50 :: tk (slice A1065 y1064.length c1066) 5 50 :: tk (slice A653 y652.length c654) 5 50 :: tk (slice A241 y240.length c242) 5 50 :: tk (slice (some ⟨g22, 0, none⟩) ([(⟨1, 0, 0, 45, 20⟩ : api_Float)] : List api_Float).length 1) 5 57 :: tk (slice (some ⟨g14, 0, none⟩) ([(⟨1, 0, 0, 30, 20⟩ : api_Float)] : List api_Float).length 1) 5 57 :: bx g6 [int .i64 1, int .i64 1, slice none 0 0] 28 :: L) w) ∨ (D 0 = true ∧ D 2 = false ∧ ∃ (A1689 : Option Addr) (c1690 : Nat) (A1693 : Option Addr) (c1694 : Nat) (G' : Gh), G1672 ≤ G' ∧ y1688.Glyphs.length ≤ c1690 ∧ Dat k_api_Glyph G' A1689 y1688.Glyphs ∧ y1688.Kerns.length ≤ c1694 ∧ Dat k_api_Kern G' A1693 y1688.Kerns ∧ Regs [(1, pointer (some ⟨g6, 0, none⟩)), (4, slice A241 y240.length c242), (5, int .i64 y247), (6, int .i64 y248), (7, slice A653 y652.length c654), (8, int .i64 y659), (9, int .i64 y660), (10, slice A1065 y1064.length c1066), (11, int .i64 y1071), (12, int .i64 y1072), (15, int .i64 y1484)] [] [(1, 58, agg [int .i64 1, int .i64 1, slice none 0 0].toArray), (0, 57, agg [slice A1689 y1688.Glyphs.length c1690, slice A1693 y1688.Kerns.length c1694].toArray)] D r ∧ Hp G' (tk (slice A1477 y1476.length c1478) 5 50 :: tk (slice A1065 y1064.length c1066) 5 50 :: tk (slice A653 y652.length c654) 5 50 :: tk (slice A241 y240.length c242) 5 50 :: tk (slice (some ⟨g22, 0, none⟩) ([(⟨1, 0, 0, 45, 20⟩ : api_Float)] : List api_Float).length 1) 5 57 :: tk (slice (some ⟨g14, 0, none⟩) ([(⟨1, 0, 0, 30, 20⟩ : api_Float)] : List api_Float).length 1) 5 57 :: bx g6 [int .i64 1, int .i64 1, slice none 0 0] 28 :: L) w) ∨ (D 2 = true ∧ ∃ (A1689 : Option Addr) (c1690 : Nat) (A1693 : Option Addr) (c1694 : Nat) (A1889 : Option Addr) (c1890 : Nat) (G' : Gh), G1672 ≤ G' ∧ y1688.Glyphs.length ≤ c1690 ∧ Dat k_api_Glyph G' A1689 y1688.Glyphs ∧ y1688.Kerns.length ≤ c1694 ∧ Dat k_api_Kern G' A1693 y1688.Kerns ∧ y1888.length ≤ c1890 ∧ Dat k_api_Seen G' A1889 y1888 ∧ Own A1889 c1890 ∧ Regs [(1, pointer (some ⟨g6, 0, none⟩)), (4, slice A241 y240.length c242), (5, int .i64 y247), (6, int .i64 y248), (7, slice A653 y652.length c654), (8, int .i64 y659), (9, int .i64 y660), (10, slice A1065 y1064.length c1066), (11, int .i64 y1071), (12, int .i64 y1072), (15, int .i64 y1484)] [] [(1, 58, agg [int .i64 1, int .i64 1, slice none 0 0].toArray), (0, 57, agg [slice A1689 y1688.Glyphs.length c1690, slice A1693 y1688.Kerns.length c1694].toArray), (2, 59, tuple [slice A1889 y1888.length c1890, int .i64 y1895, int .i64 y1896].toArray), (3, 56, tuple [slice A1889 y1888.length c1890, int .i64 y1895, int .i64 y1896].toArray), (4, 60, slice A1889 y1888.length c1890), (5, 61, int .i64 y1895), (6, 62, int .i64 y1896), (7, 16, slice A1889 y1888.length c1890), (8, 17, int .i64 y1895), (9, 18, int .i64 y1896)] D r ∧ Hp G' (tk (slice A1889 y1888.length c1890) 5 50 :: tk (slice A1477 y1476.length c1478) 5 50 :: tk (slice A1065 y1064.length c1066) 5 50 :: tk (slice A653 y652.length c654) 5 50 :: tk (slice A241 y240.length c242) 5 50 :: tk (slice (some ⟨g22, 0, none⟩) ([(⟨1, 0, 0, 45, 20⟩ : api_Float)] : List api_Float).length 1) 5 57 :: tk (slice (some ⟨g14, 0, none⟩) ([(⟨1, 0, 0, 30, 20⟩ : api_Float)] : List api_Float).length 1) 5 57 :: bx g6 [int .i64 1, int .i64 1, slice none 0 0] 28 :: L) w)) mixo z z ?_ ?_ ?_
 exact (.inl ⟨z, _, Gh.le_refl _, Regs.start ⟨z, z, z, z, z, z, z, z, z, z, z, tv⟩ trivial, hI1674.drew⟩)
 refine ⟨?_, ?_, ?_, ?_, ?_, ?_, ?_, ?_, ?_, ?_, tv⟩
 rintro D r wd2088 (⟨hd2, G2084, hG2085, hReg2087, hI2086⟩ | ⟨hd1, hd2, A1689, c1690, A1693, c1694, G2084, hG2085, hl1691, hD1692, hl1695, hD1696, hReg2087, hI2086⟩ | ⟨hd1, A1689, c1690, A1693, c1694, A1889, c1890, G2084, hG2085, hl1691, hD1692, hl1695, hD1696, hl1891, hD1892, ho1893, hReg2087, hI2086⟩) hDi hpre hpost
 obtain ⟨r0, rfl⟩ := Has.ex (r := r) cN
 refine q_cv (vs := []) bo25 z z (formelaw21_ten_spec hy1873 hI2086)<|?_
 rintro _ wd1686 ⟨A1689, c1690, A1693, c1694, G1684, hG1685, hI1687, hl1691, hD1692, hl1695, hD1696, rfl⟩
 refine ⟨_, rfl, ?_⟩
 exact nl ⟨z, (.inr (.inl ⟨z, (hpost 2 z), A1689, c1690, A1693, c1694, _, (gT hG2085 hG1685), hl1691, hD1692, hl1695, hD1696, (Regs.step (Regs.more (new := [(0, 57, agg [slice A1689 y1688.Glyphs.length c1690, slice A1693 y1688.Kerns.length c1694].toArray)]) hReg2087 (List.forall_mem_cons.2 ⟨hDi, (fun _ h => nomatch h)⟩)) hDi z z z z), hI1687⟩))⟩
 cases hDi.symm.trans hd1
 cases (hpost 2 rfl).symm.trans hd1
 rintro D r wd2088 (⟨hd2, G2084, hG2085, hReg2087, hI2086⟩ | ⟨hd1, hd2, A1689, c1690, A1693, c1694, G2084, hG2085, hl1691, hD1692, hl1695, hD1696, hReg2087, hI2086⟩ | ⟨hd1, A1689, c1690, A1693, c1694, A1889, c1890, G2084, hG2085, hl1691, hD1692, hl1695, hD1696, hl1891, hD1892, ho1893, hReg2087, hI2086⟩) hDi hpre hpost
 obtain ⟨r0, rfl⟩ := Has.ex (cC (hReg2087.ins.get 0 rfl) cN)
 exact lda hI2086 6 ag28 z z z z<|nl ⟨z, (.inl ⟨hd2, _, hG2085, (Regs.step hReg2087 hDi z z z z), hI2086⟩)⟩
 obtain ⟨r0, rfl⟩ := Has.ex (cC (hReg2087.ins.get 0 rfl) cN)
 exact lda hI2086 6 ag28 z z z z<|nl ⟨z, (.inr (.inl ⟨hd1, hd2, A1689, c1690, A1693, c1694, _, hG2085, hl1691, hD1692, hl1695, hD1696, (Regs.step hReg2087 hDi z z z z), hI2086⟩))⟩
 cases (hpost 2 rfl).symm.trans hd1
 rintro D r wd2088 (⟨hd2, G2084, hG2085, hReg2087, hI2086⟩ | ⟨hd1, hd2, A1689, c1690, A1693, c1694, G2084, hG2085, hl1691, hD1692, hl1695, hD1696, hReg2087, hI2086⟩ | ⟨hd1, A1689, c1690, A1693, c1694, A1889, c1890, G2084, hG2085, hl1691, hD1692, hl1695, hD1696, hl1891, hD1892, ho1893, hReg2087, hI2086⟩) hDi hpre hpost
 cases (hpre 0 rfl).symm.trans hd2
 obtain ⟨r0, rfl⟩ := Has.ex (cC (hReg2087.get 1 rfl (hpre 0 rfl)) (cC (hReg2087.get 0 rfl (hpre 1 rfl)) cN))
 refine q_cv (vs := [agg [slice A1689 y1688.Glyphs.length c1690, slice A1693 y1688.Kerns.length c1694].toArray, agg [int .i64 1, int .i64 1, slice none 0 0].toArray, string (⟨#[97]⟩ : ByteArray), int .i64 100, int .i64 12, int .i64 3, int .i64 0, int .i64 50, int .i64 0, slice none 0 0]) bo24 z z (wrap_Lines_spec (a10 := (⟨1, 1, ([] : List ByteArray)⟩ : api_Breaks)) (a22 := ([] : List api_Float)) hy2073 hI2086 hl1691 hD1692 hl1695 hD1696 (show ([] : List ByteArray).length ≤ 0 from Nat.le_refl 0) (Dat.nil _ _ _) (show ([] : List api_Float).length ≤ 0 from Nat.le_refl 0) (Dat.nil _ _ _) (hgl.mono (gT (gT (gT (gT (gT (gT hG18 hG26) hG437) hG849) hG1261) hG1673) hG2085)))<|?_
 rintro _ wd1886 ⟨A1889, c1890, G1884, hG1885, hI1887, hl1891, hD1892, ho1893, rfl⟩
 refine ⟨_, rfl, ?_⟩
 exact nl ⟨z, (.inr (.inr ⟨z, A1689, c1690, A1693, c1694, A1889, c1890, _, (gT hG2085 hG1885), hl1691, (Dat.mono hG1885 hD1692), hl1695, (Dat.mono hG1885 hD1696), hl1891, hD1892, ho1893, (Regs.step (Regs.more (new := [(2, 59, tuple [slice A1889 y1888.length c1890, int .i64 y1895, int .i64 y1896].toArray), (3, 56, tuple [slice A1889 y1888.length c1890, int .i64 y1895, int .i64 y1896].toArray), (4, 60, slice A1889 y1888.length c1890), (5, 61, int .i64 y1895), (6, 62, int .i64 y1896), (7, 16, slice A1889 y1888.length c1890), (8, 17, int .i64 y1895), (9, 18, int .i64 y1896)]) hReg2087 (List.forall_mem_cons.2 ⟨hDi, (List.forall_mem_cons.2 ⟨hpost 3 z, (List.forall_mem_cons.2 ⟨hpost 4 z, (List.forall_mem_cons.2 ⟨hpost 5 z, (List.forall_mem_cons.2 ⟨hpost 6 z, (List.forall_mem_cons.2 ⟨hpost 7 z, (List.forall_mem_cons.2 ⟨hpost 8 z, (List.forall_mem_cons.2 ⟨hpost 9 z, (fun _ h => nomatch h)⟩)⟩)⟩)⟩)⟩)⟩)⟩)⟩)) hDi z z z z), hI1887⟩))⟩
 cases hDi.symm.trans hd1
 rintro D r wd2088 (⟨hd2, G2084, hG2085, hReg2087, hI2086⟩ | ⟨hd1, hd2, A1689, c1690, A1693, c1694, G2084, hG2085, hl1691, hD1692, hl1695, hD1696, hReg2087, hI2086⟩ | ⟨hd1, A1689, c1690, A1693, c1694, A1889, c1890, G2084, hG2085, hl1691, hD1692, hl1695, hD1696, hl1891, hD1892, ho1893, hReg2087, hI2086⟩) hDi hpre hpost
 cases (hpre 0 rfl).symm.trans hd2
 cases (hpre 2 rfl).symm.trans hd2
 obtain ⟨r0, rfl⟩ := Has.ex (cC (hReg2087.get 2 rfl (hpre 2 rfl)) cN)
 exact mv z<|nl ⟨z, (.inr (.inr ⟨hd1, A1689, c1690, A1693, c1694, A1889, c1890, _, hG2085, hl1691, hD1692, hl1695, hD1696, hl1891, hD1892, ho1893, (Regs.step hReg2087 hDi z z z z), hI2086⟩))⟩
 rintro D r wd2088 (⟨hd2, G2084, hG2085, hReg2087, hI2086⟩ | ⟨hd1, hd2, A1689, c1690, A1693, c1694, G2084, hG2085, hl1691, hD1692, hl1695, hD1696, hReg2087, hI2086⟩ | ⟨hd1, A1689, c1690, A1693, c1694, A1889, c1890, G2084, hG2085, hl1691, hD1692, hl1695, hD1696, hl1891, hD1892, ho1893, hReg2087, hI2086⟩) hDi hpre hpost
 cases (hpre 0 rfl).symm.trans hd2
 cases (hpre 2 rfl).symm.trans hd2
 obtain ⟨r0, rfl⟩ := Has.ex (cC (hReg2087.get 3 rfl (hpre 3 rfl)) cN)
 exact exk z z<|nl ⟨z, (.inr (.inr ⟨hd1, A1689, c1690, A1693, c1694, A1889, c1890, _, hG2085, hl1691, hD1692, hl1695, hD1696, hl1891, hD1892, ho1893, (Regs.step hReg2087 hDi z z z z), hI2086⟩))⟩
 rintro D r wd2088 (⟨hd2, G2084, hG2085, hReg2087, hI2086⟩ | ⟨hd1, hd2, A1689, c1690, A1693, c1694, G2084, hG2085, hl1691, hD1692, hl1695, hD1696, hReg2087, hI2086⟩ | ⟨hd1, A1689, c1690, A1693, c1694, A1889, c1890, G2084, hG2085, hl1691, hD1692, hl1695, hD1696, hl1891, hD1892, ho1893, hReg2087, hI2086⟩) hDi hpre hpost
 cases (hpre 0 rfl).symm.trans hd2
 cases (hpre 2 rfl).symm.trans hd2
 obtain ⟨r0, rfl⟩ := Has.ex (cC (hReg2087.get 3 rfl (hpre 3 rfl)) cN)
 exact exk z z<|nl ⟨z, (.inr (.inr ⟨hd1, A1689, c1690, A1693, c1694, A1889, c1890, _, hG2085, hl1691, hD1692, hl1695, hD1696, hl1891, hD1892, ho1893, (Regs.step hReg2087 hDi z z z z), hI2086⟩))⟩
 rintro D r wd2088 (⟨hd2, G2084, hG2085, hReg2087, hI2086⟩ | ⟨hd1, hd2, A1689, c1690, A1693, c1694, G2084, hG2085, hl1691, hD1692, hl1695, hD1696, hReg2087, hI2086⟩ | ⟨hd1, A1689, c1690, A1693, c1694, A1889, c1890, G2084, hG2085, hl1691, hD1692, hl1695, hD1696, hl1891, hD1892, ho1893, hReg2087, hI2086⟩) hDi hpre hpost
 cases (hpre 0 rfl).symm.trans hd2
 cases (hpre 2 rfl).symm.trans hd2
 obtain ⟨r0, rfl⟩ := Has.ex (cC (hReg2087.get 3 rfl (hpre 3 rfl)) cN)
 exact exk z z<|nl ⟨z, (.inr (.inr ⟨hd1, A1689, c1690, A1693, c1694, A1889, c1890, _, hG2085, hl1691, hD1692, hl1695, hD1696, hl1891, hD1892, ho1893, (Regs.step hReg2087 hDi z z z z), hI2086⟩))⟩
 rintro D r wd2088 (⟨hd2, G2084, hG2085, hReg2087, hI2086⟩ | ⟨hd1, hd2, A1689, c1690, A1693, c1694, G2084, hG2085, hl1691, hD1692, hl1695, hD1696, hReg2087, hI2086⟩ | ⟨hd1, A1689, c1690, A1693, c1694, A1889, c1890, G2084, hG2085, hl1691, hD1692, hl1695, hD1696, hl1891, hD1892, ho1893, hReg2087, hI2086⟩) hDi hpre hpost
 cases (hpre 0 rfl).symm.trans hd2
 cases (hpre 2 rfl).symm.trans hd2
 obtain ⟨r0, rfl⟩ := Has.ex (cC (hReg2087.get 4 rfl (hpre 4 rfl)) cN)
 exact asn z<|nl ⟨z, (.inr (.inr ⟨hd1, A1689, c1690, A1693, c1694, A1889, c1890, _, hG2085, hl1691, hD1692, hl1695, hD1696, hl1891, hD1892, ho1893, (Regs.step hReg2087 hDi z z z z), hI2086⟩))⟩
 rintro D r wd2088 (⟨hd2, G2084, hG2085, hReg2087, hI2086⟩ | ⟨hd1, hd2, A1689, c1690, A1693, c1694, G2084, hG2085, hl1691, hD1692, hl1695, hD1696, hReg2087, hI2086⟩ | ⟨hd1, A1689, c1690, A1693, c1694, A1889, c1890, G2084, hG2085, hl1691, hD1692, hl1695, hD1696, hl1891, hD1892, ho1893, hReg2087, hI2086⟩) hDi hpre hpost
 cases (hpre 0 rfl).symm.trans hd2
 cases (hpre 2 rfl).symm.trans hd2
 obtain ⟨r0, rfl⟩ := Has.ex (cC (hReg2087.get 5 rfl (hpre 5 rfl)) cN)
 exact asn z<|nl ⟨z, (.inr (.inr ⟨hd1, A1689, c1690, A1693, c1694, A1889, c1890, _, hG2085, hl1691, hD1692, hl1695, hD1696, hl1891, hD1892, ho1893, (Regs.step hReg2087 hDi z z z z), hI2086⟩))⟩
 rintro D r wd2088 (⟨hd2, G2084, hG2085, hReg2087, hI2086⟩ | ⟨hd1, hd2, A1689, c1690, A1693, c1694, G2084, hG2085, hl1691, hD1692, hl1695, hD1696, hReg2087, hI2086⟩ | ⟨hd1, A1689, c1690, A1693, c1694, A1889, c1890, G2084, hG2085, hl1691, hD1692, hl1695, hD1696, hl1891, hD1892, ho1893, hReg2087, hI2086⟩) hDi hpre hpost
 cases (hpre 0 rfl).symm.trans hd2
 cases (hpre 2 rfl).symm.trans hd2
 obtain ⟨r0, rfl⟩ := Has.ex (cC (hReg2087.get 6 rfl (hpre 6 rfl)) cN)
 exact asn z<|nl ⟨z, (.inr (.inr ⟨hd1, A1689, c1690, A1693, c1694, A1889, c1890, _, hG2085, hl1691, hD1692, hl1695, hD1696, hl1891, hD1892, ho1893, (Regs.step hReg2087 hDi z z z z), hI2086⟩))⟩
 intro D r wd2088 hall hR
 rcases hR with ⟨hd2, G2084, hG2085, hReg2087, hI2086⟩ | ⟨hd1, hd2, A1689, c1690, A1693, c1694, G2084, hG2085, hl1691, hD1692, hl1695, hD1696, hReg2087, hI2086⟩ | ⟨hd1, A1689, c1690, A1693, c1694, A1889, c1890, G2084, hG2085, hl1691, hD1692, hl1695, hD1696, hl1891, hD1892, ho1893, hReg2087, hI2086⟩
 cases (hall 0 (Nat.le_of_ble_eq_true rfl)).symm.trans hd2
 cases (hall 2 (Nat.le_of_ble_eq_true rfl)).symm.trans hd2
 obtain ⟨r0, rfl⟩ := Has.ex (cC (hReg2087.ins.get 1 rfl) (cC (hReg2087.ins.get 2 rfl) (cC (hReg2087.ins.get 3 rfl) (cC (hReg2087.ins.get 4 rfl) (cC (hReg2087.ins.get 5 rfl) (cC (hReg2087.ins.get 6 rfl) (cC (hReg2087.ins.get 7 rfl) (cC (hReg2087.ins.get 8 rfl) (cC (hReg2087.ins.get 9 rfl) (cC (hReg2087.ins.get 10 rfl) (cC (hReg2087.get 9 rfl (hall 9 (Nat.le_of_ble_eq_true rfl))) cN)))))))))))
 refine hK1678 _ _ _<|sr fun K2089 hK2090=>mv z<|q_eql z z<|mv z<|bK H fun v2091 hC H=>?_
 refine jS 3 G2084 [(4, slice A241 y240.length c242), (5, int .i64 y247), (7, slice A653 y652.length c654), (8, int .i64 y659), (10, slice A1065 y1064.length c1066), (11, int .i64 y1071), (12, int .i64 y1072), (15, int .i64 y1484), (18, int .i64 y1896), (68, bool v2091)] (bx g6 [int .i64 1, int .i64 1, slice none 0 0] 28 :: tk (slice A1889 y1888.length c1890) 5 50 :: tk (slice A1477 y1476.length c1478) 5 50 :: tk (slice A1065 y1064.length c1066) 5 50 :: tk (slice A653 y652.length c654) 5 50 :: tk (slice A241 y240.length c242) 5 50 :: tk (slice (some ⟨g22, 0, none⟩) ([(⟨1, 0, 0, 45, 20⟩ : api_Float)] : List api_Float).length 1) 5 57 :: tk (slice (some ⟨g14, 0, none⟩) ([(⟨1, 0, 0, 30, 20⟩ : api_Float)] : List api_Float).length 1) 5 57 :: L) ?_ fun _ wd2094 hI2095=>?_
 refine have H:=hC;dC (y248 = 0) (fun h2097=>?_) fun h2097=>?_
 refine yK h2097 H fun H=>mv (hw:=gY z z z (bY h2097)) z<|q_eql (hw:=gY z z z (bY h2097)) z z<|pkt (bY h2097) z<|nl<|have hI2105:=Hp.pick 8 [7, 0, 1, 2, 3, 4, 5, 6] hI2086 z;?_
 cases H
 exact je ⟨z, z, z, z, z, z, z, z, z, z, tv⟩ hI2105
 refine nK h2097 H fun H=>Sk 2 z z (bN h2097) z<|pkf (bN h2097) z<|nl<|have hI2113:=Hp.pick 8 [7, 0, 1, 2, 3, 4, 5, 6] hI2086 z;?_
 cases H
 exact je ⟨z, z, z, z, z, z, z, z, z, z, tv⟩ hI2113
 refine mv z<|bK H fun v2114 hC H=>js 3 hI2095 [(4, slice A241 y240.length c242), (5, int .i64 y247), (7, slice A653 y652.length c654), (8, int .i64 y659), (10, slice A1065 y1064.length c1066), (11, int .i64 y1071), (15, int .i64 y1484), (18, int .i64 y1896), (72, bool v2114)] ?_ fun _ wd2117 hI2118=>?_
 refine have H:=hC;dC (v2091 = true) (fun h2120=>?_) fun h2120=>?_
 refine yK h2120 H fun H=>mv (hw:=gY z z z (vY h2120)) z<|q_eql (hw:=gY z z z (vY h2120)) z z<|pkt (vY h2120) z<|nl<|?_
 cases H
 exact je ⟨z, z, z, z, z, z, z, z, z, tv⟩ hI2095
 refine nK h2120 H fun H=>Sk 2 z z (vN h2120) z<|pkf (vN h2120) z<|nl<|?_
 cases H
 exact je ⟨z, z, z, z, z, z, z, z, z, tv⟩ hI2095
 refine mv z<|bK H fun v2121 hC H=>js 3 hI2118 [(4, slice A241 y240.length c242), (5, int .i64 y247), (7, slice A653 y652.length c654), (8, int .i64 y659), (10, slice A1065 y1064.length c1066), (11, int .i64 y1071), (18, int .i64 y1896), (76, bool v2121)] ?_ fun _ wd2124 hI2125=>?_
 refine have H:=hC;dC (v2114 = true) (fun h2127=>?_) fun h2127=>?_
 refine yK h2127 H fun H=>mv (hw:=gY z z z (vY h2127)) z<|q_eql (hw:=gY z z z (vY h2127)) z z<|pkt (vY h2127) z<|nl<|?_
 cases H
 exact je ⟨z, z, z, z, z, z, z, z, tv⟩ hI2118
 refine nK h2127 H fun H=>Sk 2 z z (vN h2127) z<|pkf (vN h2127) z<|nl<|?_
 cases H
 exact je ⟨z, z, z, z, z, z, z, z, tv⟩ hI2118
 refine mv z<|bK H fun v2128 hC H=>js 3 hI2125 [(4, slice A241 y240.length c242), (5, int .i64 y247), (7, slice A653 y652.length c654), (8, int .i64 y659), (10, slice A1065 y1064.length c1066), (11, int .i64 y1071), (80, bool v2128)] ?_ fun _ wd2131 hI2132=>?_
 refine have H:=hC;dC (v2121 = true) (fun h2134=>?_) fun h2134=>?_
 refine yK h2134 H fun H=>mv (hw:=gY z z z (vY h2134)) z<|q_eql (hw:=gY z z z (vY h2134)) z z<|pkt (vY h2134) z<|nl<|?_
 cases H
 exact je ⟨z, z, z, z, z, z, z, tv⟩ hI2125
 refine nK h2134 H fun H=>Sk 2 z z (vN h2134) z<|pkf (vN h2134) z<|nl<|?_
 cases H
 exact je ⟨z, z, z, z, z, z, z, tv⟩ hI2125
 refine asn z<|nl<|hK2090 _ _ _<|sr fun K2135 hK2136=>mv z<|mv z<|bK H fun v2137 hC H=>js 7 hI2132 [(5, int .i64 y247), (7, slice A653 y652.length c654), (8, int .i64 y659), (10, slice A1065 y1064.length c1066), (11, int .i64 y1071), (89, bool v2137)] ?_ fun _ wd2140 hI2141=>?_
 refine have H:=hC;dC (v2128 = true) (fun h2143=>?_) fun h2143=>?_
 refine yK h2143 H fun H=>mv (hw:=gY z z z (vY h2143)) z<|q_build (hw:=gY z z z (vY h2143)) (vs := [(0, string (⟨#[97, 98]⟩ : ByteArray)), (1, int .i64 30), (3, int .i64 20), (4, int .i64 12)]) (cs := [string (⟨#[97, 98]⟩ : ByteArray), int .i64 30, int .i64 0, int .i64 20, int .i64 12]) ze50 pl50 z z<|q_build (hw:=gY z z z (vY h2143)) (vs := [(0, string (⟨#[99, 100]⟩ : ByteArray)), (1, int .i64 30), (2, int .i64 12), (3, int .i64 20), (4, int .i64 12)]) (cs := [string (⟨#[99, 100]⟩ : ByteArray), int .i64 30, int .i64 12, int .i64 20, int .i64 12]) ze50 pl50 z z<|q_build (hw:=gY z z z (vY h2143)) (vs := [(0, string (⟨#[101, 102]⟩ : ByteArray)), (2, int .i64 24), (3, int .i64 20), (4, int .i64 12)]) (cs := [string (⟨#[101, 102]⟩ : ByteArray), int .i64 0, int .i64 24, int .i64 20, int .i64 12]) ze50 pl50 z z<|?_
 refine q_bs hI2132 (vs := [(0, agg [string (⟨#[97, 98]⟩ : ByteArray), int .i64 30, int .i64 0, int .i64 20, int .i64 12].toArray), (1, agg [string (⟨#[99, 100]⟩ : ByteArray), int .i64 30, int .i64 12, int .i64 20, int .i64 12].toArray), (2, agg [string (⟨#[101, 102]⟩ : ByteArray), int .i64 0, int .i64 24, int .i64 20, int .i64 12].toArray)]) (cs := [string (⟨#[97, 98]⟩ : ByteArray), int .i64 30, int .i64 0, int .i64 20, int .i64 12, string (⟨#[99, 100]⟩ : ByteArray), int .i64 30, int .i64 12, int .i64 20, int .i64 12, string (⟨#[101, 102]⟩ : ByteArray), int .i64 0, int .i64 24, int .i64 20, int .i64 12]) el34 ze50 rfl (by decide) rfl rfl (fun g2145 wd2146 hI2147 => ?_) (hw := gY rfl rfl rfl (bval_yes h2143))
 obtain ⟨G2148, hG2149, hI2151, hD2150⟩ := Hp.publish (xs := ([(⟨(⟨#[97, 98]⟩ : ByteArray), 30, 0, 20, 12⟩ : api_Seen), (⟨(⟨#[99, 100]⟩ : ByteArray), 30, 12, 20, 12⟩ : api_Seen), (⟨(⟨#[101, 102]⟩ : ByteArray), 0, 24, 20, 12⟩ : api_Seen)] : List api_Seen)) (n := 3) k_api_Seen hI2147 ⟨[string (⟨#[97, 98]⟩ : ByteArray), int .i64 30, int .i64 0, int .i64 20, int .i64 12], _, rfl, (mk_api_Seen (x := (⟨(⟨#[97, 98]⟩ : ByteArray), 30, 0, 20, 12⟩ : api_Seen))), ⟨[string (⟨#[99, 100]⟩ : ByteArray), int .i64 30, int .i64 12, int .i64 20, int .i64 12], _, rfl, (mk_api_Seen (x := (⟨(⟨#[99, 100]⟩ : ByteArray), 30, 12, 20, 12⟩ : api_Seen))), ⟨[string (⟨#[101, 102]⟩ : ByteArray), int .i64 0, int .i64 24, int .i64 20, int .i64 12], _, rfl, (mk_api_Seen (x := (⟨(⟨#[101, 102]⟩ : ByteArray), 0, 24, 20, 12⟩ : api_Seen))), rfl⟩⟩⟩ rfl
 refine bK H fun y2157 hy2152 H=>cv (hw:=gY z z z (vY h2143)) bo14 (formeref21_Same_spec (a6 := ([(⟨(⟨#[97, 98]⟩ : ByteArray), 30, 0, 20, 12⟩ : api_Seen), (⟨(⟨#[99, 100]⟩ : ByteArray), 30, 12, 20, 12⟩ : api_Seen), (⟨(⟨#[101, 102]⟩ : ByteArray), 0, 24, 20, 12⟩ : api_Seen)] : List api_Seen)) hy2152 hI2151 hl243 (Dat.mono (gT (gT (gT (gT hG849 hG1261) hG1673) hG2085) hG2149) hD244) (show ([(⟨(⟨#[97, 98]⟩ : ByteArray), 30, 0, 20, 12⟩ : api_Seen), (⟨(⟨#[99, 100]⟩ : ByteArray), 30, 12, 20, 12⟩ : api_Seen), (⟨(⟨#[101, 102]⟩ : ByteArray), 0, 24, 20, 12⟩ : api_Seen)] : List api_Seen).length ≤ 3 from Nat.le_of_ble_eq_true z) hD2150) z z fun wd2155 hI2156=>pkt (vY h2143) z<|nl<|have hI2166:=Hp.pick 9 [1, 2, 3, 4, 5, 6, 7, 8] hI2156 z;?_
 cases H
 exact je ⟨z, z, z, z, z, z, tv⟩ (Hp.low hG2149 hI2166)
 refine nK h2143 H fun H=>Sk 6 z z (vN h2143) z<|pkf (vN h2143) z<|nl<|?_
 cases H
 exact je ⟨z, z, z, z, z, z, tv⟩ hI2132
 refine mv z<|bK H fun v2167 hC H=>js 3 hI2141 [(7, slice A653 y652.length c654), (8, int .i64 y659), (10, slice A1065 y1064.length c1066), (11, int .i64 y1071), (93, bool v2167)] ?_ fun _ wd2170 hI2171=>?_
 refine have H:=hC;dC (v2137 = true) (fun h2173=>?_) fun h2173=>?_
 refine yK h2173 H fun H=>mv (hw:=gY z z z (vY h2173)) z<|q_eql (hw:=gY z z z (vY h2173)) z z<|pkt (vY h2173) z<|nl<|?_
 cases H
 exact je ⟨z, z, z, z, z, tv⟩ hI2141
 refine nK h2173 H fun H=>Sk 2 z z (vN h2173) z<|pkf (vN h2173) z<|nl<|?_
 cases H
 exact je ⟨z, z, z, z, z, tv⟩ hI2141
 refine asn z<|nl<|hK2136 _ _ _<|sr fun K2174 hK2175=>mv z<|mv z<|bK H fun v2176 hC H=>js 6 hI2171 [(8, int .i64 y659), (10, slice A1065 y1064.length c1066), (11, int .i64 y1071), (101, bool v2176)] ?_ fun _ wd2179 hI2180=>?_
 refine have H:=hC;dC (v2167 = true) (fun h2182=>?_) fun h2182=>?_
 refine yK h2182 H fun H=>mv (hw:=gY z z z (vY h2182)) z<|q_build (hw:=gY z z z (vY h2182)) (vs := [(0, string (⟨#[97, 98, 32, 99, 100]⟩ : ByteArray)), (2, int .i64 20), (3, int .i64 50), (4, int .i64 12)]) (cs := [string (⟨#[97, 98, 32, 99, 100]⟩ : ByteArray), int .i64 0, int .i64 20, int .i64 50, int .i64 12]) ze50 pl50 z z<|q_build (hw:=gY z z z (vY h2182)) (vs := [(0, string (⟨#[101, 102]⟩ : ByteArray)), (2, int .i64 32), (3, int .i64 20), (4, int .i64 12)]) (cs := [string (⟨#[101, 102]⟩ : ByteArray), int .i64 0, int .i64 32, int .i64 20, int .i64 12]) ze50 pl50 z z<|?_
 refine q_bs hI2171 (vs := [(0, agg [string (⟨#[97, 98, 32, 99, 100]⟩ : ByteArray), int .i64 0, int .i64 20, int .i64 50, int .i64 12].toArray), (1, agg [string (⟨#[101, 102]⟩ : ByteArray), int .i64 0, int .i64 32, int .i64 20, int .i64 12].toArray)]) (cs := [string (⟨#[97, 98, 32, 99, 100]⟩ : ByteArray), int .i64 0, int .i64 20, int .i64 50, int .i64 12, string (⟨#[101, 102]⟩ : ByteArray), int .i64 0, int .i64 32, int .i64 20, int .i64 12]) el34 ze50 rfl (by decide) rfl rfl (fun g2184 wd2185 hI2186 => ?_) (hw := gY rfl rfl rfl (bval_yes h2182))
 obtain ⟨G2187, hG2188, hI2190, hD2189⟩ := Hp.publish (xs := ([(⟨(⟨#[97, 98, 32, 99, 100]⟩ : ByteArray), 0, 20, 50, 12⟩ : api_Seen), (⟨(⟨#[101, 102]⟩ : ByteArray), 0, 32, 20, 12⟩ : api_Seen)] : List api_Seen)) (n := 2) k_api_Seen hI2186 ⟨[string (⟨#[97, 98, 32, 99, 100]⟩ : ByteArray), int .i64 0, int .i64 20, int .i64 50, int .i64 12], _, rfl, (mk_api_Seen (x := (⟨(⟨#[97, 98, 32, 99, 100]⟩ : ByteArray), 0, 20, 50, 12⟩ : api_Seen))), ⟨[string (⟨#[101, 102]⟩ : ByteArray), int .i64 0, int .i64 32, int .i64 20, int .i64 12], _, rfl, (mk_api_Seen (x := (⟨(⟨#[101, 102]⟩ : ByteArray), 0, 32, 20, 12⟩ : api_Seen))), rfl⟩⟩ rfl
 refine bK H fun y2196 hy2191 H=>cv (hw:=gY z z z (vY h2182)) bo14 (formeref21_Same_spec (a6 := ([(⟨(⟨#[97, 98, 32, 99, 100]⟩ : ByteArray), 0, 20, 50, 12⟩ : api_Seen), (⟨(⟨#[101, 102]⟩ : ByteArray), 0, 32, 20, 12⟩ : api_Seen)] : List api_Seen)) hy2191 hI2190 hl655 (Dat.mono (gT (gT (gT hG1261 hG1673) hG2085) hG2188) hD656) (show ([(⟨(⟨#[97, 98, 32, 99, 100]⟩ : ByteArray), 0, 20, 50, 12⟩ : api_Seen), (⟨(⟨#[101, 102]⟩ : ByteArray), 0, 32, 20, 12⟩ : api_Seen)] : List api_Seen).length ≤ 2 from Nat.le_of_ble_eq_true z) hD2189) z z fun wd2194 hI2195=>pkt (vY h2182) z<|nl<|have hI2205:=Hp.pick 9 [1, 2, 3, 4, 5, 6, 7, 8] hI2195 z;?_
 cases H
 exact je ⟨z, z, z, z, tv⟩ (Hp.low hG2188 hI2205)
 refine nK h2182 H fun H=>Sk 5 z z (vN h2182) z<|pkf (vN h2182) z<|nl<|?_
 cases H
 exact je ⟨z, z, z, z, tv⟩ hI2171
 refine mv z<|bK H fun v2206 hC H=>js 3 hI2180 [(10, slice A1065 y1064.length c1066), (11, int .i64 y1071), (105, bool v2206)] ?_ fun _ wd2209 hI2210=>?_
 refine have H:=hC;dC (v2176 = true) (fun h2212=>?_) fun h2212=>?_
 refine yK h2212 H fun H=>mv (hw:=gY z z z (vY h2212)) z<|q_eql (hw:=gY z z z (vY h2212)) z z<|pkt (vY h2212) z<|nl<|?_
 cases H
 exact je ⟨z, z, z, tv⟩ hI2180
 refine nK h2212 H fun H=>Sk 2 z z (vN h2212) z<|pkf (vN h2212) z<|nl<|?_
 cases H
 exact je ⟨z, z, z, tv⟩ hI2180
 refine mv z<|bK H fun v2213 hC H=>js 4 hI2210 [(11, int .i64 y1071), (110, bool v2213)] ?_ fun _ wd2216 hI2217=>?_
 refine have H:=hC;dC (v2206 = true) (fun h2219=>?_) fun h2219=>?_
 refine yK h2219 H fun H=>mv (hw:=gY z z z (vY h2219)) z<|q_len (hw:=gY z z z (vY h2219)) so34 z<|q_eql (hw:=gY z z z (vY h2219)) z z<|pkt (vY h2219) z<|nl<|?_
 cases H
 exact je ⟨z, z, tv⟩ hI2210
 refine nK h2219 H fun H=>Sk 3 z z (vN h2219) z<|pkf (vN h2219) z<|nl<|?_
 cases H
 exact je ⟨z, z, tv⟩ hI2210
 refine mv z<|bK H fun v2220 hC H=>js 3 hI2217 [(114, bool v2220)] ?_ fun _ wd2223 hI2224=>?_
 refine have H:=hC;dC (v2213 = true) (fun h2226=>?_) fun h2226=>?_
 refine yK h2226 H fun H=>mv (hw:=gY z z z (vY h2226)) z<|q_eql (hw:=gY z z z (vY h2226)) z z<|pkt (vY h2226) z<|nl<|?_
 cases H
 exact je ⟨z, tv⟩ hI2217
 refine nK h2226 H fun H=>Sk 2 z z (vN h2226) z<|pkf (vN h2226) z<|nl<|?_
 cases H
 exact je ⟨z, tv⟩ hI2217
 refine asn z<|nl<|hK2175 _ _ _<|wr<|have hI2227:=Hp.pick 8 [] hI2224 z;?_
 cases H
 exact rt ⟨_, _, z, z, z⟩ (Hp.low (gT (gT (gT (gT (gT (gT hG18 hG26) hG437) hG849) hG1261) hG1673) hG2085) hI2227)
theorem formeref07_Few_spec {a1 A2 c3 A6 c7 r1010 G L w} (H : formeref07_Few a1 = some r1010) (hI : Hp G L w) (hl4 : a1.Glyphs.length ≤ c3) (hD5 : Dat k_api_Glyph G A2 a1.Glyphs) (hl8 : a1.Kerns.length ≤ c7) (hD9 : Dat k_api_Kern G A6 a1.Kerns) :
    Calls Tryz.prog 26 [agg [slice A2 a1.Glyphs.length c3, slice A6 a1.Kerns.length c7].toArray].toArray w fun e w' => Hp G L w' ∧ e = .returned (bool r1010) := by
 refine calls_intro (N := 13) Tryz.func26 z z (Nat.le_of_ble_eq_true z)<|?_
 unfold formeref07_Few at H
 refine sr fun K10 hK11=>bxk hI z z fun g13 wd14 hI15=>asn z<|nl<|hK11 _ _ _<|sr fun K16 hK17=>fa fl25_0 z<|ld hI15 0 ag22 z z z<|q_len so22 z<|q_leq z z<|mv z<|bK H fun v18 hC H=>js 5 hI15 [(12, bool v18)] ?_ fun _ wd21 hI22=>?_
 refine have H:=hC;dC ((a1.Glyphs.length : Int) ≤ 100) (fun h24=>?_) fun h24=>?_
 refine yK h24 H fun H=>fa (hw:=gY z z z (bY h24)) fl25_1 z<|ld (hw:=gY z z z (bY h24)) hI15 0 ag23 z z z<|q_len (hw:=gY z z z (bY h24)) so23 z<|q_leq (hw:=gY z z z (bY h24)) z z<|pkt (bY h24) z<|nl<|?_
 cases H
 exact je ⟨z, tv⟩ hI15
 refine nK h24 H fun H=>Sk 4 z z (bN h24) z<|pkf (bN h24) z<|nl<|?_
 cases H
 exact je ⟨z, tv⟩ hI15
 refine asn z<|nl<|hK17 _ _ _<|wr<|have hI25:=Hp.pick 1 [] hI22 z;?_
 cases H
 exact rt ⟨_, _, z, z, z⟩ hI25
theorem formeref21_Few_spec {a1 a10 a11 A2 c3 A6 c7 A12 c13 r1016 G L w} (H : formeref21_Few a1 a10 a11 = some r1016) (hI : Hp G L w) (hl4 : a1.Glyphs.length ≤ c3) (hD5 : Dat k_api_Glyph G A2 a1.Glyphs) (hl8 : a1.Kerns.length ≤ c7) (hD9 : Dat k_api_Kern G A6 a1.Kerns) (hl14 : a11.length ≤ c13) (hD15 : Dat k_api_Float G A12 a11) :
    Calls Tryz.prog 11 [agg [slice A2 a1.Glyphs.length c3, slice A6 a1.Kerns.length c7].toArray, string a10, slice A12 a11.length c13].toArray w fun e w' => Hp G L w' ∧ e = .returned (bool r1016) := by
 refine calls_intro (N := 19) Tryz.func11 z z (Nat.le_of_ble_eq_true z)<|?_
 unfold formeref21_Few at H
 refine sr fun K16 hK17=>bxk hI z z fun g19 wd20 hI21=>asn z<|nl<|hK17 _ _ _<|sr fun K22 hK23=>lda hI21 0 ag25 z z z z<|bK H fun y29 hy24 H=>cv bo26 (formeref07_Few_spec hy24 hI21 hl4 hD5 hl8 hD9) z z fun wd27 hI28=>mv z<|bK H fun v30 hC H=>js 4 hI28 [(2, slice A12 a11.length c13), (13, bool v30)] ?_ fun _ wd33 hI34=>?_
 refine have H:=hC;dC (y29 = true) (fun h36=>?_) fun h36=>?_
 refine yK h36 H fun H=>mv (hw:=gY z z z (vY h36)) z<|q_lens (hw:=gY z z z (vY h36)) so9 z<|q_leq (hw:=gY z z z (vY h36)) z z<|pkt (vY h36) z<|nl<|?_
 cases H
 exact je ⟨z, z, tv⟩ hI28
 refine nK h36 H fun H=>Sk 3 z z (vN h36) z<|pkf (vN h36) z<|nl<|?_
 cases H
 exact je ⟨z, z, tv⟩ hI28
 refine mv z<|bK H fun v37 hC H=>js 4 hI34 [(18, bool v37)] ?_ fun _ wd40 hI41=>?_
 refine have H:=hC;dC (v30 = true) (fun h43=>?_) fun h43=>?_
 refine yK h43 H fun H=>mv (hw:=gY z z z (vY h43)) z<|q_len (hw:=gY z z z (vY h43)) so31 z<|q_leq (hw:=gY z z z (vY h43)) z z<|pkt (vY h43) z<|nl<|?_
 cases H
 exact je ⟨z, tv⟩ hI34
 refine nK h43 H fun H=>Sk 3 z z (vN h43) z<|pkf (vN h43) z<|nl<|?_
 cases H
 exact je ⟨z, tv⟩ hI34
 refine asn z<|nl<|hK23 _ _ _<|wr<|have hI44:=Hp.pick 1 [] hI41 z;?_
 cases H
 exact rt ⟨_, _, z, z, z⟩ hI44
theorem formelaw21_lines_spec {a1 a10 a15 a16 a17 A2 c3 A6 c7 A11 c12 A18 c19 r1022 r1029 r1030 G L w} (H : formelaw21_lines a1 a10 a15 a16 a17 = some (r1022, r1029, r1030)) (hI : Hp G L w) (hl4 : a1.Glyphs.length ≤ c3) (hD5 : Dat k_api_Glyph G A2 a1.Glyphs) (hl8 : a1.Kerns.length ≤ c7) (hD9 : Dat k_api_Kern G A6 a1.Kerns) (hl13 : a10.Keep.length ≤ c12) (hD14 : Dat Kd.str G A11 a10.Keep) (hl20 : a17.length ≤ c19) (hD21 : Dat k_api_Float G A18 a17) (hgl : Gl G) :
    Calls Tryz.prog 12 [agg [slice A2 a1.Glyphs.length c3, slice A6 a1.Kerns.length c7].toArray, agg [int .i64 a10.Before, int .i64 a10.Behind, slice A11 a10.Keep.length c12].toArray, string a15, agg [int .i64 a16.Scale, int .i64 a16.Line, int .i64 a16.Align, int .i64 a16.Dir, int .i64 a16.Width, int .i64 a16.Y].toArray, slice A18 a17.length c19].toArray w fun e w' => ∃ (A1023 : Option Addr) (c1024 : Nat) (G' : Gh), G ≤ G' ∧ Hp G' (tk (slice A1023 r1022.length c1024) 5 50 :: L) w' ∧ r1022.length ≤ c1024 ∧ Dat k_api_Seen G' A1023 r1022 ∧ Own A1023 c1024 ∧ e = .returned (tuple [slice A1023 r1022.length c1024, int .i64 r1029, int .i64 r1030].toArray) := by
 refine calls_intro (N := 33) Tryz.func12 z z (Nat.le_of_ble_eq_true z)<|?_
 unfold formelaw21_lines at H
 refine sr fun K22 hK23=>bxk hI z z fun g25 wd26 hI27=>bxk hI27 z z fun g29 wd30 hI31=>bxk hI31 z z fun g33 wd34 hI35=>asn z<|asn z<|asn z<|nl<|hK23 _ _ _<|sr fun K36 hK37=>lda hI35 2 ag25 z z z z<|lda hI35 1 ag28 z z z z<|mv z<|fa fl30_0 z<|?_
 refine ld hI35 0 ag3 z z z<|fa fl30_1 z<|ld hI35 0 ag3 z z z<|fa fl30_2 z<|ld hI35 0 ag3 z z z<|fa fl30_3 z<|ld hI35 0 ag3 z z z<|fa fl30_4 z<|ld hI35 0 ag3 z z z<|fa fl30_5 z<|ld hI35 0 ag3 z z z<|mv z<|bK3 H fun y43 y50 y51 hy38 H=>q_cv (vs := [agg [slice A2 a1.Glyphs.length c3, slice A6 a1.Kerns.length c7].toArray, agg [int .i64 a10.Before, int .i64 a10.Behind, slice A11 a10.Keep.length c12].toArray, string a15, int .i64 a16.Scale, int .i64 a16.Line, int .i64 a16.Align, int .i64 a16.Dir, int .i64 a16.Width, int .i64 a16.Y, slice A18 a17.length c19]) bo24 z z (wrap_Lines_spec hy38 hI35 hl4 hD5 hl8 hD9 hl13 hD14 hl20 hD21 (hgl.mono gR))<|?_
 rintro _ wd41 ⟨A44, c45, G39, hG40, hI42, hl46, hD47, ho48, rfl⟩
 refine ⟨_, rfl, ?_⟩
 refine exk z z<|exk z z<|exk z z<|asn z<|asn z<|asn z<|nl<|hK37 _ _ _<|wr<|have hI52:=Hp.pick 4 [0] hI42 z;?_
 cases H
 exact ⟨.inr z, z, _, ⟨_, _, z, z, ⟨_, _, z, z, ⟨_, _, z, z, z⟩⟩⟩, A44, c45, _, hG40, hI52, hl46, hD47, ho48, z⟩
theorem formeref06_Class_spec {a1 r1002 G L w} (H : formeref06_Class a1 = some r1002) (hI : Hp G L w) :
    Calls Tryz.prog 22 [int .u8 a1].toArray w fun e w' => Hp G L w' ∧ e = .returned (int .i64 r1002) := by
 refine calls_intro (N := 31) Tryz.func22 z z (Nat.le_of_ble_eq_true z)<|?_
 unfold formeref06_Class at H
 refine sr fun K2 hK3=>asn z<|nl<|hK3 _ _ _<|sQ fun K4 hK5=>sr fun K6 hK7=>mv z<|q_geq z z<|mv z<|bK H fun v8 hC H=>js 3 hI [(0, int .u8 a1), (8, bool v8)] ?_ fun _ wd11 hI12=>?_
 refine have H:=hC;dC (97 ≤ a1) (fun h14=>?_) fun h14=>?_
 refine yK h14 H fun H=>mv (hw:=gY z z z (bY h14)) z<|q_leq (hw:=gY z z z (bY h14)) z z<|pkt (bY h14) z<|nl<|?_
 cases H
 exact je ⟨z, z, tv⟩ hI
 refine nK h14 H fun H=>Sk 2 z z (bN h14) z<|pkf (bN h14) z<|nl<|?_
 cases H
 exact je ⟨z, z, tv⟩ hI
 refine nl<|hK7 _ _ _<|dC (v8 = true) (fun h15=>?_) fun h15=>?_
 refine yK h15 H fun H=>wt (vY h15)<|sr fun K16 hK17=>asn z<|nl<|hK17 _ _ _<|wr<|?_
 cases H
 exact rt ⟨_, _, z, z, z⟩ hI12
 refine nK h15 H fun H=>wf (vN h15)<|ws<|hK5 _ _ _<|sQ fun K18 hK19=>sr fun K20 hK21=>mv z<|q_geq z z<|mv z<|bK H fun v22 hC H=>js 3 hI12 [(0, int .u8 a1), (14, bool v22)] ?_ fun _ wd25 hI26=>?_
 refine have H:=hC;dC (65 ≤ a1) (fun h28=>?_) fun h28=>?_
 refine yK h28 H fun H=>mv (hw:=gY z z z (bY h28)) z<|q_leq (hw:=gY z z z (bY h28)) z z<|pkt (bY h28) z<|nl<|?_
 cases H
 exact je ⟨z, z, tv⟩ hI12
 refine nK h28 H fun H=>Sk 2 z z (bN h28) z<|pkf (bN h28) z<|nl<|?_
 cases H
 exact je ⟨z, z, tv⟩ hI12
 refine nl<|hK21 _ _ _<|dC (v22 = true) (fun h29=>?_) fun h29=>?_
 refine yK h29 H fun H=>wt (vY h29)<|sr fun K30 hK31=>asn z<|nl<|hK31 _ _ _<|wr<|?_
 cases H
 exact rt ⟨_, _, z, z, z⟩ hI26
 refine nK h29 H fun H=>wf (vN h29)<|ws<|hK19 _ _ _<|sQ fun K32 hK33=>sr fun K34 hK35=>mv z<|q_geq z z<|mv z<|bK H fun v36 hC H=>js 3 hI26 [(0, int .u8 a1), (20, bool v36)] ?_ fun _ wd39 hI40=>?_
 refine have H:=hC;dC (48 ≤ a1) (fun h42=>?_) fun h42=>?_
 refine yK h42 H fun H=>mv (hw:=gY z z z (bY h42)) z<|q_leq (hw:=gY z z z (bY h42)) z z<|pkt (bY h42) z<|nl<|?_
 cases H
 exact je ⟨z, z, tv⟩ hI26
 refine nK h42 H fun H=>Sk 2 z z (bN h42) z<|pkf (bN h42) z<|nl<|?_
 cases H
 exact je ⟨z, z, tv⟩ hI26
 refine nl<|hK35 _ _ _<|dC (v36 = true) (fun h43=>?_) fun h43=>?_
 refine yK h43 H fun H=>wt (vY h43)<|sr fun K44 hK45=>asn z<|nl<|hK45 _ _ _<|wr<|?_
 cases H
 exact rt ⟨_, _, z, z, z⟩ hI40
 refine nK h43 H fun H=>wf (vN h43)<|ws<|hK33 _ _ _<|sQ fun K46 hK47=>sr fun K48 hK49=>mv z<|q_eql z z<|nl<|hK49 _ _ _<|dC (a1 = 32) (fun h50=>?_) fun h50=>?_
 refine yK h50 H fun H=>wt (bY h50)<|sr fun K51 hK52=>asn z<|nl<|hK52 _ _ _<|wr<|?_
 cases H
 exact rt ⟨_, _, z, z, z⟩ hI40
 refine nK h50 H fun H=>wf (bN h50)<|ws<|hK47 _ _ _<|sQ fun K53 hK54=>sr fun K55 hK56=>mv z<|q_eql z z<|nl<|hK56 _ _ _<|dC (a1 = 126) (fun h57=>?_) fun h57=>?_
 refine yK h57 H fun H=>wt (bY h57)<|sr fun K58 hK59=>asn z<|nl<|hK59 _ _ _<|wr<|?_
 cases H
 exact rt ⟨_, _, z, z, z⟩ hI40
 refine nK h57 H fun H=>wf (bN h57)<|ws<|hK54 _ _ _<|sQ fun K60 hK61=>sr fun K62 hK63=>mv z<|q_gtr z z<|mv z<|bK H fun v64 hC H=>js 3 hI40 [(30, bool v64)] ?_ fun _ wd67 hI68=>?_
 refine have H:=hC;dC (32 < a1) (fun h70=>?_) fun h70=>?_
 refine yK h70 H fun H=>mv (hw:=gY z z z (bY h70)) z<|q_lss (hw:=gY z z z (bY h70)) z z<|pkt (bY h70) z<|nl<|?_
 cases H
 exact je ⟨z, tv⟩ hI40
 refine nK h70 H fun H=>Sk 2 z z (bN h70) z<|pkf (bN h70) z<|nl<|?_
 cases H
 exact je ⟨z, tv⟩ hI40
 refine nl<|hK63 _ _ _<|dC (v64 = true) (fun h71=>?_) fun h71=>?_
 refine yK h71 H fun H=>wt (vY h71)<|sr fun K72 hK73=>asn z<|nl<|hK73 _ _ _<|wr<|?_
 cases H
 exact rt ⟨_, _, z, z, z⟩ hI68
 refine nK h71 H fun H=>wf (vN h71)<|ws<|hK61 _ _ _<|sr fun K74 hK75=>asn z<|nl<|hK75 _ _ _<|wr<|?_
 cases H
 exact rt ⟨_, _, z, z, z⟩ hI68
theorem formeref06_Valid_spec {a1 r1002 G L w} (H : formeref06_Valid a1 = some r1002) (hI : Hp G L w) :
    Calls Tryz.prog 46 [string a1].toArray w fun e w' => Hp G L w' ∧ e = .returned (bool r1002) := by
 refine calls_intro (N := 18) Tryz.func46 z z (Nat.le_of_ble_eq_true z)<|?_
 unfold formeref06_Valid at H
 refine sr fun K2 hK3=>asn z<|nl<|hK3 _ _ _<|sQ fun K4 hK5=>sr fun K6 hK7=>asn z<|nl<|hK7 _ _ _<|wb<|bK H fun o27 hC H=>wpc_mono (Q := fun e r ds w => match (generalizing := false) o27 with | (Sum.inl _) => e = .ret ∧ ds = [] ∧ Has [(2, bool false)] r ∧ Hp G (L) w ∧ True | (Sum.inr _) => e = .exit 0 ∧ ds = [] ∧ Has [(0, string a1)] r ∧ Hp G (L) w ∧ True) ?_ ?_
 refine wpc_loop fun I hLp=>?_
 refine formeref06_Valid_l18.partial_correctness a1 (fun v12 o => ∀ (r : Rg) (w : World), Has [(0, string a1), (3, int .i64 v12)] r → Hp G (L) w → o = o27 → I r [] w) ?_ 0 _ hC _ _ ⟨rfl, rfl, tv⟩ hI rfl
 intro _ ih v12 o H r wd30 hHas hI31 ho
 rw [ho] at H; clear ho
 rw [hHas.eq]; clear hHas
 refine hLp _ _ _<|sQ fun K32 hK33=>sr fun K34 hK35=>mv z<|mv z<|q_lens so9 z<|q_lss z z<|nl<|hK35 _ _ _<|dC (v12 < (a1.size : Int)) (fun h36=>?_) fun h36=>?_
 refine yK h36 H fun H=>wt (bY h36)<|ws<|hK33 _ _ _<|sQ fun K37 hK38=>wb<|sr fun K39 hK40=>mv z<|mv z<|iK H fun⟨h41, h41'⟩H=>q_is so9 z z h41 h41' z<|bK H fun y47 hy42 H=>cv bo22 (formeref06_Class_spec hy42 hI31) z z fun wd45 hI46=>q_eql z z<|?_
 refine nl<|hK40 _ _ _<|dC (y47 = 0) (fun h48=>?_) fun h48=>?_
 refine yK h48 H fun H=>wt (bY h48)<|sr fun K49 hK50=>asn z<|nl<|hK50 _ _ _<|wr<|?_
 cases H
 exact ⟨z, z, ⟨z, tv⟩, hI46, tv⟩
 exact nK h48 H fun H=>wf (bN h48)<|ws<|hK38 _ _ _<|wpc_region<|mv z<|q_add z z<|asn z<|nl<|ih _ _ H _ _ ⟨z, z, tv⟩ hI46 z
 refine nK h36 H fun H=>wf (bN h36)<|wx<|?_
 cases H
 exact ⟨z, z, ⟨z, tv⟩, hI31, tv⟩
 rcases o27 with _ | _
 rintro e r ds wd21 ⟨rfl, rfl, hHas, hI22, _⟩
 rw [hHas.eq]; clear hHas
 cases H
 exact rt ⟨_, _, z, z, z⟩ hI22
 rintro e r ds wd25 ⟨rfl, rfl, hHas, hI26, _⟩
 rw [hHas.eq]; clear hHas
 refine hK5 _ _ _<|sr fun K51 hK52=>mv z<|q_lens so9 z<|q_leq z z<|asn z<|nl<|hK52 _ _ _<|wr<|?_
 cases H
 exact rt ⟨_, _, z, z, z⟩ hI26
theorem formeref20_size_spec {a1 r1002 G L w} (H : formeref20_size a1 = some r1002) (hI : Hp G L w) :
    Calls Tryz.prog 48 [int .i64 a1].toArray w fun e w' => Hp G L w' ∧ e = .returned (bool r1002) := by
 refine calls_intro (N := 9) Tryz.func48 z z (Nat.le_of_ble_eq_true z)<|?_
 unfold formeref20_size at H
 refine sr fun K2 hK3=>asn z<|nl<|hK3 _ _ _<|sr fun K4 hK5=>mv z<|q_geq z z<|mv z<|bK H fun v6 hC H=>js 3 hI [(8, bool v6)] ?_ fun _ wd9 hI10=>?_
 refine have H:=hC;dC (0 ≤ a1) (fun h12=>?_) fun h12=>?_
 refine yK h12 H fun H=>mv (hw:=gY z z z (bY h12)) z<|q_leq (hw:=gY z z z (bY h12)) z z<|pkt (bY h12) z<|nl<|?_
 cases H
 exact je ⟨z, tv⟩ hI
 refine nK h12 H fun H=>Sk 2 z z (bN h12) z<|pkf (bN h12) z<|nl<|?_
 cases H
 exact je ⟨z, tv⟩ hI
 refine asn z<|nl<|hK5 _ _ _<|wr<|?_
 cases H
 exact rt ⟨_, _, z, z, z⟩ hI10
theorem formeref20_high_spec {a1 r1002 G L w} (H : formeref20_high a1 = some r1002) (hI : Hp G L w) :
    Calls Tryz.prog 49 [int .i64 a1].toArray w fun e w' => Hp G L w' ∧ e = .returned (bool r1002) := by
 refine calls_intro (N := 9) Tryz.func49 z z (Nat.le_of_ble_eq_true z)<|?_
 unfold formeref20_high at H
 refine sr fun K2 hK3=>asn z<|nl<|hK3 _ _ _<|sr fun K4 hK5=>mv z<|q_geq z z<|mv z<|bK H fun v6 hC H=>js 3 hI [(8, bool v6)] ?_ fun _ wd9 hI10=>?_
 refine have H:=hC;dC (0 ≤ a1) (fun h12=>?_) fun h12=>?_
 refine yK h12 H fun H=>mv (hw:=gY z z z (bY h12)) z<|q_leq (hw:=gY z z z (bY h12)) z z<|pkt (bY h12) z<|nl<|?_
 cases H
 exact je ⟨z, tv⟩ hI
 refine nK h12 H fun H=>Sk 2 z z (bN h12) z<|pkf (bN h12) z<|nl<|?_
 cases H
 exact je ⟨z, tv⟩ hI
 refine asn z<|nl<|hK5 _ _ _<|wr<|?_
 cases H
 exact rt ⟨_, _, z, z, z⟩ hI10
theorem formeref20_Valid_spec {a1 a6 A2 c3 r1007 G L w} (H : formeref20_Valid a1 a6 = some r1007) (hI : Hp G L w) (hl4 : a1.length ≤ c3) (hD5 : Dat k_api_Float G A2 a1) :
    Calls Tryz.prog 23 [slice A2 a1.length c3, int .i64 a6].toArray w fun e w' => Hp G L w' ∧ e = .returned (bool r1007) := by
 refine calls_intro (N := 80) Tryz.func23 z z (Nat.le_of_ble_eq_true z)<|?_
 unfold formeref20_Valid at H
 refine sr fun K7 hK8=>asn z<|nl<|hK8 _ _ _<|sr fun K9 hK10=>mv z<|bK H fun y16 hy11 H=>cv bo48 (formeref20_size_spec hy11 hI) z z fun wd14 hI15=>asn z<|nl<|hK10 _ _ _<|sQ fun K17 hK18=>sr fun K19 hK20=>mv z<|?_
 refine q_not z<|mv z<|bK H fun v21 hC H=>js 4 hI15 [(0, slice A2 a1.length c3), (19, bool v21)] ?_ fun _ wd24 hI25=>?_
 refine have H:=hC;dC ((!y16) = true) (fun h27=>?_) fun h27=>?_
 refine yK h27 H fun H=>Sk 3 z z (vY h27) z<|pkt (vY h27) z<|nl<|?_
 cases H
 exact je ⟨z, z, tv⟩ hI15
 refine nK h27 H fun H=>mv (hw:=gY z z z (vN h27)) z<|q_len (hw:=gY z z z (vN h27)) so31 z<|q_gtr (hw:=gY z z z (vN h27)) z z<|pkf (vN h27) z<|nl<|?_
 cases H
 exact je ⟨z, z, tv⟩ hI15
 refine nl<|hK20 _ _ _<|dC (v21 = true) (fun h28=>?_) fun h28=>?_
 refine yK h28 H fun H=>wt (vY h28)<|sr fun K29 hK30=>asn z<|nl<|hK30 _ _ _<|wr<|?_
 cases H
 exact rt ⟨_, _, z, z, z⟩ hI25
 refine nK h28 H fun H=>wf (vN h28)<|ws<|hK18 _ _ _<|sQ fun K31 hK32=>sr fun K33 hK34=>asn z<|nl<|hK34 _ _ _<|wb<|bK H fun o54 hC H=>wpc_mono (Q := fun e r ds w => match (generalizing := false) o54 with | (Sum.inl _) => e = .ret ∧ ds = [] ∧ Has [(4, bool false)] r ∧ Hp G (L) w ∧ True | (Sum.inr _) => e = .exit 0 ∧ ds = [] ∧ Has [] r ∧ Hp G (L) w ∧ True) ?_ ?_
 refine wpc_loop fun I hLp=>?_
 refine formeref20_Valid_l45.partial_correctness a1 (fun v39 o => ∀ (r : Rg) (w : World), Has [(0, slice A2 a1.length c3), (6, int .i64 v39)] r → Hp G (L) w → o = o54 → I r [] w) ?_ 0 _ hC _ _ ⟨rfl, rfl, tv⟩ hI25 rfl
 intro _ ih v39 o H r wd57 hHas hI58 ho
 rw [ho] at H; clear ho
 rw [hHas.eq]; clear hHas
 refine hLp _ _ _<|sQ fun K59 hK60=>sr fun K61 hK62=>mv z<|mv z<|q_len so31 z<|q_lss z z<|nl<|hK62 _ _ _<|dC (v39 < (a1.length : Int)) (fun h63=>?_) fun h63=>?_
 refine yK h63 H fun H=>wt (bY h63)<|ws<|hK60 _ _ _<|sQ fun K64 hK65=>wb<|sr fun K66 hK67=>mv z<|mv z<|iK H fun⟨h68, h68'⟩H=>?_
 obtain ⟨ad69, cs70, hA71, hK72, hn73, hc74⟩ := Dat.get hD5 z_api_Float (v39) h68 h68'
 obtain ⟨rfl⟩ := open_api_Float hK72
 refine q_ia el31 z hA71 z h68 h68'<|q_fa fl57_1 z z<|q_lf hI58 ag3 z (gR.cel _ _ (hc74 1 _ z))<|bK H fun y80 hy75 H=>cv bo48 (formeref20_size_spec hy75 hI58) z z fun wd78 hI79=>asn z<|nl<|hK67 _ _ _<|sr fun K81 hK82=>mv z<|mv z<|iK H fun⟨h83, h83'⟩H=>?_
 obtain ⟨ad84, cs85, hA86, hK87, hn88, hc89⟩ := Dat.get hD5 z_api_Float (v39) h83 h83'
 obtain ⟨rfl⟩ := open_api_Float hK87
 refine q_ia el31 z hA86 z h83 h83'<|q_fa fl57_2 z z<|q_lf hI79 ag3 z (gR.cel _ _ (hc89 2 _ z))<|bK H fun y95 hy90 H=>cv bo49 (formeref20_high_spec hy90 hI79) z z fun wd93 hI94=>asn z<|nl<|hK82 _ _ _<|sr fun K96 hK97=>mv z<|mv z<|iK H fun⟨h98, h98'⟩H=>?_
 obtain ⟨ad99, cs100, hA101, hK102, hn103, hc104⟩ := Dat.get hD5 z_api_Float (v39) h98 h98'
 obtain ⟨rfl⟩ := open_api_Float hK102
 refine q_ia el31 z hA101 z h98 h98'<|q_fa fl57_3 z z<|q_lf hI94 ag3 z (gR.cel _ _ (hc104 3 _ z))<|bK H fun y110 hy105 H=>cv bo48 (formeref20_size_spec hy105 hI94) z z fun wd108 hI109=>asn z<|nl<|hK97 _ _ _<|sr fun K111 hK112=>mv z<|mv z<|iK H fun⟨h113, h113'⟩H=>?_
 obtain ⟨ad114, cs115, hA116, hK117, hn118, hc119⟩ := Dat.get hD5 z_api_Float (v39) h113 h113'
 obtain ⟨rfl⟩ := open_api_Float hK117
 refine q_ia el31 z hA116 z h113 h113'<|q_fa fl57_4 z z<|q_lf hI109 ag3 z (gR.cel _ _ (hc119 4 _ z))<|bK H fun y125 hy120 H=>cv bo48 (formeref20_size_spec hy120 hI109) z z fun wd123 hI124=>asn z<|nl<|hK112 _ _ _<|sr fun K126 hK127=>mv z<|q_not z<|mv z<|bK H fun v128 hC H=>js 3 hI124 [(0, slice A2 a1.length c3), (6, int .i64 v39), (9, bool y110), (10, bool y125), (55, bool v128)] ?_ fun _ wd131 hI132=>?_
 refine have H:=hC;dC ((!y80) = true) (fun h134=>?_) fun h134=>?_
 refine yK h134 H fun H=>Sk 2 z z (vY h134) z<|pkt (vY h134) z<|nl<|?_
 cases H
 exact je ⟨z, z, z, z, z, tv⟩ hI124
 refine nK h134 H fun H=>mv (hw:=gY z z z (vN h134)) z<|q_not (hw:=gY z z z (vN h134)) z<|pkf (vN h134) z<|nl<|?_
 cases H
 exact je ⟨z, z, z, z, z, tv⟩ hI124
 refine mv z<|bK H fun v135 hC H=>js 3 hI132 [(0, slice A2 a1.length c3), (6, int .i64 v39), (10, bool y125), (59, bool v135)] ?_ fun _ wd138 hI139=>?_
 refine have H:=hC;dC (v128 = true) (fun h141=>?_) fun h141=>?_
 refine yK h141 H fun H=>Sk 2 z z (vY h141) z<|pkt (vY h141) z<|nl<|?_
 cases H
 exact je ⟨z, z, z, z, tv⟩ hI132
 refine nK h141 H fun H=>mv (hw:=gY z z z (vN h141)) z<|q_not (hw:=gY z z z (vN h141)) z<|pkf (vN h141) z<|nl<|?_
 cases H
 exact je ⟨z, z, z, z, tv⟩ hI132
 refine mv z<|bK H fun v142 hC H=>js 3 hI139 [(0, slice A2 a1.length c3), (6, int .i64 v39), (63, bool v142)] ?_ fun _ wd145 hI146=>?_
 refine have H:=hC;dC (v135 = true) (fun h148=>?_) fun h148=>?_
 refine yK h148 H fun H=>Sk 2 z z (vY h148) z<|pkt (vY h148) z<|nl<|?_
 cases H
 exact je ⟨z, z, z, tv⟩ hI139
 refine nK h148 H fun H=>mv (hw:=gY z z z (vN h148)) z<|q_not (hw:=gY z z z (vN h148)) z<|pkf (vN h148) z<|nl<|?_
 cases H
 exact je ⟨z, z, z, tv⟩ hI139
 refine mv z<|bK H fun v149 hC H=>js 7 hI146 [(0, slice A2 a1.length c3), (6, int .i64 v39), (71, bool v149)] ?_ fun _ wd152 hI153=>?_
 refine have H:=hC;dC (v142 = true) (fun h155=>?_) fun h155=>?_
 refine yK h155 H fun H=>Sk 6 z z (vY h155) z<|pkt (vY h155) z<|nl<|?_
 cases H
 exact je ⟨z, z, z, tv⟩ hI146
 refine nK h155 H fun H=>mv (hw:=gY z z z (vN h155)) z<|mv (hw:=gY z z z (vN h155)) z<|iK H fun⟨h156, h156'⟩H=>?_
 obtain ⟨ad157, cs158, hA159, hK160, hn161, hc162⟩ := Dat.get hD5 z_api_Float (v39) h156 h156'
 obtain ⟨rfl⟩ := open_api_Float hK160
 refine q_ia (hw:=gY z z z (vN h155)) el31 z hA159 z h156 h156'<|q_fa (hw:=gY z z z (vN h155)) fl57_0 z z<|q_lf (hw:=gY z z z (vN h155)) hI146 ag3 z (gR.cel _ _ (hc162 0 _ z))<|q_lss (hw:=gY z z z (vN h155)) z z<|pkf (vN h155) z<|nl<|?_
 cases H
 exact je ⟨z, z, z, tv⟩ hI146
 refine mv z<|bK H fun v163 hC H=>js 7 hI153 [(0, slice A2 a1.length c3), (6, int .i64 v39), (79, bool v163)] ?_ fun _ wd166 hI167=>?_
 refine have H:=hC;dC (v149 = true) (fun h169=>?_) fun h169=>?_
 refine yK h169 H fun H=>Sk 6 z z (vY h169) z<|pkt (vY h169) z<|nl<|?_
 cases H
 exact je ⟨z, z, z, tv⟩ hI153
 refine nK h169 H fun H=>mv (hw:=gY z z z (vN h169)) z<|mv (hw:=gY z z z (vN h169)) z<|iK H fun⟨h170, h170'⟩H=>?_
 obtain ⟨ad171, cs172, hA173, hK174, hn175, hc176⟩ := Dat.get hD5 z_api_Float (v39) h170 h170'
 obtain ⟨rfl⟩ := open_api_Float hK174
 refine q_ia (hw:=gY z z z (vN h169)) el31 z hA173 z h170 h170'<|q_fa (hw:=gY z z z (vN h169)) fl57_0 z z<|q_lf (hw:=gY z z z (vN h169)) hI153 ag3 z (gR.cel _ _ (hc176 0 _ z))<|q_gtr (hw:=gY z z z (vN h169)) z z<|pkf (vN h169) z<|nl<|?_
 cases H
 exact je ⟨z, z, z, tv⟩ hI153
 refine nl<|hK127 _ _ _<|dC (v163 = true) (fun h177=>?_) fun h177=>?_
 refine yK h177 H fun H=>wt (vY h177)<|sr fun K178 hK179=>asn z<|nl<|hK179 _ _ _<|wr<|?_
 cases H
 exact ⟨z, z, ⟨z, tv⟩, hI167, tv⟩
 exact nK h177 H fun H=>wf (vN h177)<|ws<|hK65 _ _ _<|wpc_region<|mv z<|q_add z z<|asn z<|nl<|ih _ _ H _ _ ⟨z, z, tv⟩ hI167 z
 refine nK h63 H fun H=>wf (bN h63)<|wx<|?_
 cases H
 exact ⟨z, z, trivial, hI58, tv⟩
 rcases o54 with _ | _
 rintro e r ds wd48 ⟨rfl, rfl, hHas, hI49, _⟩
 rw [hHas.eq]; clear hHas
 cases H
 exact rt ⟨_, _, z, z, z⟩ hI49
 rintro e r ds wd52 ⟨rfl, rfl, hHas, hI53, _⟩
 rw [hHas.eq]; clear hHas
 refine hK32 _ _ _<|sr fun K180 hK181=>asn z<|nl<|hK181 _ _ _<|wr<|?_
 cases H
 exact rt ⟨_, _, z, z, z⟩ hI53
theorem formeref07_Glyph_spec {a1 a10 A2 c3 A6 c7 r1011 G L w} (H : formeref07_Glyph a1 a10 = some r1011) (hI : Hp G L w) (hl4 : a1.Glyphs.length ≤ c3) (hD5 : Dat k_api_Glyph G A2 a1.Glyphs) (hl8 : a1.Kerns.length ≤ c7) (hD9 : Dat k_api_Kern G A6 a1.Kerns) :
    Calls Tryz.prog 87 [agg [slice A2 a1.Glyphs.length c3, slice A6 a1.Kerns.length c7].toArray, int .u8 a10].toArray w fun e w' => Hp G L w' ∧ e = .returned (int .i64 r1011) := by
 refine calls_intro (N := 22) Tryz.func87 z z (Nat.le_of_ble_eq_true z)<|?_
 unfold formeref07_Glyph at H
 refine sr fun K11 hK12=>bxk hI z z fun g14 wd15 hI16=>asn z<|nl<|hK12 _ _ _<|sQ fun K17 hK18=>sr fun K19 hK20=>asn z<|nl<|hK20 _ _ _<|wb<|bK H fun o41 hC H=>?_
 refine wpc_mono (Q := fun e r ds w => match (generalizing := false) o41 with | (Sum.inl v32) => e = .ret ∧ ds = [] ∧ Has [(4, int .i64 v32)] r ∧ Hp G (bx g14 [slice A2 a1.Glyphs.length c3, slice A6 a1.Kerns.length c7] 25 :: L) w ∧ True | (Sum.inr _) => e = .exit 0 ∧ ds = [] ∧ Has [] r ∧ Hp G (bx g14 [slice A2 a1.Glyphs.length c3, slice A6 a1.Kerns.length c7] 25 :: L) w ∧ True) ?_ ?_
 refine wpc_loop fun I hLp=>?_
 refine formeref07_Glyph_l31.partial_correctness a1 a10 (fun v25 o => ∀ (r : Rg) (w : World), Has [(1, int .u8 a10), (2, pointer (some ⟨g14, 0, none⟩)), (5, int .i64 v25)] r → Hp G (bx g14 [slice A2 a1.Glyphs.length c3, slice A6 a1.Kerns.length c7] 25 :: L) w → o = o41 → I r [] w) ?_ 0 _ hC _ _ ⟨rfl, rfl, rfl, tv⟩ hI16 rfl
 intro _ ih v25 o H r wd44 hHas hI45 ho
 rw [ho] at H; clear ho
 rw [hHas.eq]; clear hHas
 refine hLp _ _ _<|sQ fun K46 hK47=>sr fun K48 hK49=>mv z<|fa fl25_0 z<|ld hI45 0 ag22 z z z<|q_len so22 z<|q_lss z z<|nl<|hK49 _ _ _<|dC (v25 < (a1.Glyphs.length : Int)) (fun h50=>?_) fun h50=>?_
 refine yK h50 H fun H=>wt (bY h50)<|ws<|hK47 _ _ _<|sQ fun K51 hK52=>wb<|sr fun K53 hK54=>fa fl25_0 z<|ld hI45 0 ag22 z z z<|mv z<|iK H fun⟨h55, h55'⟩H=>?_
 obtain ⟨ad56, cs57, hA58, hK59, hn60, hc61⟩ := Dat.get hD5 z_api_Glyph (v25) h55 h55'
 obtain ⟨rfl⟩ := open_api_Glyph hK59
 refine q_ia el22 z hA58 z h55 h55'<|q_fa fl103_0 z z<|q_lf hI45 ag5 z (gR.cel _ _ (hc61 0 _ z))<|mv z<|q_eql z z<|nl<|hK54 _ _ _<|dC (((a1.Glyphs.getD (Int.toNat v25) z_api_Glyph).Byte) = a10) (fun h62=>?_) fun h62=>?_
 refine yK h62 H fun H=>wt (bY h62)<|sr fun K63 hK64=>mv z<|asn z<|nl<|hK64 _ _ _<|wr<|?_
 cases H
 exact ⟨z, z, ⟨z, tv⟩, hI45, tv⟩
 exact nK h62 H fun H=>wf (bN h62)<|ws<|hK52 _ _ _<|wpc_region<|mv z<|q_add z z<|asn z<|nl<|ih _ _ H _ _ ⟨z, z, z, tv⟩ hI45 z
 refine nK h50 H fun H=>wf (bN h50)<|wx<|?_
 cases H
 exact ⟨z, z, trivial, hI45, tv⟩
 rcases o41 with v32 | _
 rintro e r ds wd35 ⟨rfl, rfl, hHas, hI36, _⟩
 rw [hHas.eq]; clear hHas
 refine have hI65:=Hp.pick 1 [] hI36 z;?_
 cases H
 exact rt ⟨_, _, z, z, z⟩ hI65
 rintro e r ds wd39 ⟨rfl, rfl, hHas, hI40, _⟩
 rw [hHas.eq]; clear hHas
 refine hK18 _ _ _<|sr fun K66 hK67=>asn z<|nl<|hK67 _ _ _<|wr<|have hI68:=Hp.pick 1 [] hI40 z;?_
 cases H
 exact rt ⟨_, _, z, z, z⟩ hI68
end Go.Proofs.YtaemgcpcfnbmdaaGreatDoor.LG
