/-
  The walks: each function computes its plain function: printed by a program out of the translation.
-/
import Derived.Test.YtoladeanenmepaaGreatDoorTy
import Derived.Test.YtoladeanenmepaaGreatDoorLa
set_option linter.unusedVariables false
set_option linter.unusedSimpArgs false
set_option maxRecDepth 100000
namespace Go.Proofs.YtoladeanenmepaaGreatDoor.LG
open Go Go.LG Go.RowKit Go.Value
set_option maxHeartbeats 20000000
open Go.Lib hiding add_plain
open Go.Shelf Go.Proofs
theorem text_Class_spec {a1 r1002 G L w} (H : text_Class a1 = some r1002) (hI : Hp G L w) :
    Calls Tryz.prog 26 [int .u8 a1].toArray w fun e w' => Hp G L w' ∧ e = .returned (int .i64 r1002) := by
 refine calls_intro (N := 37) Tryz.func26 z z (Nat.le_of_ble_eq_true z)<|?_
 unfold text_Class at H
 refine sr fun K2 hK3=>asn z<|nl<|hK3 _ _ _<|sQ fun K4 hK5=>wb<|sr fun K6 hK7=>mv z<|q_eql z z<|asn z<|nl<|hK7 _ _ _<|dC (a1 = 32) (fun h8=>?_) fun h8=>?_
 refine yK h8 H fun H=>wt (bY h8)<|sr fun K9 hK10=>asn z<|nl<|hK10 _ _ _<|wr<|?_
 cases H
 exact rt ⟨_, _, z, z, z⟩ hI
 refine nK h8 H fun H=>wf (bN h8)<|sr fun K11 hK12=>mv z<|q_eql z z<|asn z<|nl<|hK12 _ _ _<|dC (a1 = 126) (fun h13=>?_) fun h13=>?_
 refine yK h13 H fun H=>wt (bY h13)<|sr fun K14 hK15=>asn z<|nl<|hK15 _ _ _<|wr<|?_
 cases H
 exact rt ⟨_, _, z, z, z⟩ hI
 refine nK h13 H fun H=>wf (bN h13)<|sr fun K16 hK17=>mv z<|q_lss z z<|mv z<|bK H fun v18 hC H=>js 3 hI [(0, int .u8 a1), (15, bool v18)] ?_ fun _ wd21 hI22=>?_
 refine have H:=hC;dC (a1 < 32) (fun h24=>?_) fun h24=>?_
 refine yK h24 H fun H=>Sk 2 z z (bY h24) z<|pkt (bY h24) z<|nl<|?_
 cases H
 exact je ⟨z, z, tv⟩ hI
 refine nK h24 H fun H=>mv (hw:=gY z z z (bN h24)) z<|q_gtr (hw:=gY z z z (bN h24)) z z<|pkf (bN h24) z<|nl<|?_
 cases H
 exact je ⟨z, z, tv⟩ hI
 refine asn z<|nl<|hK17 _ _ _<|dC (v18 = true) (fun h25=>?_) fun h25=>?_
 refine yK h25 H fun H=>wt (vY h25)<|sr fun K26 hK27=>asn z<|nl<|hK27 _ _ _<|wr<|?_
 cases H
 exact rt ⟨_, _, z, z, z⟩ hI22
 refine nK h25 H fun H=>wf (vN h25)<|sr fun K28 hK29=>mv z<|q_leq z z<|mv z<|bK H fun v30 hC H=>js 3 hI22 [(0, int .u8 a1), (22, bool v30)] ?_ fun _ wd33 hI34=>?_
 refine have H:=hC;dC (97 ≤ a1) (fun h36=>?_) fun h36=>?_
 refine yK h36 H fun H=>mv (hw:=gY z z z (bY h36)) z<|q_leq (hw:=gY z z z (bY h36)) z z<|pkt (bY h36) z<|nl<|?_
 cases H
 exact je ⟨z, z, tv⟩ hI22
 refine nK h36 H fun H=>Sk 2 z z (bN h36) z<|pkf (bN h36) z<|nl<|?_
 cases H
 exact je ⟨z, z, tv⟩ hI22
 refine asn z<|nl<|hK29 _ _ _<|dC (v30 = true) (fun h37=>?_) fun h37=>?_
 refine yK h37 H fun H=>wt (vY h37)<|sr fun K38 hK39=>asn z<|nl<|hK39 _ _ _<|wr<|?_
 cases H
 exact rt ⟨_, _, z, z, z⟩ hI34
 refine nK h37 H fun H=>wf (vN h37)<|sr fun K40 hK41=>mv z<|q_leq z z<|mv z<|bK H fun v42 hC H=>js 3 hI34 [(0, int .u8 a1), (29, bool v42)] ?_ fun _ wd45 hI46=>?_
 refine have H:=hC;dC (65 ≤ a1) (fun h48=>?_) fun h48=>?_
 refine yK h48 H fun H=>mv (hw:=gY z z z (bY h48)) z<|q_leq (hw:=gY z z z (bY h48)) z z<|pkt (bY h48) z<|nl<|?_
 cases H
 exact je ⟨z, z, tv⟩ hI34
 refine nK h48 H fun H=>Sk 2 z z (bN h48) z<|pkf (bN h48) z<|nl<|?_
 cases H
 exact je ⟨z, z, tv⟩ hI34
 refine asn z<|nl<|hK41 _ _ _<|dC (v42 = true) (fun h49=>?_) fun h49=>?_
 refine yK h49 H fun H=>wt (vY h49)<|sr fun K50 hK51=>asn z<|nl<|hK51 _ _ _<|wr<|?_
 cases H
 exact rt ⟨_, _, z, z, z⟩ hI46
 refine nK h49 H fun H=>wf (vN h49)<|sr fun K52 hK53=>mv z<|q_leq z z<|mv z<|bK H fun v54 hC H=>js 3 hI46 [(36, bool v54)] ?_ fun _ wd57 hI58=>?_
 refine have H:=hC;dC (48 ≤ a1) (fun h60=>?_) fun h60=>?_
 refine yK h60 H fun H=>mv (hw:=gY z z z (bY h60)) z<|q_leq (hw:=gY z z z (bY h60)) z z<|pkt (bY h60) z<|nl<|?_
 cases H
 exact je ⟨z, tv⟩ hI46
 refine nK h60 H fun H=>Sk 2 z z (bN h60) z<|pkf (bN h60) z<|nl<|?_
 cases H
 exact je ⟨z, tv⟩ hI46
 refine asn z<|nl<|hK53 _ _ _<|dC (v54 = true) (fun h61=>?_) fun h61=>?_
 refine yK h61 H fun H=>wt (vY h61)<|sr fun K62 hK63=>asn z<|nl<|hK63 _ _ _<|wr<|?_
 cases H
 exact rt ⟨_, _, z, z, z⟩ hI58
 refine nK h61 H fun H=>wf (vN h61)<|ws<|hK5 _ _ _<|sr fun K64 hK65=>asn z<|nl<|hK65 _ _ _<|wr<|?_
 cases H
 exact rt ⟨_, _, z, z, z⟩ hI58
theorem text_Valid_spec {a1 r1002 G L w} (H : text_Valid a1 = some r1002) (hI : Hp G L w) :
    Calls Tryz.prog 14 [string a1].toArray w fun e w' => Hp G L w' ∧ e = .returned (bool r1002) := by
 refine calls_intro (N := 21) Tryz.func14 z z (Nat.le_of_ble_eq_true z)<|?_
 unfold text_Valid at H
 refine sr fun K2 hK3=>asn z<|nl<|hK3 _ _ _<|sQ fun K4 hK5=>sr fun K6 hK7=>mv z<|q_rgs hI so9 z fun g9 wd10 hI11=>nl<|hK7 _ _ _<|wb<|bK H fun o33 hC H=>?_
 refine wpc_mono (Q := fun e r ds w => match (generalizing := false) o33 with | (Sum.inl v23) => e = .ret ∧ ds = [] ∧ Has [(2, bool false)] r ∧ Hp G (ob g9 (Obj.stringIter a1 v23) :: L) w ∧ True | (Sum.inr v24) => e = .exit 0 ∧ ds = [] ∧ Has [(0, string a1)] r ∧ Hp G (ob g9 (Obj.stringIter a1 v24) :: L) w ∧ True) ?_ ?_
 refine wpc_loop fun I hLp=>?_
 refine text_Valid_l22.partial_correctness a1 (fun v16 o => ∀ (r : Rg) (w : World), Has [(0, string a1), (6, pointer (some ⟨g9, 0, none⟩))] r → Hp G (ob g9 (Obj.stringIter a1 v16) :: L) w → o = o33 → I r [] w) ?_ 0 _ hC _ _ ⟨rfl, rfl, tv⟩ hI11 rfl
 intro _ ih v16 o H r wd36 hHas hI37 ho
 rw [ho] at H; clear ho
 rw [hHas.eq]; clear hHas
 refine hLp _ _ _<|sr fun K38 hK39=>dC (v16 < a1.size) (fun h40=>?_) fun h40=>?_
 refine yK h40 H fun H=>q_nxy hI37 0 z z h40 fun wd41 hI42=>exk z z<|nl<|hK39 _ _ _<|sQ fun K43 hK44=>wt z<|ws<|hK44 _ _ _<|wb<|sr fun K45 hK46=>exk z z<|asn z<|nl<|?_
 refine hK46 _ _ _<|sr fun K47 hK48=>mv z<|q_gtr z z<|mv z<|bK H fun v49 hC H=>js 5 hI42 [(0, string a1), (6, pointer (some ⟨g9, 0, none⟩)), (17, bool v49)] ?_ fun _ wd52 hI53=>?_
 refine have H:=hC;dC (126 < ((Utf8.decode a1 v16).1 : Int)) (fun h55=>?_) fun h55=>?_
 refine yK h55 H fun H=>Sk 4 z z (bY h55) z<|pkt (bY h55) z<|nl<|?_
 cases H
 exact je ⟨z, z, z, tv⟩ hI42
 refine nK h55 H fun H=>mv (hw:=gY z z z (bN h55)) z<|q_cvi (hw:=gY z z z (bN h55)) ik21 ik5 z<|bK H fun y61 hy56 H=>cv (hw:=gY z z z (bN h55)) bo26 (text_Class_spec hy56 hI42) z z fun wd59 hI60=>q_eql (hw:=gY z z z (bN h55)) z z<|pkf (bN h55) z<|nl<|?_
 cases H
 exact je ⟨z, z, z, tv⟩ hI60
 refine nl<|hK48 _ _ _<|dC (v49 = true) (fun h62=>?_) fun h62=>?_
 refine yK h62 H fun H=>wt (vY h62)<|sr fun K63 hK64=>asn z<|nl<|hK64 _ _ _<|wr<|?_
 cases H
 exact ⟨z, z, ⟨z, tv⟩, hI53, tv⟩
 exact nK h62 H fun H=>wf (vN h62)<|ws<|ih _ _ H _ _ ⟨z, z, tv⟩ hI53 z
 refine nK h40 H fun H=>q_nxn hI37 0 z z h40<|exk z z<|nl<|hK39 _ _ _<|sQ fun K65 hK66=>wf z<|wx<|?_
 cases H
 exact ⟨z, z, ⟨z, tv⟩, hI37, tv⟩
 rcases o33 with v23 | v24
 rintro e r ds wd27 ⟨rfl, rfl, hHas, hI28, _⟩
 rw [hHas.eq]; clear hHas
 refine have hI67:=Hp.pick 1 [] hI28 z;?_
 cases H
 exact rt ⟨_, _, z, z, z⟩ hI67
 rintro e r ds wd31 ⟨rfl, rfl, hHas, hI32, _⟩
 rw [hHas.eq]; clear hHas
 refine hK5 _ _ _<|sr fun K68 hK69=>mv z<|q_lens so9 z<|q_leq z z<|asn z<|nl<|hK69 _ _ _<|wr<|have hI70:=Hp.pick 1 [] hI32 z;?_
 cases H
 exact rt ⟨_, _, z, z, z⟩ hI70
theorem refs_parts_spec {a1 r1004 G L w} (H : refs_parts a1 = some r1004) (hI : Hp G L w) :
    Calls Tryz.prog 15 [string a1].toArray w fun e w' => ∃ (g1003 : Nat), Hp G (bx g1003 [string r1004] 9 :: L) w' ∧ e = .returned (func (.func 27) [].toArray [pointer (some ⟨g1003, 0, none⟩)].toArray) := by
 refine calls_intro (N := 4) Tryz.func15 z z (Nat.le_of_ble_eq_true z)<|?_
 unfold refs_parts at H
 refine sr fun K2 hK3=>bxk hI z z fun g5 wd6 hI7=>asn z<|nl<|hK3 _ _ _<|sr fun K8 hK9=>q_fn (vs := []) (us := [pointer (some ⟨g5, 0, none⟩)]) z z<|asn z<|nl<|hK9 _ _ _<|wr<|?_
 cases H
 exact ⟨.inr z, z, _, ⟨_, _, z, z, z⟩, g5, hI7, z⟩
theorem strings_IndexByte_spec {a0 a1 r0 G L w} (H : strings_IndexByte a0 a1 = some r0) (hI : Hp G L w) :
    Calls Tryz.prog 55 [string a0, int .u8 a1].toArray w fun e w' => Hp G L w' ∧ e = .returned (int .i64 r0) := by
 refine low_of<|?_
 cases H
 exact of_same hI (Any.strings_IndexByte Tryz.l137 a0 a1 w)
theorem strconv_ParseUint_spec {a0 a1 a2 r0 r1 G L w} (H : strconv_ParseUint a0 a1 a2 = some (r0, r1)) (hI : Hp G L w) (hgl : Gl G) :
    Calls Tryz.prog 56 [string a0, int .i64 a1, int .i64 a2].toArray w fun e w' => ∃ (x : Value), Hp G L w' ∧ ErrIs x r1 ∧ e = .returned (tuple [int .u64 r0, x].toArray) := by
 unfold strconv_ParseUint at H
 obtain ⟨⟨h1, h2, hs⟩, H2⟩ := iS H
 rw [if_pos ⟨h1, h2, hs⟩] at H
 clear H2
 subst h1; subst h2
 generalize hp : Lib.parseUintB 32 a0.data.toList = pe at H
 rcases pe with u | _ | _
 replace H : some ((u : Int), false) = some (r0, r1) := H
 cases H
 refine (Any.strconv_ParseUint_10_at32_ok Tryz.lPu14 a0 (by omega) u hp w).mono ?_
 rintro e w' ⟨rfl, hw⟩
 refine ⟨_, ?_, .inl ⟨rfl, rfl⟩, rfl⟩
 rcases hw with rfl | rfl
 exact hI
 exact hI.below (Lib.bytesWorld_below _ _ _)
 replace H : some ((0 : Int), true) = some (r0, r1) := H
 cases H
 obtain ⟨x, hv, hx⟩ := (hgl.get hI).errsyntax
 refine (Any.strconv_ParseUint_10_at32_syntax Tryz.lPu14 a0 hs hp x w hv hx).mono<|?_
 rintro e w' ⟨N, rfl, _, _, hb⟩
 exact ⟨_, hI.below hb, .inr ⟨z, _, _, z⟩, z⟩
 replace H : (none : Option (Int × Bool)) = some (r0, r1) := H
 cases H
theorem refs_reference_spec {a1 r1002 r1003 G L w} (H : refs_reference a1 = some (r1002, r1003)) (hI : Hp G L w) (hgl : Gl G) :
    Calls Tryz.prog 28 [string a1].toArray w fun e w' => Hp G L w' ∧ e = .returned (tuple [int .i64 r1002, int .i64 r1003].toArray) := by
 refine calls_intro (N := 46) Tryz.func28 z z (Nat.le_of_ble_eq_true z)<|?_
 unfold refs_reference at H
 refine sr fun K2 hK3=>asn z<|asn z<|nl<|hK3 _ _ _<|sQ fun K4 hK5=>sr fun K6 hK7=>mv z<|q_str_eql z z<|mv z<|bK H fun v8 hC H=>js 4 hI [(0, string a1), (13, bool v8)] ?_ fun _ wd11 hI12=>?_
 refine have H:=hC;dC (a1 = (⟨#[]⟩ : ByteArray)) (fun h14=>?_) fun h14=>?_
 refine yK h14 H fun H=>Sk 3 z z (bY h14) z<|pkt (bY h14) z<|nl<|?_
 cases H
 exact je ⟨z, z, tv⟩ hI
 refine nK h14 H fun H=>mv (hw:=gY z z z (bN h14)) z<|iK H fun⟨h15, h15'⟩H=>q_is (hw:=gY z z z (bN h14)) so9 z z h15 h15' z<|q_neq (hw:=gY z z z (bN h14)) z z<|pkf (bN h14) z<|nl<|?_
 cases H
 exact je ⟨z, z, tv⟩ hI
 refine nl<|hK7 _ _ _<|dC (v8 = true) (fun h16=>?_) fun h16=>?_
 refine yK h16 H fun H=>wt (vY h16)<|sr fun K17 hK18=>asn z<|asn z<|nl<|hK18 _ _ _<|wr<|?_
 cases H
 exact rt ⟨_, _, z, z, ⟨_, _, z, z, z⟩⟩ hI12
 refine nK h16 H fun H=>wf (vN h16)<|ws<|hK5 _ _ _<|sr fun K19 hK20=>mv z<|iK H fun⟨h21, h22⟩H=>q_ss (l := 1) (h := (a1.size : Int)) so9 z (.inr ⟨_, z, z⟩) (.inl ⟨z, z⟩) h21 h22 (Int.le_refl _)<|bK H fun y29 hy24 H=>cv bo55 (strings_IndexByte_spec hy24 hI12) z z fun wd27 hI28=>asn z<|nl<|hK20 _ _ _<|sQ fun K30 hK31=>?_
 refine sr fun K32 hK33=>mv z<|q_lss z z<|mv z<|bK H fun v34 hC H=>js 3 hI28 [(0, string a1), (4, int .i64 y29), (22, bool v34)] ?_ fun _ wd37 hI38=>?_
 refine have H:=hC;dC (y29 < 1) (fun h40=>?_) fun h40=>?_
 refine yK h40 H fun H=>Sk 2 z z (bY h40) z<|pkt (bY h40) z<|nl<|?_
 cases H
 exact je ⟨z, z, z, tv⟩ hI28
 refine nK h40 H fun H=>mv (hw:=gY z z z (bN h40)) z<|q_gtr (hw:=gY z z z (bN h40)) z z<|pkf (bN h40) z<|nl<|?_
 cases H
 exact je ⟨z, z, z, tv⟩ hI28
 refine mv z<|bK H fun v41 hC H=>js 4 hI38 [(0, string a1), (4, int .i64 y29), (27, bool v41)] ?_ fun _ wd44 hI45=>?_
 refine have H:=hC;dC (v34 = true) (fun h47=>?_) fun h47=>?_
 refine yK h47 H fun H=>Sk 3 z z (vY h47) z<|pkt (vY h47) z<|nl<|?_
 cases H
 exact je ⟨z, z, z, tv⟩ hI38
 refine nK h47 H fun H=>mv (hw:=gY z z z (vN h47)) z<|iK H fun⟨h48, h48'⟩H=>q_is (hw:=gY z z z (vN h47)) so9 z z h48 h48' z<|q_lss (hw:=gY z z z (vN h47)) z z<|pkf (vN h47) z<|nl<|?_
 cases H
 exact je ⟨z, z, z, tv⟩ hI38
 refine nl<|hK33 _ _ _<|dC (v41 = true) (fun h49=>?_) fun h49=>?_
 refine yK h49 H fun H=>wt (vY h49)<|sr fun K50 hK51=>asn z<|asn z<|nl<|hK51 _ _ _<|wr<|?_
 cases H
 exact rt ⟨_, _, z, z, ⟨_, _, z, z, z⟩⟩ hI45
 refine nK h49 H fun H=>wf (vN h49)<|ws<|hK31 _ _ _<|sr fun K52 hK53=>mv z<|mv z<|q_add z z<|iK H fun⟨h54, h55, h56⟩H=>q_ss (l := 1) (h := w64 (1 + y29)) so9 z (.inr ⟨_, z, z⟩) (.inr ⟨_, z, z⟩) h54 h55 h56<|bK2 H fun y62 y63 hy57 H=>q_cv (vs := [string (sub a1 1 (w64 (1 + y29))), int .i64 10, int .i64 32]) bo56 z z (strconv_ParseUint_spec hy57 hI45 (hgl.mono gR))<|?_
 rintro _ wd60 ⟨x64, hI61, he65, rfl⟩
 refine ⟨_, rfl, ?_⟩
 refine mv z<|exk z z<|q_exE (v := x64) z z<|asn z<|q_asE (v := x64) z<|nl<|hK53 _ _ _<|sQ fun K66 hK67=>sr fun K68 hK69=>q_mvE (v := x64) z<|q_err_neq if77 he65 z<|mv z<|bK H fun v70 hC H=>js 3 hI61 [(4, int .i64 y29), (5, int .u64 y62), (41, bool v70)] ?_ fun _ wd73 hI74=>?_
 refine have H:=hC;dC (y63 = true) (fun h76=>?_) fun h76=>?_
 refine yK h76 H fun H=>Sk 2 z z (vY h76) z<|pkt (vY h76) z<|nl<|?_
 cases H
 exact je ⟨z, z, z, tv⟩ hI61
 refine nK h76 H fun H=>mv (hw:=gY z z z (vN h76)) z<|q_gtr (hw:=gY z z z (vN h76)) z z<|pkf (vN h76) z<|nl<|?_
 cases H
 exact je ⟨z, z, z, tv⟩ hI61
 refine nl<|hK69 _ _ _<|dC (v70 = true) (fun h77=>?_) fun h77=>?_
 refine yK h77 H fun H=>wt (vY h77)<|sr fun K78 hK79=>asn z<|asn z<|nl<|hK79 _ _ _<|wr<|?_
 cases H
 exact rt ⟨_, _, z, z, ⟨_, _, z, z, z⟩⟩ hI74
 refine nK h77 H fun H=>wf (vN h77)<|ws<|hK67 _ _ _<|sr fun K80 hK81=>mv z<|q_cvi ik122 ik3 z<|mv z<|q_add z z<|asn z<|asn z<|nl<|hK81 _ _ _<|wr<|?_
 cases H
 exact rt ⟨_, _, z, z, ⟨_, _, z, z, z⟩⟩ hI74
theorem refs_parts_1_k1_spec {σ : Type} {St : σ → Gh → List Itm → Prop} {yl} {φ : σ → (ByteArray × Int) → Option (σ × Bool)} {sy : σ} {a3 g2 q1004} {ry : σ} {G T w} (H : refs_parts_1_k1 φ sy a3 = some (q1004, ry)) (hI : Hp G (bx g2 [string a3] 9 :: T) w) (hy : Yl Tryz.prog φ (encP (enc1 Kd.str) (enc1 (Kd.int .i64))) St yl) (hS : St sy G T) (hgl : Gl G) :
    Calls Tryz.prog 27 [func (.yield yl) #[] #[], pointer (some ⟨g2, 0, none⟩)].toArray w fun e w' => ∃ (T' : List Itm) (G' : Gh), G ≤ G' ∧ Hp G' (bx g2 [string q1004] 9 :: T') w' ∧ St ry G' T' ∧ e = .returned (tuple [].toArray) := by
 refine calls_intro (N := 24) Tryz.func27 z z (Nat.le_of_ble_eq_true z)<|?_
 unfold refs_parts_1_k1 at H
 refine wb<|bK H fun o37 hC H=>?_
 refine wpc_mono (Q := fun e r ds w => match (generalizing := false) o37 with | (Sum.inl (v21, v23)) => e = .ret ∧ ∃ (T22 : List Itm) (G29 : Gh), ds = [] ∧ G ≤ G29 ∧ Has [] r ∧ Hp G29 (bx g2 [string v21] 9 :: T22) w ∧ St v23 G29 T22 ∧ True | (Sum.inr (v25, v27)) => e = .exit 0 ∧ ∃ (T26 : List Itm) (G33 : Gh), ds = [] ∧ G ≤ G33 ∧ Has [] r ∧ Hp G33 (bx g2 [string v25] 9 :: T26) w ∧ St v27 G33 T26 ∧ True) ?_ ?_
 refine wpc_loop fun I hLp=>?_
 refine refs_parts_1_k1_l20.partial_correctness φ (fun v8 v10 o => ∀ (T9 : List Itm) (G38 : Gh) (r : Rg) (w : World), G ≤ G38 → Has [(0, func (.yield yl) #[] #[]), (1, pointer (some ⟨g2, 0, none⟩))] r → Hp G38 (bx g2 [string v8] 9 :: T9) w → St v10 G38 T9 → o = o37 → I r [] w) ?_ a3 sy _ hC T _ _ _ gR ⟨rfl, rfl, tv⟩ hI hS rfl
 intro _ ih v8 v10 o H T9 G38 r wd40 hG39 hHas hI41 hS11 ho
 rw [ho] at H; clear ho
 rw [hHas.eq]; clear hHas
 refine hLp _ _ _<|sQ fun K42 hK43=>sr fun K44 hK45=>ld hI41 0 ag9 z z z<|q_str_neq z z<|nl<|hK45 _ _ _<|dC (¬ v8 = (⟨#[]⟩ : ByteArray)) (fun h46=>?_) fun h46=>?_
 refine yK h46 H fun H=>wt (bY h46)<|ws<|hK43 _ _ _<|wb<|sr fun K47 hK48=>ld hI41 0 ag9 z z z<|bK2 H fun y54 y55 hy49 H=>cv bo28 (refs_reference_spec hy49 hI41 (hgl.mono hG39)) z z fun wd52 hI53=>mv z<|exk z z<|exk z z<|asn z<|asn z<|?_
 refine nl<|hK48 _ _ _<|sr fun K56 hK57=>mv z<|q_max z z<|asn z<|nl<|hK57 _ _ _<|sQ fun K58 hK59=>sr fun K60 hK61=>mv z<|ld hI53 0 ag9 z z z<|mv z<|iK H fun⟨h63, h64⟩H=>?_
 refine q_ss (l := 0) (h := max y55 1) so9 z (.inl ⟨z, z⟩) (.inr ⟨_, z, z⟩) (Int.le_refl 0) h63 h64<|mv z<|bK2 H fun s65 b66 hx67 H=>q_yl hy [bx g2 [string v8] 9] hI53 hS11 z z ⟨_, _, z, ⟨_, z, z⟩, ⟨_, z, z⟩⟩ hx67 fun wd68 G69 T70 hG71 hS72 hI73=>q_not z<|nl<|hK61 _ _ _<|dC ((!b66) = true) (fun h74=>?_) fun h74=>?_
 refine yK h74 H fun H=>wt (vY h74)<|wr<|?_
 cases H
 exact ⟨z, T70, _, z, (gT hG39 hG71), trivial, hI73, hS72, tv⟩
 exact nK h74 H fun H=>wf (vN h74)<|ws<|hK59 _ _ _<|wpc_region<|ld hI73 0 ag9 z z z<|mv z<|iK H fun⟨h75, h76⟩H=>q_ss (l := max y55 1) (h := (v8.size : Int)) so9 z (.inr ⟨_, z, z⟩) (.inl ⟨z, z⟩) h75 h76 (Int.le_refl _)<|stk hI73 0 ag9 z z z z z z z fun wd78 hI79=>nl<|ih _ _ _ H T70 _ _ _ (gT hG39 hG71) ⟨z, z, tv⟩ hI79 hS72 z
 refine nK h46 H fun H=>wf (bN h46)<|wx<|?_
 cases H
 exact ⟨z, T9, _, z, hG39, trivial, hI41, hS11, tv⟩
 rcases o37 with ⟨v21, v23⟩ | ⟨v25, v27⟩
 rintro e r ds wd31 ⟨rfl, T22, G29, rfl, hG30, hHas, hI32, hS24, _⟩
 rw [hHas.eq]; clear hHas
 cases H
 exact ⟨.inr z, z, _, z, T22, _, hG30, hI32, hS24, z⟩
 rintro e r ds wd35 ⟨rfl, T26, G33, rfl, hG34, hHas, hI36, hS28, _⟩
 rw [hHas.eq]; clear hHas
 cases H
 exact ⟨.inl z, z, _, z, T26, _, hG34, hI36, hS28, z⟩
theorem refs_Refs_spec {a1 r1002 r1009 G L w} (H : refs_Refs a1 = some (r1002, r1009)) (hI : Hp G L w) (hgl : Gl G) :
    Calls Tryz.prog 7 [string a1].toArray w fun e w' => ∃ (A1003 : Option Addr) (c1004 : Nat) (G' : Gh), G ≤ G' ∧ Hp G' (tk (slice A1003 r1002.length c1004) 1 3 :: L) w' ∧ r1002.length ≤ c1004 ∧ Dat (Kd.int .i64) G' A1003 r1002 ∧ Own A1003 c1004 ∧ e = .returned (tuple [slice A1003 r1002.length c1004, int .i64 r1009].toArray) := by
 refine calls_intro_m (N := 21) Tryz.func7 z z (Nat.le_of_ble_eq_true z)<|?_
 unfold refs_Refs at H
 refine sr fun K2 hK3=>asn z<|asn z<|nl<|hK3 _ _ _<|sQ fun K4 hK5=>sr fun K6 hK7=>mv z<|bK H fun y13 hy8 H=>cv bo14 (text_Valid_spec hy8 hI) z z fun wd11 hI12=>q_not z<|nl<|hK7 _ _ _<|dC ((!y13) = true) (fun h14=>?_) fun h14=>?_
 refine yK h14 H fun H=>wt (vY h14)<|sr fun K15 hK16=>asn z<|asn z<|nl<|hK16 _ _ _<|wr<|?_
 refine ⟨.inr rfl, ([] : List Nat), _, _, rfl, Hp.marks (K := []) hI12, fun wd18 hI17 => ?_⟩
 refine have hI19:=Hp.emp hI17;?_
 cases H
 exact ⟨_, ⟨_, _, z, z, ⟨_, _, z, z, z⟩⟩, none, 0, _, gR, hI19, (show ([] : List Int).length ≤ 0 from Nat.le_refl 0), (Dat.nil _ _ _), Own.nil, z⟩
 refine nK h14 H fun H=>wf (vN h14)<|ws<|hK5 _ _ _<|sr fun K21 hK22=>q_alloc hI12 ze25 fun g24 wd25 hI26=>nl<|hK22 _ _ _<|sQ fun K27 hK28=>sr fun K29 hK30=>mv z<|bK H fun y38 hy31 H=>q_cv (vs := [string a1]) bo15 z z (refs_parts_spec hy31 hI26)<|?_
 rintro _ wd34 ⟨g37, hI35, rfl⟩
 refine ⟨_, rfl, ?_⟩
 refine nl<|hK30 _ _ _<|wb<|have hI39:=Hp.emp hI35;have hI58:=Hp.pick 3 [1, 2, 0] hI39 z;bK3 H fun y110 v42 jo61 hr100 H=>wpc_range hI58 bo27 z fun fn tmps gl gd41 wd121 hA97 hI98=>?_
 have hY99 : Yl Tryz.prog (rnd (fun (u : (List Int)) (x : ByteArray × Int) => refs_Refs_r59 u x.1 x.2)) (encP (enc1 Kd.str) (enc1 (Kd.int .i64))) _ gl := yl_intro (pp := [12, 13]) (gdd := gd41) hI98 (fun (u : (List Int)) (x : ByteArray × Int) => refs_Refs_r59 u x.1 x.2) [] (fun (u : (List Int)) (G' : Gh) (K : List Itm) => ∃ (A43 : Option Addr) (c44 : Nat) (_ : G ≤ G'), K = bx g24 [slice A43 u.length c44] 25 :: tk (slice A43 u.length c44) 1 3 :: (List.map mkI (gd41 :: ([] : List Nat)) ++ L) ∧ u.length ≤ c44 ∧ Dat (Kd.int .i64) G' A43 u ∧ Own A43 c44 ∧ True) hA97 (fun _ _ _ h => (fun h => encP_len (fun h => enc1_len h) (fun h => enc1_len h) h) h) (fun hG' ⟨A43, c44, h0', hK', hl45, hD46, ho47, _⟩ => ⟨A43, c44, gT h0' hG', hK', hl45, (Dat.mono hG' hD46), ho47, tv⟩) (by
 rintro Rd Bs v42 u' ⟨x67, x69⟩ jo' G63 K M wd65 vs ⟨A43, c44, hG64, rfl, hl45, hD46, ho47, _⟩ ⟨_, _, rfl, ⟨_, rfl, hv68⟩, ⟨_, rfl, hv70⟩⟩ H hI71
 cases hv68
 cases hv70
 replace H : refs_Refs_r59 v42 x67 x69 = some (u', jo') := H
 unfold refs_Refs_r59 at H
 refine wpc_region<|asn z<|nl<|?_
 refine ⟨rfl, rfl, _, _, gR, hI71, fun wd73 hI72 => ?_⟩
 refine wb<|sr fun K74 hK75=>mv z<|q_gtr z z<|nl<|hK75 _ _ _<|dC (0 < x69) (fun h76=>?_) fun h76=>?_
 refine yK h76 H fun H=>wt (bY h76)<|wpc_region<|ld hI72 1 ag25 z z z<|mv z<|?_
 refine q_bs hI72 (vs := [(0, int .i64 x69)]) (cs := [int .i64 x69]) el25 ze3 rfl (by decide) rfl (by kernel_rfl) (fun g78 wd79 hI80 => ?_)
 refine iK H fun h90 H=>?_
 refine q_app (xs := v42) (ys := [x69]) (Kd.int .i64) hI80 3 el25 ze3 rfl rfl rfl rfl ho47 hl45 hD46 (src_bx hI80 0 so25 rfl rfl) ⟨[int .i64 x69], _, rfl, rfl, rfl⟩ rfl (by simp only [List.length_cons, List.length_nil]; omega) (by simp only [List.length_cons, List.length_nil]; omega) (fun A81 c82 G83 wd84 hG85 ho86 hl87 hD88 hI89 => ?_)
 refine stk hI89 2 ag25 z z z z z z z fun wd91 hI92=>nl<|have hI96:=Hp.pick 4 [1, 2, 3] hI92 z;?_
 cases H
 exact ⟨z, _, _, hG85, ⟨A81, c82, (gT hG64 hG85), z, hl87, hD88, ho86, tv⟩, hI96⟩
 refine nK h76 H fun H=>wf (bN h76)<|ws<|?_
 cases H
 exact ⟨z, _, _, gR, ⟨A43, c44, hG64, z, hl45, hD46, ho47, tv⟩, hI72⟩)
 refine have hI122:=Hp.sink (A := [bx g37 [string y38] 9]) (K := [bx g24 [slice none 0 0] 25, tk (slice none 0 0) 1 3]) hI98;(refs_parts_1_k1_spec (sy := (([] : List Int), none)) hr100 hI122 hY99 ⟨_, z, none, 0, Gh.le_refl _, z, (show ([] : List Int).length ≤ 0 from Nat.le_refl 0), (Dat.nil _ _ _), Own.nil, tv⟩ (hgl.mono gR)).mono<|?_
 rintro _ wd103 ⟨T107, G101, hG1020, hI104, ⟨K, rfl, A43, c44, hG102, rfl, hl45, hD46, ho47, _⟩, rfl⟩
 refine have hH109:=Hp.front hI104 1 z;?_
 rcases jo61 with _ | j
 refine ⟨_, rfl, LoopState.ready, none, G101, _, (fun h => nomatch h), hH109, fun wd105 hI106 => ?_⟩
 refine hK28 _ _ _<|sr fun K115 hK116=>ld hI106 1 ag25 z z z<|asn z<|asn z<|nl<|hK116 _ _ _<|wr<|?_
 refine ⟨.inr rfl, (gd41 :: ([] : List Nat)), _, _, rfl, Hp.marks (K := [bx g37 [string y110] 9, bx g24 [slice A43 v42.length c44] 25, tk (slice A43 v42.length c44) 1 3]) hI106, fun wd118 hI117 => ?_⟩
 refine have hI120:=Hp.pick 3 [2] hI117 z;?_
 cases H
 exact ⟨_, ⟨_, _, z, z, ⟨_, _, z, z, z⟩⟩, A43, c44, _, hG102, hI120, hl45, hD46, ho47, z⟩
 cases H
theorem refs_Fill_1_spec {a1 A2 c3 r1006 G L w} (H : refs_Fill_1 a1 = some r1006) (hI : Hp G L w) (hl4 : a1.Slices.length ≤ c3) (hD5 : Dat k_api_Slice G A2 a1.Slices) :
    Calls Tryz.prog 16 [agg [int .i64 a1.Number, slice A2 a1.Slices.length c3].toArray].toArray w fun e w' => Hp G L w' ∧ e = .returned (bool r1006) := by
 refine calls_intro (N := 11) Tryz.func16 z z (Nat.le_of_ble_eq_true z)<|?_
 unfold refs_Fill_1 at H
 refine sr fun K6 hK7=>bxk hI z z fun g9 wd10 hI11=>asn z<|nl<|hK7 _ _ _<|sr fun K12 hK13=>fa fl40_0 z<|ld hI11 0 ag3 z z z<|q_lss z z<|mv z<|bK H fun v14 hC H=>js 4 hI11 [(10, bool v14)] ?_ fun _ wd17 hI18=>?_
 refine have H:=hC;dC (a1.Number < 1) (fun h20=>?_) fun h20=>?_
 refine yK h20 H fun H=>Sk 3 z z (bY h20) z<|pkt (bY h20) z<|nl<|?_
 cases H
 exact je ⟨z, tv⟩ hI11
 refine nK h20 H fun H=>fa (hw:=gY z z z (bN h20)) fl40_0 z<|ld (hw:=gY z z z (bN h20)) hI11 0 ag3 z z z<|q_gtr (hw:=gY z z z (bN h20)) z z<|pkf (bN h20) z<|nl<|?_
 cases H
 exact je ⟨z, tv⟩ hI11
 refine asn z<|nl<|hK13 _ _ _<|wr<|have hI21:=Hp.pick 1 [] hI18 z;?_
 cases H
 exact rt ⟨_, _, z, z, z⟩ hI21
theorem slices_IndexFunc_api_Page_k1_spec {a1 A2 c3 r1006 G L w} (H : slices_IndexFunc_api_Page_k1 a1 = some r1006) (hI : Hp G L w) (hl4 : a1.length ≤ c3) (hD5 : Dat k_api_Page G A2 a1) :
    Calls Tryz.prog 29 [slice A2 a1.length c3, func (.func 16) [].toArray [].toArray].toArray w fun e w' => Hp G L w' ∧ e = .returned (int .i64 r1006) := by
 refine calls_intro (N := 19) Tryz.func29 z z (Nat.le_of_ble_eq_true z)<|?_
 unfold slices_IndexFunc_api_Page_k1 at H
 refine sr fun K6 hK7=>asn z<|nl<|hK7 _ _ _<|sQ fun K8 hK9=>sr fun K10 hK11=>mv z<|q_len so22 z<|mv z<|nl<|hK11 _ _ _<|wb<|bK H fun o32 hC H=>wpc_mono (Q := fun e r ds w => match (generalizing := false) o32 with | (Sum.inl v23) => e = .ret ∧ ds = [] ∧ Has [(4, int .i64 v23)] r ∧ Hp G (L) w ∧ True | (Sum.inr _) => e = .exit 0 ∧ ds = [] ∧ Has [] r ∧ Hp G (L) w ∧ True) ?_ ?_
 refine wpc_loop fun I hLp=>?_
 refine slices_IndexFunc_api_Page_k1_l22.partial_correctness a1 (fun v16 o => ∀ (r : Rg) (w : World), Has [(0, slice A2 a1.length c3), (1, func (.func 16) [].toArray [].toArray), (7, int .i64 (a1.length : Int)), (8, int .i64 v16)] r → Hp G (L) w → o = o32 → I r [] w) ?_ 0 _ hC _ _ ⟨rfl, rfl, rfl, rfl, tv⟩ hI rfl
 intro _ ih v16 o H r wd35 hHas hI36 ho
 rw [ho] at H; clear ho
 rw [hHas.eq]; clear hHas
 refine hLp _ _ _<|sr fun K37 hK38=>q_lss z z<|nl<|hK38 _ _ _<|sQ fun K39 hK40=>dC (v16 < (a1.length : Int)) (fun h41=>?_) fun h41=>?_
 refine yK h41 H fun H=>wt (bY h41)<|ws<|hK40 _ _ _<|sQ fun K42 hK43=>wb<|sr fun K44 hK45=>mv z<|asn z<|nl<|hK45 _ _ _<|sr fun K46 hK47=>mv z<|mv z<|?_
 refine mv z<|iK H fun⟨h48, h48'⟩H=>?_
 obtain ⟨ad49, cs50, hA51, hK52, hn53, hc54⟩ := Dat.get hD5 z_api_Page (v16) h48 h48'
 obtain ⟨A55, c56, hl57, hD58, rfl⟩ := open_api_Page hK52
 refine q_ia el22 z hA51 z h48 h48'<|q_lfA hI36 ag40 z (cs := [int .i64 ((a1.getD (Int.toNat v16) z_api_Page).Number), slice A55 ((a1.getD (Int.toNat v16) z_api_Page).Slices).length c56]) z (fun j v hv => gR.cel _ _ (hc54 j v hv))<|bK H fun y64 hy59 H=>cv bo16 (refs_Fill_1_spec (a1 := (a1.getD (Int.toNat v16) z_api_Page)) hy59 hI36 hl57 hD58) z z fun wd62 hI63=>nl<|hK47 _ _ _<|dC (y64 = true) (fun h65=>?_) fun h65=>?_
 refine yK h65 H fun H=>wt (vY h65)<|sr fun K66 hK67=>mv z<|asn z<|nl<|hK67 _ _ _<|wr<|?_
 cases H
 exact ⟨z, z, ⟨z, tv⟩, hI63, tv⟩
 exact nK h65 H fun H=>wf (vN h65)<|ws<|hK43 _ _ _<|wpc_region<|q_add z z<|mv z<|nl<|ih _ _ H _ _ ⟨z, z, z, z, tv⟩ hI63 z
 refine nK h41 H fun H=>wf (bN h41)<|wx<|?_
 cases H
 exact ⟨z, z, trivial, hI36, tv⟩
 rcases o32 with v23 | _
 rintro e r ds wd26 ⟨rfl, rfl, hHas, hI27, _⟩
 rw [hHas.eq]; clear hHas
 cases H
 exact rt ⟨_, _, z, z, z⟩ hI27
 rintro e r ds wd30 ⟨rfl, rfl, hHas, hI31, _⟩
 rw [hHas.eq]; clear hHas
 refine hK9 _ _ _<|sr fun K68 hK69=>asn z<|nl<|hK69 _ _ _<|wr<|?_
 cases H
 exact rt ⟨_, _, z, z, z⟩ hI31
theorem slices_ContainsFunc_api_Page_k1_spec {a1 A2 c3 r1006 G L w} (H : slices_ContainsFunc_api_Page_k1 a1 = some r1006) (hI : Hp G L w) (hl4 : a1.length ≤ c3) (hD5 : Dat k_api_Page G A2 a1) :
    Calls Tryz.prog 17 [slice A2 a1.length c3, func (.func 16) [].toArray [].toArray].toArray w fun e w' => Hp G L w' ∧ e = .returned (bool r1006) := by
 refine calls_intro (N := 9) Tryz.func17 z z (Nat.le_of_ble_eq_true z)<|?_
 unfold slices_ContainsFunc_api_Page_k1 at H
 refine sr fun K6 hK7=>asn z<|nl<|hK7 _ _ _<|sr fun K8 hK9=>mv z<|mv z<|bK H fun y15 hy10 H=>cv bo29 (slices_IndexFunc_api_Page_k1_spec hy10 hI hl4 hD5) z z fun wd13 hI14=>q_geq z z<|asn z<|nl<|hK9 _ _ _<|wr<|?_
 cases H
 exact rt ⟨_, _, z, z, z⟩ hI14
theorem refs_filler_spec {a1 A2 c3 r1008 G L w} (H : refs_filler a1 = some r1008) (hI : Hp G L w) (hl4 : a1.length ≤ c3) (hD5 : Dat k_api_Page G A2 a1) :
    Calls Tryz.prog 18 [slice A2 a1.length c3].toArray w fun e w' => ∃ (g1007 : Nat) (A1009 : Option Addr) (c1010 : Nat) (G' : Gh), G ≤ G' ∧ Hp G' (bx g1007 [slice A1009 r1008.length c1010] 22 :: L) w' ∧ r1008.length ≤ c1010 ∧ Dat k_api_Page G' A1009 r1008 ∧ e = .returned (func (.func 30) [].toArray [pointer (some ⟨g1007, 0, none⟩)].toArray) := by
 refine calls_intro (N := 4) Tryz.func18 z z (Nat.le_of_ble_eq_true z)<|?_
 unfold refs_filler at H
 refine sr fun K6 hK7=>bxk hI z z fun g9 wd10 hI11=>asn z<|nl<|hK7 _ _ _<|sr fun K12 hK13=>q_fn (vs := []) (us := [pointer (some ⟨g9, 0, none⟩)]) z z<|asn z<|nl<|hK13 _ _ _<|wr<|?_
 cases H
 exact ⟨.inr z, z, _, ⟨_, _, z, z, z⟩, g9, A2, c3, _, gR, hI11, hl4, hD5, z⟩
theorem pages_Find_1_k1_spec {a1 a4 g3 r1005 G L w} (H : pages_Find_1_k1 a1 a4 = some r1005) (hI : Hp G (bx g3 [int .i64 a4] 3 :: L) w) :
    Calls Tryz.prog 21 [agg [int .i64 a1.Node, int .i64 a1.Table, int .i64 a1.X, int .i64 a1.Y, int .i64 a1.H, string a1.Text, bool a1.Head, bool a1.Note].toArray, pointer (some ⟨g3, 0, none⟩)].toArray w fun e w' => Hp G (bx g3 [int .i64 a4] 3 :: L) w' ∧ e = .returned (bool r1005) := by
 refine calls_intro (N := 8) Tryz.func21 z z (Nat.le_of_ble_eq_true z)<|?_
 unfold pages_Find_1_k1 at H
 refine sr fun K5 hK6=>bxk hI z z fun g8 wd9 hI10=>asn z<|nl<|hK6 _ _ _<|sr fun K11 hK12=>fa fl42_0 z<|ld hI10 0 ag3 z z z<|ld hI10 1 ag3 z z z<|q_eql z z<|asn z<|nl<|hK12 _ _ _<|wr<|?_
 refine have hI14:=Hp.pick 2 [1] hI10 z;?_
 cases H
 exact rt ⟨_, _, z, z, z⟩ hI14
theorem slices_IndexFunc_api_Slice_k1_spec {a1 a8 A2 c3 g7 r1009 G L w} (H : slices_IndexFunc_api_Slice_k1 a1 a8 = some r1009) (hI : Hp G (bx g7 [int .i64 a8] 3 :: L) w) (hl4 : a1.length ≤ c3) (hD5 : Dat k_api_Slice G A2 a1) :
    Calls Tryz.prog 34 [slice A2 a1.length c3, func (.func 21) [].toArray [pointer (some ⟨g7, 0, none⟩)].toArray].toArray w fun e w' => Hp G (bx g7 [int .i64 a8] 3 :: L) w' ∧ e = .returned (int .i64 r1009) := by
 refine calls_intro (N := 19) Tryz.func34 z z (Nat.le_of_ble_eq_true z)<|?_
 unfold slices_IndexFunc_api_Slice_k1 at H
 refine sr fun K9 hK10=>asn z<|nl<|hK10 _ _ _<|sQ fun K11 hK12=>sr fun K13 hK14=>mv z<|q_len so38 z<|mv z<|nl<|hK14 _ _ _<|wb<|bK H fun o35 hC H=>wpc_mono (Q := fun e r ds w => match (generalizing := false) o35 with | (Sum.inl v26) => e = .ret ∧ ds = [] ∧ Has [(4, int .i64 v26)] r ∧ Hp G (bx g7 [int .i64 a8] 3 :: L) w ∧ True | (Sum.inr _) => e = .exit 0 ∧ ds = [] ∧ Has [] r ∧ Hp G (bx g7 [int .i64 a8] 3 :: L) w ∧ True) ?_ ?_
 refine wpc_loop fun I hLp=>?_
 refine slices_IndexFunc_api_Slice_k1_l25.partial_correctness a1 a8 (fun v19 o => ∀ (r : Rg) (w : World), Has [(0, slice A2 a1.length c3), (1, func (.func 21) [].toArray [pointer (some ⟨g7, 0, none⟩)].toArray), (7, int .i64 (a1.length : Int)), (8, int .i64 v19)] r → Hp G (bx g7 [int .i64 a8] 3 :: L) w → o = o35 → I r [] w) ?_ 0 _ hC _ _ ⟨rfl, rfl, rfl, rfl, tv⟩ hI rfl
 intro _ ih v19 o H r wd38 hHas hI39 ho
 rw [ho] at H; clear ho
 rw [hHas.eq]; clear hHas
 refine hLp _ _ _<|sr fun K40 hK41=>q_lss z z<|nl<|hK41 _ _ _<|sQ fun K42 hK43=>dC (v19 < (a1.length : Int)) (fun h44=>?_) fun h44=>?_
 refine yK h44 H fun H=>wt (bY h44)<|ws<|hK43 _ _ _<|sQ fun K45 hK46=>wb<|sr fun K47 hK48=>mv z<|asn z<|nl<|hK48 _ _ _<|sr fun K49 hK50=>mv z<|mv z<|?_
 refine mv z<|iK H fun⟨h51, h51'⟩H=>?_
 obtain ⟨ad52, cs53, hA54, hK55, hn56, hc57⟩ := Dat.get hD5 z_api_Slice (v19) h51 h51'
 obtain ⟨rfl⟩ := open_api_Slice hK55
 refine q_ia el38 z hA54 z h51 h51'<|q_lfA hI39 ag42 z (cs := [int .i64 ((a1.getD (Int.toNat v19) z_api_Slice).Node), int .i64 ((a1.getD (Int.toNat v19) z_api_Slice).Table), int .i64 ((a1.getD (Int.toNat v19) z_api_Slice).X), int .i64 ((a1.getD (Int.toNat v19) z_api_Slice).Y), int .i64 ((a1.getD (Int.toNat v19) z_api_Slice).H), string ((a1.getD (Int.toNat v19) z_api_Slice).Text), bool ((a1.getD (Int.toNat v19) z_api_Slice).Head), bool ((a1.getD (Int.toNat v19) z_api_Slice).Note)]) z (fun j v hv => gR.cel _ _ (hc57 j v hv))<|bK H fun y63 hy58 H=>cv bo21 (pages_Find_1_k1_spec (a1 := (a1.getD (Int.toNat v19) z_api_Slice)) hy58 hI39) z z fun wd61 hI62=>nl<|hK50 _ _ _<|dC (y63 = true) (fun h64=>?_) fun h64=>?_
 refine yK h64 H fun H=>wt (vY h64)<|sr fun K65 hK66=>mv z<|asn z<|nl<|hK66 _ _ _<|wr<|?_
 cases H
 exact ⟨z, z, ⟨z, tv⟩, hI62, tv⟩
 exact nK h64 H fun H=>wf (vN h64)<|ws<|hK46 _ _ _<|wpc_region<|q_add z z<|mv z<|nl<|ih _ _ H _ _ ⟨z, z, z, z, tv⟩ hI62 z
 refine nK h44 H fun H=>wf (bN h44)<|wx<|?_
 cases H
 exact ⟨z, z, trivial, hI39, tv⟩
 rcases o35 with v26 | _
 rintro e r ds wd29 ⟨rfl, rfl, hHas, hI30, _⟩
 rw [hHas.eq]; clear hHas
 cases H
 exact rt ⟨_, _, z, z, z⟩ hI30
 rintro e r ds wd33 ⟨rfl, rfl, hHas, hI34, _⟩
 rw [hHas.eq]; clear hHas
 refine hK12 _ _ _<|sr fun K67 hK68=>asn z<|nl<|hK68 _ _ _<|wr<|?_
 cases H
 exact rt ⟨_, _, z, z, z⟩ hI34
theorem slices_ContainsFunc_api_Slice_k1_spec {a1 a8 A2 c3 g7 r1009 G L w} (H : slices_ContainsFunc_api_Slice_k1 a1 a8 = some r1009) (hI : Hp G (bx g7 [int .i64 a8] 3 :: L) w) (hl4 : a1.length ≤ c3) (hD5 : Dat k_api_Slice G A2 a1) :
    Calls Tryz.prog 20 [slice A2 a1.length c3, func (.func 21) [].toArray [pointer (some ⟨g7, 0, none⟩)].toArray].toArray w fun e w' => Hp G (bx g7 [int .i64 a8] 3 :: L) w' ∧ e = .returned (bool r1009) := by
 refine calls_intro (N := 9) Tryz.func20 z z (Nat.le_of_ble_eq_true z)<|?_
 unfold slices_ContainsFunc_api_Slice_k1 at H
 refine sr fun K9 hK10=>asn z<|nl<|hK10 _ _ _<|sr fun K11 hK12=>mv z<|mv z<|bK H fun y18 hy13 H=>cv bo34 (slices_IndexFunc_api_Slice_k1_spec hy13 hI hl4 hD5) z z fun wd16 hI17=>q_geq z z<|asn z<|nl<|hK12 _ _ _<|wr<|?_
 cases H
 exact rt ⟨_, _, z, z, z⟩ hI17
theorem pages_Find_spec {a1 a6 A2 c3 r1007 r1008 G L w} (H : pages_Find a1 a6 = some (r1007, r1008)) (hI : Hp G L w) (hl4 : a1.length ≤ c3) (hD5 : Dat k_api_Page G A2 a1) :
    Calls Tryz.prog 12 [slice A2 a1.length c3, int .i64 a6].toArray w fun e w' => Hp G L w' ∧ e = .returned (tuple [int .i64 r1007, bool r1008].toArray) := by
 refine calls_intro (N := 21) Tryz.func12 z z (Nat.le_of_ble_eq_true z)<|?_
 unfold pages_Find at H
 refine sr fun K7 hK8=>bxk hI z z fun g10 wd11 hI12=>asn z<|asn z<|nl<|hK8 _ _ _<|sQ fun K13 hK14=>sr fun K15 hK16=>mv z<|q_len so22 z<|mv z<|nl<|hK16 _ _ _<|wb<|?_
 refine bK H fun o37 hC H=>wpc_mono (Q := fun e r ds w => match (generalizing := false) o37 with | (Sum.inl v28) => e = .ret ∧ ds = [] ∧ Has [(4, int .i64 v28), (5, bool true)] r ∧ Hp G (bx g10 [int .i64 a6] 3 :: L) w ∧ True | (Sum.inr _) => e = .exit 0 ∧ ds = [] ∧ Has [] r ∧ Hp G (bx g10 [int .i64 a6] 3 :: L) w ∧ True) ?_ ?_
 refine wpc_loop fun I hLp=>?_
 refine pages_Find_l27.partial_correctness a1 a6 (fun v21 o => ∀ (r : Rg) (w : World), Has [(3, pointer (some ⟨g10, 0, none⟩)), (8, slice A2 a1.length c3), (9, int .i64 (a1.length : Int)), (10, int .i64 v21)] r → Hp G (bx g10 [int .i64 a6] 3 :: L) w → o = o37 → I r [] w) ?_ 0 _ hC _ _ ⟨rfl, rfl, rfl, rfl, tv⟩ hI12 rfl
 intro _ ih v21 o H r wd40 hHas hI41 ho
 rw [ho] at H; clear ho
 rw [hHas.eq]; clear hHas
 refine hLp _ _ _<|sr fun K42 hK43=>q_lss z z<|nl<|hK43 _ _ _<|sQ fun K44 hK45=>dC (v21 < (a1.length : Int)) (fun h46=>?_) fun h46=>?_
 refine yK h46 H fun H=>wt (bY h46)<|ws<|hK45 _ _ _<|sQ fun K47 hK48=>wb<|sr fun K49 hK50=>iK H fun⟨h51, h51'⟩H=>?_
 obtain ⟨ad52, cs53, hA54, hK55, hn56, hc57⟩ := Dat.get hD5 z_api_Page (v21) h51 h51'
 obtain ⟨A58, c59, hl60, hD61, rfl⟩ := open_api_Page hK55
 refine q_ia el22 z hA54 z h51 h51'<|q_lfA hI41 ag40 z (cs := [int .i64 ((a1.getD (Int.toNat v21) z_api_Page).Number), slice A58 ((a1.getD (Int.toNat v21) z_api_Page).Slices).length c59]) z (fun j v hv => gR.cel _ _ (hc57 j v hv))<|q_alloc hI41 ze40 fun g63 wd64 hI65=>stk hI65 0 ag40 z z z z z z z fun wd66 hI67=>nl<|hK50 _ _ _<|sr fun K68 hK69=>fa fl40_1 z<|ld hI67 0 ag38 z z z<|q_fn (vs := []) (us := [pointer (some ⟨g10, 0, none⟩)]) z z<|have hI70:=Hp.pick 2 [1, 0] hI67 z;bK H fun y76 hy71 H=>cv bo20 (slices_ContainsFunc_api_Slice_k1_spec (a1 := (a1.getD (Int.toNat v21) z_api_Page).Slices) hy71 hI70 hl60 hD61) z z fun wd74 hI75=>nl<|?_
 refine hK69 _ _ _<|dC (y76 = true) (fun h77=>?_) fun h77=>?_
 refine yK h77 H fun H=>wt (vY h77)<|sr fun K78 hK79=>fa fl40_0 z<|ld hI75 1 ag3 z z z<|asn z<|asn z<|nl<|hK79 _ _ _<|wr<|have hI80:=Hp.pick 2 [0] hI75 z;?_
 cases H
 exact ⟨z, z, ⟨z, z, tv⟩, hI80, tv⟩
 exact nK h77 H fun H=>wf (vN h77)<|ws<|hK48 _ _ _<|wpc_region<|q_add z z<|mv z<|nl<|have hI81:=Hp.pick 2 [0] hI75 z;ih _ _ H _ _ ⟨z, z, z, z, tv⟩ hI81 z
 refine nK h46 H fun H=>wf (bN h46)<|wx<|?_
 cases H
 exact ⟨z, z, trivial, hI41, tv⟩
 rcases o37 with v28 | _
 rintro e r ds wd31 ⟨rfl, rfl, hHas, hI32, _⟩
 rw [hHas.eq]; clear hHas
 refine have hI82:=Hp.pick 1 [] hI32 z;?_
 cases H
 exact rt ⟨_, _, z, z, ⟨_, _, z, z, z⟩⟩ hI82
 rintro e r ds wd35 ⟨rfl, rfl, hHas, hI36, _⟩
 rw [hHas.eq]; clear hHas
 refine hK14 _ _ _<|sr fun K83 hK84=>asn z<|asn z<|nl<|hK84 _ _ _<|wr<|have hI85:=Hp.pick 1 [] hI36 z;?_
 cases H
 exact rt ⟨_, _, z, z, ⟨_, _, z, z, z⟩⟩ hI85
theorem strconv_Itoa_spec {a0 r0 G L w} (H : strconv_Itoa a0 = some r0) (hI : Hp G L w) (hgl : Gl G) :
    Calls Tryz.prog 31 [int .i64 a0].toArray w fun e w' => Hp G L w' ∧ e = .returned (string r0) := by
 refine low_of<|?_
 unfold strconv_Itoa at H
 refine iK H fun⟨h0, h1⟩H=>?_
 rw [itoaF_eq h0 h1] at H
 cases H
 refine (Any.strconv_Itoa Tryz.lM171 a0 h0 h1 w (hgl.get hI).pow10).mono<|?_
 rintro e w' ⟨rfl, k, os, rfl⟩
 exact ⟨G, Gh.le_refl _, hI.grow k os, z⟩
theorem strings_Builder_copyCheck_spec {a0 : strings_Builder} {g A c} {q0 : strings_Builder} {G L w} (H : strings_Builder_copyCheck a0 = some q0) (hI : Hp G (bx g [slfV g a0.addr, slice A (a0.buf).length c] 75 :: tk (slice A (a0.buf).length c) 1 5 :: L) w) (hl : (a0.buf).length ≤ c) (hD : Dat (Kd.int .u8) G A a0.buf) (ho : Own A c) :
    Calls Tryz.prog 58 [pointer (some ⟨g, 0, none⟩)].toArray w fun e w' => ∃ (A : Option Addr) (c : Nat) (G' : Gh), G ≤ G' ∧ Hp G' (bx g [slfV g q0.addr, slice A (q0.buf).length c] 75 :: tk (slice A (q0.buf).length c) 1 5 :: L) w' ∧ (q0.buf).length ≤ c ∧ Dat (Kd.int .u8) G' A q0.buf ∧ Own A c ∧ e = .returned (tuple [].toArray) := by
 cases H
 refine (bld_check (ρ := Tryz.l230_ren) { Tryz.l230 with } ⟨by kernel_rfl, by kernel_rfl⟩ hI).mono ?_
 rintro e w' ⟨hJ, rfl⟩
 exact ⟨A, c, G, Gh.le_refl _, hJ, hl, hD, ho, z⟩
theorem strings_Builder_WriteString_k1_spec {a3 : strings_Builder} {a10 g2 A4 c5 r1011} {q1012 : strings_Builder} {G L w} (H : strings_Builder_WriteString_k1 a3 a10 = some (r1011, q1012)) (hI : Hp G (bx g2 [slfV g2 a3.addr, slice A4 a3.buf.length c5] 75 :: tk (slice A4 a3.buf.length c5) 1 5 :: L) w) (hl6 : a3.buf.length ≤ c5) (hD7 : Dat (Kd.int .u8) G A4 a3.buf) (ho8 : Own A4 c5) :
    Calls Tryz.prog 32 [pointer (some ⟨g2, 0, none⟩), string a10].toArray w fun e w' => ∃ (A1013 : Option Addr) (c1014 : Nat) (G' : Gh), G ≤ G' ∧ Hp G' (bx g2 [slfV g2 q1012.addr, slice A1013 q1012.buf.length c1014] 75 :: tk (slice A1013 q1012.buf.length c1014) 1 5 :: L) w' ∧ q1012.buf.length ≤ c1014 ∧ Dat (Kd.int .u8) G' A1013 q1012.buf ∧ Own A1013 c1014 ∧ e = .returned (tuple [int .i64 r1011, Value.nilIface].toArray) := by
 refine calls_intro (N := 19) Tryz.func32 z z (Nat.le_of_ble_eq_true z)<|?_
 unfold strings_Builder_WriteString_k1 at H
 refine sr fun K11 hK12=>asn z<|q_asE (v := Value.nilIface) z<|nl<|hK12 _ _ _<|sr fun K13 hK14=>mv z<|bK H fun y20 hy15 H=>q_cv (vs := [pointer (some ⟨g2, 0, none⟩)]) bo58 z z (strings_Builder_copyCheck_spec hy15 hI hl6 hD7 ho8)<|?_
 rintro _ wd18 ⟨A21, c22, G16, hG17, hI19, hl23, hD24, ho25, rfl⟩
 refine ⟨_, rfl, ?_⟩
 refine nl<|hK14 _ _ _<|sr fun K27 hK28=>mv z<|mv z<|q_nc z<|fa fl75_1 z<|ld hI19 0 ag61 z z z<|mv z<|iK H fun h38 H=>?_
 refine q_app (xs := y20.buf) (ys := sbytes a10) (Kd.int .u8) hI19 1 el61 ze5 rfl rfl rfl rfl ho25 hl23 hD24 (src_str so9) (flat_int _ _) (sbytes_len _) (by rw [← sbytes_len]; omega) (by rw [← sbytes_len]; omega) (fun A29 c30 G31 wd32 hG33 ho34 hl35 hD36 hI37 => ?_)
 refine q_nc z<|fa fl75_1 z<|stk hI37 0 ag61 z z z z z z z fun wd39 hI40=>nl<|hK28 _ _ _<|sr fun K41 hK42=>mv z<|q_lens so9 z<|asn z<|q_asE (v := Value.nilIface) z<|nl<|hK42 _ _ _<|wr<|?_
 cases H
 exact ⟨.inr z, z, _, ⟨_, _, z, z, ⟨_, _, z, z, z⟩⟩, A29, c30, _, (gT hG17 hG33), hI40, hl35, hD36, ho34, z⟩
theorem strings_Builder_String_spec {a0 : strings_Builder} {g A c r0 G L w} (H : strings_Builder_String a0 = some r0) (hI : Hp G (bx g [slfV g a0.addr, slice A (a0.buf).length c] 75 :: tk (slice A (a0.buf).length c) 1 5 :: L) w) (hl : (a0.buf).length ≤ c) (hD : Dat (Kd.int .u8) G A a0.buf) (ho : Own A c) :
    Calls Tryz.prog 33 [pointer (some ⟨g, 0, none⟩)].toArray w fun e w' => Hp G (bx g [slfV g a0.addr, slice A (a0.buf).length c] 75 :: L) w' ∧ e = .returned (string r0) := by
 unfold strings_Builder_String at H
 refine iK H fun h63 H=>?_
 cases H
 exact bld_String (ρ := Tryz.l230_ren) { Tryz.l230 with } Tryz_extra hI hl hD ho h63
theorem refs_filler_1_k1_spec {a1 a4 g3 A5 c6 r1009 G L w} (H : refs_filler_1_k1 a1 a4 = some r1009) (hI : Hp G (bx g3 [slice A5 a4.length c6] 22 :: L) w) (hl7 : a4.length ≤ c6) (hD8 : Dat k_api_Page G A5 a4) (hgl : Gl G) :
    Calls Tryz.prog 30 [string a1, pointer (some ⟨g3, 0, none⟩)].toArray w fun e w' => Hp G (bx g3 [slice A5 a4.length c6] 22 :: L) w' ∧ e = .returned (string r1009) := by
 refine calls_intro_m (N := 27) Tryz.func30 z z (Nat.le_of_ble_eq_true z)<|?_
 unfold refs_filler_1_k1 at H
 refine sr fun K9 hK10=>asn z<|nl<|hK10 _ _ _<|sr fun K11 hK12=>q_alloc hI ze75 fun g14 wd15 hI16=>nl<|hK12 _ _ _<|sQ fun K17 hK18=>sr fun K19 hK20=>mv z<|bK H fun y28 hy21 H=>q_cv (vs := [string a1]) bo15 z z (refs_parts_spec hy21 hI16)<|?_
 rintro _ wd24 ⟨g27, hI25, rfl⟩
 refine ⟨_, rfl, ?_⟩
 refine nl<|hK20 _ _ _<|wb<|have hI29:=Hp.emp hI25;have hI52:=Hp.pick 4 [1, 2, 3, 0] hI29 z;?_
 obtain ⟨⟨y171, ⟨v32, v33⟩, jo55⟩, hr161, H⟩ := bS H
 refine wpc_range hI52 bo27 z fun fn tmps gl gd31 wd192 hA158 hI159=>?_
 have hY160 : Yl Tryz.prog (rnd (fun (u : Bool × (List Int)) (x : ByteArray × Int) => refs_filler_1_k1_r53 a4 u.1 u.2 x.1 x.2)) (encP (enc1 Kd.str) (enc1 (Kd.int .i64))) _ gl := yl_intro (pp := [11, 12]) (gdd := gd31) hI159 (fun (u : Bool × (List Int)) (x : ByteArray × Int) => refs_filler_1_k1_r53 a4 u.1 u.2 x.1 x.2) [] (fun (u : Bool × (List Int)) (G' : Gh) (K : List Itm) => ∃ (A34 : Option Addr) (c35 : Nat) (_ : G ≤ G'), K = bx g14 [slfV g14 u.1, slice A34 u.2.length c35] 75 :: bx g3 [slice A5 a4.length c6] 22 :: tk (slice A34 u.2.length c35) 1 5 :: (List.map mkI (gd31 :: ([] : List Nat)) ++ L) ∧ u.2.length ≤ c35 ∧ Dat (Kd.int .u8) G' A34 u.2 ∧ Own A34 c35 ∧ True) hA158 (fun _ _ _ h => (fun h => encP_len (fun h => enc1_len h) (fun h => enc1_len h) h) h) (fun hG' ⟨A34, c35, h0', hK', hl36, hD37, ho38, _⟩ => ⟨A34, c35, gT h0' hG', hK', hl36, (Dat.mono hG' hD37), ho38, tv⟩) (by
 rintro Rd Bs ⟨v32, v33⟩ u' ⟨x61, x63⟩ jo' G57 K M wd59 vs ⟨A34, c35, hG58, rfl, hl36, hD37, ho38, _⟩ ⟨_, _, rfl, ⟨_, rfl, hv62⟩, ⟨_, rfl, hv64⟩⟩ H hI65
 cases hv62
 cases hv64
 replace H : refs_filler_1_k1_r53 a4 v32 v33 x61 x63 = some (u', jo') := H
 unfold refs_filler_1_k1_r53 at H
 refine sr fun K66 hK67=>asn z<|nl<|hK67 _ _ _<|wpc_region<|asn z<|nl<|?_
 refine ⟨rfl, rfl, _, _, gR, hI65, fun wd69 hI68 => ?_⟩
 refine wb<|sQ fun K70 hK71=>sr fun K72 hK73=>mv z<|q_gtr z z<|nl<|hK73 _ _ _<|dC (0 < x63) (fun h74=>?_) fun h74=>?_
 refine yK h74 H fun H=>wt (bY h74)<|sr fun K75 hK76=>asn z<|nl<|hK76 _ _ _<|sr fun K77 hK78=>ld hI68 2 ag22 z z z<|mv z<|bK2 H fun y84 y85 hy79 H=>cv bo12 (pages_Find_spec hy79 hI68 hl7 (Dat.mono hG58 hD8)) z z fun wd82 hI83=>mv z<|exk z z<|exk z z<|?_
 refine asn z<|asn z<|nl<|hK78 _ _ _<|sr fun K86 hK87=>mv z<|nl<|hK87 _ _ _<|dC (y85 = true) (fun h88=>?_) fun h88=>?_
 refine yK h88 H fun H=>wt (vY h88)<|wpc_region<|mv z<|bK H fun y94 hy89 H=>cv bo31 (strconv_Itoa_spec hy89 hI83 (hgl.mono hG58)) z z fun wd92 hI93=>asn z<|nl<|hK71 _ _ _<|wpc_region<|mv z<|have hI98:=Hp.pick 4 [1, 3, 0, 2] hI93 z;bK2 H fun y104 y105 hy99 H=>q_cv (vs := [pointer (some ⟨g14, 0, none⟩), string y94]) bo32 z z (strings_Builder_WriteString_k1_spec (a3 := (⟨v32, v33⟩ : strings_Builder)) hy99 hI98 hl36 hD37 ho38)<|?_
 rintro _ wd102 ⟨A106, c107, G100, hG101, hI103, hl108, hD109, ho110, rfl⟩
 refine ⟨_, rfl, ?_⟩
 refine nl<|have hI115:=Hp.pick 4 [2, 0, 3, 1] hI103 z;?_
 cases H
 exact ⟨z, _, _, hG101, ⟨A106, c107, (gT hG58 hG101), z, hl108, hD109, ho110, tv⟩, hI115⟩
 refine nK h88 H fun H=>wf (vN h88)<|ws<|hK71 _ _ _<|wpc_region<|mv z<|have hI119:=Hp.pick 4 [1, 3, 0, 2] hI83 z;bK2 H fun y125 y126 hy120 H=>q_cv (vs := [pointer (some ⟨g14, 0, none⟩), string (⟨#[63]⟩ : ByteArray)]) bo32 z z (strings_Builder_WriteString_k1_spec (a3 := (⟨v32, v33⟩ : strings_Builder)) hy120 hI119 hl36 hD37 ho38)<|?_
 rintro _ wd123 ⟨A127, c128, G121, hG122, hI124, hl129, hD130, ho131, rfl⟩
 refine ⟨_, rfl, ?_⟩
 refine nl<|have hI136:=Hp.pick 4 [2, 0, 3, 1] hI124 z;?_
 cases H
 exact ⟨z, _, _, hG122, ⟨A127, c128, (gT hG58 hG122), z, hl129, hD130, ho131, tv⟩, hI136⟩
 refine nK h74 H fun H=>wf (bN h74)<|ws<|hK71 _ _ _<|wpc_region<|mv z<|have hI140:=Hp.pick 4 [1, 3, 0, 2] hI68 z;bK2 H fun y146 y147 hy141 H=>q_cv (vs := [pointer (some ⟨g14, 0, none⟩), string x61]) bo32 z z (strings_Builder_WriteString_k1_spec (a3 := (⟨v32, v33⟩ : strings_Builder)) hy141 hI140 hl36 hD37 ho38)<|?_
 rintro _ wd144 ⟨A148, c149, G142, hG143, hI145, hl150, hD151, ho152, rfl⟩
 refine ⟨_, rfl, ?_⟩
 refine nl<|have hI157:=Hp.pick 4 [2, 0, 3, 1] hI145 z;?_
 cases H
 exact ⟨z, _, _, hG143, ⟨A148, c149, (gT hG58 hG143), z, hl150, hD151, ho152, tv⟩, hI157⟩)
 refine have hI193:=Hp.sink (A := [bx g27 [string y28] 9]) (K := [bx g14 [pointer none, slice none 0 0] 75, bx g3 [slice A5 a4.length c6] 22, tk (slice none 0 0) 1 5]) hI159;(refs_parts_1_k1_spec (sy := ((false, ([] : List Int)), none)) hr161 hI193 hY160 ⟨_, z, none, 0, Gh.le_refl _, z, (show ([] : List Int).length ≤ 0 from Nat.le_refl 0), (Dat.nil _ _ _), Own.nil, tv⟩ (hgl.mono gR)).mono<|?_
 rintro _ wd164 ⟨T168, G162, hG1630, hI165, ⟨K, rfl, A34, c35, hG163, rfl, hl36, hD37, ho38, _⟩, rfl⟩
 refine have hH170:=Hp.front hI165 1 z;?_
 rcases jo55 with _ | j
 refine ⟨_, rfl, LoopState.ready, none, G162, _, (fun h => nomatch h), hH170, fun wd166 hI167 => ?_⟩
 refine hK18 _ _ _<|sr fun K176 hK177=>have hI181:=Hp.pick 4 [1, 3, 0, 2] hI167 z;bK H fun y187 hy182 H=>cv bo33 (strings_Builder_String_spec (a0 := (⟨v32, v33⟩ : strings_Builder)) hy182 hI181 hl36 hD37 ho38) z z fun wd185 hI186=>asn z<|nl<|hK177 _ _ _<|wr<|?_
 refine ⟨.inr rfl, (gd31 :: ([] : List Nat)), _, _, rfl, Hp.marks (K := [bx g14 [slfV g14 v32, slice A34 v33.length c35] 75, bx g27 [string y171] 9, bx g3 [slice A5 a4.length c6] 22]) hI186, fun wd189 hI188 => ?_⟩
 refine have hI191:=Hp.pick 3 [2] hI188 z;?_
 cases H
 exact ⟨_, ⟨_, _, z, z, z⟩, (Hp.low hG163 hI191), z⟩
 cases H
theorem refs_Fill_spec {a1 a2 A3 c4 r1007 r1008 G L w} (H : refs_Fill a1 a2 = some (r1007, r1008)) (hI : Hp G L w) (hl5 : a2.length ≤ c4) (hD6 : Dat k_api_Page G A3 a2) (hgl : Gl G) :
    Calls Tryz.prog 8 [string a1, slice A3 a2.length c4].toArray w fun e w' => Hp G L w' ∧ e = .returned (tuple [string r1007, int .i64 r1008].toArray) := by
 refine calls_intro (N := 19) Tryz.func8 z z (Nat.le_of_ble_eq_true z)<|?_
 unfold refs_Fill at H
 refine sr fun K7 hK8=>asn z<|asn z<|nl<|hK8 _ _ _<|sr fun K9 hK10=>asn z<|nl<|hK10 _ _ _<|sQ fun K11 hK12=>sr fun K13 hK14=>mv z<|bK H fun y20 hy15 H=>cv bo14 (text_Valid_spec hy15 hI) z z fun wd18 hI19=>?_
 refine q_not z<|mv z<|bK H fun v21 hC H=>js 4 hI19 [(0, string a1), (1, slice A3 a2.length c4), (14, bool v21)] ?_ fun _ wd24 hI25=>?_
 refine have H:=hC;dC ((!y20) = true) (fun h27=>?_) fun h27=>?_
 refine yK h27 H fun H=>Sk 3 z z (vY h27) z<|pkt (vY h27) z<|nl<|?_
 cases H
 exact je ⟨z, z, z, tv⟩ hI19
 refine nK h27 H fun H=>mv (hw:=gY z z z (vN h27)) z<|mv (hw:=gY z z z (vN h27)) z<|bK H fun y33 hy28 H=>cv (hw:=gY z z z (vN h27)) bo17 (slices_ContainsFunc_api_Page_k1_spec hy28 hI19 hl5 hD6) z z fun wd31 hI32=>pkf (vN h27) z<|nl<|?_
 cases H
 exact je ⟨z, z, z, tv⟩ hI32
 refine nl<|hK14 _ _ _<|dC (v21 = true) (fun h34=>?_) fun h34=>?_
 refine yK h34 H fun H=>wt (vY h34)<|sr fun K35 hK36=>asn z<|asn z<|nl<|hK36 _ _ _<|wr<|?_
 cases H
 exact rt ⟨_, _, z, z, ⟨_, _, z, z, z⟩⟩ hI25
 refine nK h34 H fun H=>wf (vN h34)<|ws<|hK12 _ _ _<|sr fun K37 hK38=>mv z<|bK H fun y46 hy39 H=>q_cv (vs := [slice A3 a2.length c4]) bo18 z z (refs_filler_spec hy39 hI25 hl5 hD6)<|?_
 rintro _ wd42 ⟨g45, A47, c48, G40, hG41, hI43, hl49, hD50, rfl⟩
 refine ⟨_, rfl, ?_⟩
 refine mv z<|bK H fun y56 hy51 H=>cv bo30 (refs_filler_1_k1_spec hy51 hI43 hl49 hD50 (hgl.mono hG41)) z z fun wd54 hI55=>asn z<|asn z<|nl<|hK38 _ _ _<|wr<|have hI57:=Hp.pick 1 [] hI55 z;?_
 cases H
 exact rt ⟨_, _, z, z, ⟨_, _, z, z, z⟩⟩ (Hp.low hG41 hI57)
theorem pages_within_spec {a1 a2 a3 r1004 G L w} (H : pages_within a1 a2 a3 = some r1004) (hI : Hp G L w) :
    Calls Tryz.prog 59 [int .i64 a1, int .i64 a2, int .i64 a3].toArray w fun e w' => Hp G L w' ∧ e = .returned (bool r1004) := by
 refine calls_intro (N := 15) Tryz.func59 z z (Nat.le_of_ble_eq_true z)<|?_
 unfold pages_within at H
 refine sr fun K4 hK5=>asn z<|nl<|hK5 _ _ _<|sr fun K6 hK7=>mv z<|mv z<|q_leq z z<|mv z<|bK H fun v8 hC H=>js 4 hI [(14, bool v8)] ?_ fun _ wd11 hI12=>?_
 refine have H:=hC;dC (a2 ≤ a1) (fun h14=>?_) fun h14=>?_
 refine yK h14 H fun H=>mv (hw:=gY z z z (bY h14)) z<|mv (hw:=gY z z z (bY h14)) z<|q_leq (hw:=gY z z z (bY h14)) z z<|pkt (bY h14) z<|nl<|?_
 cases H
 exact je ⟨z, tv⟩ hI
 refine nK h14 H fun H=>Sk 3 z z (bN h14) z<|pkf (bN h14) z<|nl<|?_
 cases H
 exact je ⟨z, tv⟩ hI
 refine asn z<|nl<|hK7 _ _ _<|wr<|?_
 cases H
 exact rt ⟨_, _, z, z, z⟩ hI12
theorem pages_sheet_column_spec {a1 : pages_sheet} {r1002 G L w} (H : pages_sheet_column a1 = some r1002) (hI : Hp G L w) :
    Calls Tryz.prog 78 [agg [int .i64 a1.Paper.Width, int .i64 a1.Paper.Height, int .i64 a1.Paper.Columns, int .i64 a1.Paper.Gap, int .i64 a1.Paper.Scale, int .i64 a1.Paper.Lang].toArray].toArray w fun e w' => Hp G L w' ∧ e = .returned (int .i64 r1002) := by
 refine calls_intro (N := 20) Tryz.func78 z z (Nat.le_of_ble_eq_true z)<|?_
 unfold pages_sheet_column at H
 refine sr fun K2 hK3=>bxk hI z z fun g5 wd6 hI7=>asn z<|nl<|hK3 _ _ _<|sr fun K8 hK9=>fa fl84_0 z<|fa fl52_0 z<|ld hI7 0 ag3 z z z<|fa fl84_0 z<|fa fl52_3 z<|ld hI7 0 ag3 z z z<|fa fl84_0 z<|fa fl52_2 z<|?_
 refine ld hI7 0 ag3 z z z<|q_sub z z<|q_mul z z<|q_sub z z<|fa fl84_0 z<|fa fl52_2 z<|ld hI7 0 ag3 z z z<|iK H fun h10 H=>q_quo z z h10<|q_max z z<|asn z<|nl<|hK9 _ _ _<|wr<|?_
 refine have hI11:=Hp.pick 1 [] hI7 z;?_
 cases H
 exact rt ⟨_, _, z, z, z⟩ hI11
theorem pages_sheet_reader_spec {a1 : pages_sheet} {r1002 G L w} (H : pages_sheet_reader a1 = some r1002) (hI : Hp G L w) :
    Calls Tryz.prog 52 [agg [int .i64 a1.Paper.Width, int .i64 a1.Paper.Height, int .i64 a1.Paper.Columns, int .i64 a1.Paper.Gap, int .i64 a1.Paper.Scale, int .i64 a1.Paper.Lang].toArray].toArray w fun e w' => Hp G L w' ∧ e = .returned (agg [int .i64 r1002.Width, int .i64 r1002.Scale, int .i64 r1002.Lang].toArray) := by
 refine calls_intro (N := 12) Tryz.func52 z z (Nat.le_of_ble_eq_true z)<|?_
 unfold pages_sheet_reader at H
 refine sr fun K2 hK3=>bxk hI z z fun g5 wd6 hI7=>q_alloc hI7 ze114 fun g9 wd10 hI11=>nl<|hK3 _ _ _<|sQ fun K12 hK13=>bK H fun y27 hy212 H=>?_
 refine wpc_drawL [0, 1, 0, 4, 12, 0, 32, 96, 255, 511] (fun D r w => (D 9 = false ∧ ∃ (G' : Gh), G ≤ G' ∧ Regs [(1, pointer (some ⟨g5, 0, none⟩)), (2, pointer (some ⟨g9, 0, none⟩))] [] [(0, 3, agg [int .i64 a1.Paper.Width, int .i64 a1.Paper.Height, int .i64 a1.Paper.Columns, int .i64 a1.Paper.Gap, int .i64 a1.Paper.Scale, int .i64 a1.Paper.Lang].toArray), (1, 4, int .i64 y27), (2, 5, pointer (some ⟨g5, 0, none⟩)), (3, 6, pointer (some ⟨g5, 4, none⟩)), (4, 7, int .i64 a1.Paper.Scale), (5, 8, pointer (some ⟨g5, 0, none⟩)), (6, 9, pointer (some ⟨g5, 5, none⟩)), (7, 10, int .i64 a1.Paper.Lang), (8, 11, agg [int .i64 y27, int .i64 a1.Paper.Scale, int .i64 a1.Paper.Lang].toArray)] D r ∧ Hp G' (bx g9 [int .i64 0, int .i64 0, int .i64 0] 114 :: bx g5 [int .i64 a1.Paper.Width, int .i64 a1.Paper.Height, int .i64 a1.Paper.Columns, int .i64 a1.Paper.Gap, int .i64 a1.Paper.Scale, int .i64 a1.Paper.Lang] 84 :: L) w) ∨ (D 9 = true ∧ ∃ (G' : Gh), G ≤ G' ∧ Regs [(1, pointer (some ⟨g5, 0, none⟩)), (2, pointer (some ⟨g9, 0, none⟩))] [] [(0, 3, agg [int .i64 a1.Paper.Width, int .i64 a1.Paper.Height, int .i64 a1.Paper.Columns, int .i64 a1.Paper.Gap, int .i64 a1.Paper.Scale, int .i64 a1.Paper.Lang].toArray), (1, 4, int .i64 y27), (2, 5, pointer (some ⟨g5, 0, none⟩)), (3, 6, pointer (some ⟨g5, 4, none⟩)), (4, 7, int .i64 a1.Paper.Scale), (5, 8, pointer (some ⟨g5, 0, none⟩)), (6, 9, pointer (some ⟨g5, 5, none⟩)), (7, 10, int .i64 a1.Paper.Lang), (8, 11, agg [int .i64 y27, int .i64 a1.Paper.Scale, int .i64 a1.Paper.Lang].toArray)] D r ∧ Hp G' (bx g9 [int .i64 y27, int .i64 a1.Paper.Scale, int .i64 a1.Paper.Lang] 114 :: bx g5 [int .i64 a1.Paper.Width, int .i64 a1.Paper.Height, int .i64 a1.Paper.Columns, int .i64 a1.Paper.Gap, int .i64 a1.Paper.Scale, int .i64 a1.Paper.Lang] 84 :: L) w)) mixo z z ?_ ?_ ?_
 exact (.inl ⟨z, _, Gh.le_refl _, Regs.start ⟨z, z, tv⟩ trivial, hI11.drew⟩)
 refine ⟨?_, ?_, ?_, ?_, ?_, ?_, ?_, ?_, ?_, ?_, tv⟩
 rintro D r wd229 (⟨hd2, G225, hG226, hReg228, hI227⟩ | ⟨hd1, G225, hG226, hReg228, hI227⟩) hDi hpre hpost
 obtain ⟨r0, rfl⟩ := Has.ex (cC (hReg228.ins.get 0 rfl) cN)
 exact lda hI227 1 ag84 z z z z<|nl ⟨z, (.inl ⟨hd2, _, hG226, (Regs.step hReg228 hDi z z z z), hI227⟩)⟩
 cases (hpost 9 rfl).symm.trans hd1
 rintro D r wd229 (⟨hd2, G225, hG226, hReg228, hI227⟩ | ⟨hd1, G225, hG226, hReg228, hI227⟩) hDi hpre hpost
 obtain ⟨r0, rfl⟩ := Has.ex (cC (hReg228.get 0 rfl (hpre 0 rfl)) cN)
 exact cv bo78 (pages_sheet_column_spec hy212 hI227) z z fun wd25 hI26=>nl ⟨z, (.inl ⟨hd2, _, hG226, (Regs.step hReg228 hDi z z z z), hI26⟩)⟩
 cases (hpost 9 rfl).symm.trans hd1
 rintro D r wd229 (⟨hd2, G225, hG226, hReg228, hI227⟩ | ⟨hd1, G225, hG226, hReg228, hI227⟩) hDi hpre hpost
 obtain ⟨r0, rfl⟩ := Has.ex (cC (hReg228.ins.get 0 rfl) cN)
 exact fa fl84_0 z<|nl ⟨z, (.inl ⟨hd2, _, hG226, (Regs.step hReg228 hDi z z z z), hI227⟩)⟩
 cases (hpost 9 rfl).symm.trans hd1
 rintro D r wd229 (⟨hd2, G225, hG226, hReg228, hI227⟩ | ⟨hd1, G225, hG226, hReg228, hI227⟩) hDi hpre hpost
 obtain ⟨r0, rfl⟩ := Has.ex (cC (hReg228.get 2 rfl (hpre 2 rfl)) cN)
 exact fa fl52_4 z<|nl ⟨z, (.inl ⟨hd2, _, hG226, (Regs.step hReg228 hDi z z z z), hI227⟩)⟩
 cases (hpost 9 rfl).symm.trans hd1
 rintro D r wd229 (⟨hd2, G225, hG226, hReg228, hI227⟩ | ⟨hd1, G225, hG226, hReg228, hI227⟩) hDi hpre hpost
 obtain ⟨r0, rfl⟩ := Has.ex (cC (hReg228.get 3 rfl (hpre 3 rfl)) cN)
 exact ld hI227 1 ag3 z z z<|nl ⟨z, (.inl ⟨hd2, _, hG226, (Regs.step hReg228 hDi z z z z), hI227⟩)⟩
 cases (hpost 9 rfl).symm.trans hd1
 rintro D r wd229 (⟨hd2, G225, hG226, hReg228, hI227⟩ | ⟨hd1, G225, hG226, hReg228, hI227⟩) hDi hpre hpost
 obtain ⟨r0, rfl⟩ := Has.ex (cC (hReg228.ins.get 0 rfl) cN)
 exact fa fl84_0 z<|nl ⟨z, (.inl ⟨hd2, _, hG226, (Regs.step hReg228 hDi z z z z), hI227⟩)⟩
 cases (hpost 9 rfl).symm.trans hd1
 rintro D r wd229 (⟨hd2, G225, hG226, hReg228, hI227⟩ | ⟨hd1, G225, hG226, hReg228, hI227⟩) hDi hpre hpost
 obtain ⟨r0, rfl⟩ := Has.ex (cC (hReg228.get 5 rfl (hpre 5 rfl)) cN)
 exact fa fl52_5 z<|nl ⟨z, (.inl ⟨hd2, _, hG226, (Regs.step hReg228 hDi z z z z), hI227⟩)⟩
 cases (hpost 9 rfl).symm.trans hd1
 rintro D r wd229 (⟨hd2, G225, hG226, hReg228, hI227⟩ | ⟨hd1, G225, hG226, hReg228, hI227⟩) hDi hpre hpost
 obtain ⟨r0, rfl⟩ := Has.ex (cC (hReg228.get 6 rfl (hpre 6 rfl)) cN)
 exact ld hI227 1 ag3 z z z<|nl ⟨z, (.inl ⟨hd2, _, hG226, (Regs.step hReg228 hDi z z z z), hI227⟩)⟩
 cases (hpost 9 rfl).symm.trans hd1
 rintro D r wd229 (⟨hd2, G225, hG226, hReg228, hI227⟩ | ⟨hd1, G225, hG226, hReg228, hI227⟩) hDi hpre hpost
 obtain ⟨r0, rfl⟩ := Has.ex (cC (hReg228.get 1 rfl (hpre 1 rfl)) (cC (hReg228.get 4 rfl (hpre 4 rfl)) (cC (hReg228.get 7 rfl (hpre 7 rfl)) cN)))
 exact q_build (vs := [(0, int .i64 y27), (1, int .i64 a1.Paper.Scale), (2, int .i64 a1.Paper.Lang)]) (cs := [int .i64 y27, int .i64 a1.Paper.Scale, int .i64 a1.Paper.Lang]) ze114 pl114 z z<|nl ⟨z, (.inl ⟨hd2, _, hG226, (Regs.step hReg228 hDi z z z z), hI227⟩)⟩
 cases (hpost 9 rfl).symm.trans hd1
 rintro D r wd229 (⟨hd2, G225, hG226, hReg228, hI227⟩ | ⟨hd1, G225, hG226, hReg228, hI227⟩) hDi hpre hpost
 obtain ⟨r0, rfl⟩ := Has.ex (cC (hReg228.ins.get 1 rfl) (cC (hReg228.get 8 rfl (hpre 8 rfl)) cN))
 exact stk hI227 0 ag114 z z z z z z z fun wd223 hI224=>nl ⟨z, (.inr ⟨z, _, hG226, (Regs.stepN hReg228 z z), hI224⟩)⟩
 cases hDi.symm.trans hd1
 intro D r wd229 hall hR
 rcases hR with ⟨hd2, G225, hG226, hReg228, hI227⟩ | ⟨hd1, G225, hG226, hReg228, hI227⟩
 cases (hall 9 (Nat.le_of_ble_eq_true rfl)).symm.trans hd2
 obtain ⟨r0, rfl⟩ := Has.ex (cC (hReg228.ins.get 1 rfl) cN)
 refine hK13 _ _ _<|wr<|have hr230:=res_cell (P := Tryz.prog) hI227 0 (cs := [int .i64 y27, int .i64 a1.Paper.Scale, int .i64 a1.Paper.Lang]) (g := g9) (o := 0) ag114 z z z;have hI231:=Hp.pick 2 [] hI227 z;?_
 cases H
 exact rt ⟨_, _, _, z, z, hr230, z⟩ (Hp.low hG226 hI231)
theorem pages_sheet_valid_spec {a1 : pages_sheet} {r1002 G L w} (H : pages_sheet_valid a1 = some r1002) (hI : Hp G L w) :
    Calls Tryz.prog 35 [agg [int .i64 a1.Paper.Width, int .i64 a1.Paper.Height, int .i64 a1.Paper.Columns, int .i64 a1.Paper.Gap, int .i64 a1.Paper.Scale, int .i64 a1.Paper.Lang].toArray].toArray w fun e w' => Hp G L w' ∧ e = .returned (bool r1002) := by
 refine calls_intro (N := 30) Tryz.func35 z z (Nat.le_of_ble_eq_true z)<|?_
 unfold pages_sheet_valid at H
 refine sr fun K2 hK3=>bxk hI z z fun g5 wd6 hI7=>asn z<|nl<|hK3 _ _ _<|sr fun K8 hK9=>fa fl84_0 z<|fa fl52_2 z<|ld hI7 0 ag3 z z z<|bK H fun y15 hy10 H=>cv bo59 (pages_within_spec hy10 hI7) z z fun wd13 hI14=>mv z<|bK H fun v16 hC H=>js 5 hI14 [(1, pointer (some ⟨g5, 0, none⟩)), (12, bool v16)] ?_ fun _ wd19 hI20=>?_
 refine have H:=hC;dC (y15 = true) (fun h22=>?_) fun h22=>?_
 refine yK h22 H fun H=>fa (hw:=gY z z z (vY h22)) fl84_0 z<|fa (hw:=gY z z z (vY h22)) fl52_3 z<|ld (hw:=gY z z z (vY h22)) hI14 0 ag3 z z z<|bK H fun y28 hy23 H=>cv (hw:=gY z z z (vY h22)) bo59 (pages_within_spec hy23 hI14) z z fun wd26 hI27=>pkt (vY h22) z<|nl<|?_
 cases H
 exact je ⟨z, z, tv⟩ hI27
 refine nK h22 H fun H=>Sk 4 z z (vN h22) z<|pkf (vN h22) z<|nl<|?_
 cases H
 exact je ⟨z, z, tv⟩ hI14
 refine mv z<|bK H fun v29 hC H=>js 5 hI20 [(1, pointer (some ⟨g5, 0, none⟩)), (18, bool v29)] ?_ fun _ wd32 hI33=>?_
 refine have H:=hC;dC (v16 = true) (fun h35=>?_) fun h35=>?_
 refine yK h35 H fun H=>fa (hw:=gY z z z (vY h35)) fl84_0 z<|fa (hw:=gY z z z (vY h35)) fl52_0 z<|ld (hw:=gY z z z (vY h35)) hI20 0 ag3 z z z<|bK H fun y41 hy36 H=>cv (hw:=gY z z z (vY h35)) bo59 (pages_within_spec hy36 hI20) z z fun wd39 hI40=>pkt (vY h35) z<|nl<|?_
 cases H
 exact je ⟨z, z, tv⟩ hI40
 refine nK h35 H fun H=>Sk 4 z z (vN h35) z<|pkf (vN h35) z<|nl<|?_
 cases H
 exact je ⟨z, z, tv⟩ hI20
 refine mv z<|bK H fun v42 hC H=>js 5 hI33 [(1, pointer (some ⟨g5, 0, none⟩)), (24, bool v42)] ?_ fun _ wd45 hI46=>?_
 refine have H:=hC;dC (v29 = true) (fun h48=>?_) fun h48=>?_
 refine yK h48 H fun H=>fa (hw:=gY z z z (vY h48)) fl84_0 z<|fa (hw:=gY z z z (vY h48)) fl52_1 z<|ld (hw:=gY z z z (vY h48)) hI33 0 ag3 z z z<|bK H fun y54 hy49 H=>cv (hw:=gY z z z (vY h48)) bo59 (pages_within_spec hy49 hI33) z z fun wd52 hI53=>pkt (vY h48) z<|nl<|?_
 cases H
 exact je ⟨z, z, tv⟩ hI53
 refine nK h48 H fun H=>Sk 4 z z (vN h48) z<|pkf (vN h48) z<|nl<|?_
 cases H
 exact je ⟨z, z, tv⟩ hI33
 refine mv z<|bK H fun _ hC H=>js 4 hI46 [(29, bool false)] ?_ fun _ wd57 hI58=>?_
 refine have H:=hC;dC (v42 = true) (fun h60=>?_) fun h60=>?_
 refine yK h60 H fun H=>lda (hw:=gY z z z (vY h60)) hI46 0 ag84 z z z z<|bK H fun y66 hy61 H=>cv (hw:=gY z z z (vY h60)) bo52 (pages_sheet_reader_spec hy61 hI46) z z fun wd64 hI65=>?_
 cases H
 refine nK h60 H fun H=>Sk 3 z z (vN h60) z<|pkf (vN h60) z<|nl<|?_
 cases H
 exact je ⟨z, tv⟩ hI46
 refine asn z<|nl<|hK9 _ _ _<|wr<|have hI67:=Hp.pick 1 [] hI58 z;?_
 cases H
 exact rt ⟨_, _, z, z, z⟩ hI67
theorem pages_Break_spec {a1 a2} {a7 : List Bool} {A3 c4 A8 c9 r1012 r1019 G L w} (H : pages_Break a1 a2 a7 = some (r1012, r1019)) (hI : Hp G L w) (hl5 : a2.length ≤ c4) (hD6 : Dat k_api_Slice G A3 a2) (hl10 : a7.length ≤ c9) (hD11 : Dat Kd.bool G A8 a7) :
    Calls Tryz.prog 22 [agg [int .i64 a1.Width, int .i64 a1.Height, int .i64 a1.Columns, int .i64 a1.Gap, int .i64 a1.Scale, int .i64 a1.Lang].toArray, slice A3 a2.length c4, slice A8 a7.length c9].toArray w fun e w' => ∃ (A1013 : Option Addr) (c1014 : Nat) (G' : Gh), G ≤ G' ∧ Hp G' (tk (slice A1013 r1012.length c1014) 2 40 :: L) w' ∧ r1012.length ≤ c1014 ∧ Dat k_api_Page G' A1013 r1012 ∧ Own A1013 c1014 ∧ e = .returned (tuple [slice A1013 r1012.length c1014, int .i64 r1019].toArray) := by
 refine calls_intro_m (N := 77) Tryz.func22 z z (Nat.le_of_ble_eq_true z)<|?_
 unfold pages_Break at H
 refine sr fun K12 hK13=>bxk hI z z fun g15 wd16 hI17=>asn z<|asn z<|nl<|hK13 _ _ _<|sQ fun K18 hK19=>sr fun K20 hK21=>lda hI17 0 ag52 z z z z<|q_build (vs := [(0, agg [int .i64 a1.Width, int .i64 a1.Height, int .i64 a1.Columns, int .i64 a1.Gap, int .i64 a1.Scale, int .i64 a1.Lang].toArray)]) (cs := [int .i64 a1.Width, int .i64 a1.Height, int .i64 a1.Columns, int .i64 a1.Gap, int .i64 a1.Scale, int .i64 a1.Lang]) ze84 pl84 z z<|bK H fun y27 hy22 H=>cv bo35 (pages_sheet_valid_spec (a1 := (⟨a1⟩ : pages_sheet)) hy22 hI17) z z fun wd25 hI26=>q_not z<|mv z<|?_
 refine bK H fun _ hC H=>js 5 hI26 [(1, slice A3 a2.length c4), (2, slice A8 a7.length c9), (3, pointer (some ⟨g15, 0, none⟩)), (23, bool true)] ?_ fun _ wd30 hI31=>?_
 refine have H:=hC;dC ((!y27) = true) (fun h33=>?_) fun h33=>?_
 refine yK h33 H fun H=>Sk 4 z z (vY h33) z<|pkt (vY h33) z<|nl<|?_
 cases H
 exact je ⟨z, z, z, z, tv⟩ hI26
 refine nK h33 H fun H=>mv (hw:=gY z z z (vN h33)) z<|mv (hw:=gY z z z (vN h33)) z<|?_
 cases H
 refine nl<|hK21 _ _ _<|wt z<|sr fun K34 hK35=>asn z<|asn z<|nl<|hK35 _ _ _<|wr<|?_
 refine ⟨.inr rfl, ([] : List Nat), _, _, rfl, Hp.marks (K := [bx g15 [int .i64 a1.Width, int .i64 a1.Height, int .i64 a1.Columns, int .i64 a1.Gap, int .i64 a1.Scale, int .i64 a1.Lang] 52]) hI31, fun wd37 hI36 => ?_⟩
 refine have hI38:=Hp.emp hI36;have hI40:=Hp.pick 2 [0] hI38 z;?_
 cases H
 exact ⟨_, ⟨_, _, z, z, ⟨_, _, z, z, z⟩⟩, none, 0, _, gR, hI40, (show ([] : List api_Page).length ≤ 0 from Nat.le_refl 0), (Dat.nil _ _ _), Own.nil, z⟩
theorem refs_Print_k1_spec {a1 a6 a11 a16 A2 c3 A7 c8 A12 c13 r1017 r1024 G L w} (H : refs_Print_k1 a1 a6 a11 a16 = some (r1017, r1024)) (hI : Hp G L w) (hl4 : a1.length ≤ c3) (hD5 : Dat k_api_Node G A2 a1) (hl9 : a6.length ≤ c8) (hD10 : Dat k_api_Font G A7 a6) (hl14 : a11.length ≤ c13) (hD15 : Dat k_api_Breaks G A12 a11) :
    Calls Tryz.prog 13 [agg [slice A2 a1.length c3, slice none 0 0, slice A7 a6.length c8, slice A12 a11.length c13].toArray, agg [int .i64 a16.Width, int .i64 a16.Height, int .i64 a16.Columns, int .i64 a16.Gap, int .i64 a16.Scale, int .i64 a16.Lang].toArray].toArray w fun e w' => ∃ (A1018 : Option Addr) (c1019 : Nat) (G' : Gh), G ≤ G' ∧ Hp G' (tk (slice A1018 r1017.length c1019) 2 40 :: L) w' ∧ r1017.length ≤ c1019 ∧ Dat k_api_Page G' A1018 r1017 ∧ Own A1018 c1019 ∧ e = .returned (tuple [slice A1018 r1017.length c1019, int .i64 r1024].toArray) := by
 refine calls_intro (N := 68) Tryz.func13 z z (Nat.le_of_ble_eq_true z)<|?_
 unfold refs_Print_k1 at H
 refine sr fun K17 hK18=>bxk hI z z fun g20 wd21 hI22=>bxk hI22 z z fun g24 wd25 hI26=>asn z<|asn z<|nl<|hK18 _ _ _<|wpc_scope<|sQ fun K27 hK28=>sr fun K29 hK30=>lda hI26 0 ag52 z z z z<|bK2 H fun y36 y43 hy31 H=>q_cv (vs := [agg [int .i64 a16.Width, int .i64 a16.Height, int .i64 a16.Columns, int .i64 a16.Gap, int .i64 a16.Scale, int .i64 a16.Lang].toArray, slice none 0 0, slice none 0 0]) bo22 z z (pages_Break_spec (a2 := ([] : List api_Slice)) (a7 := ([] : List Bool)) hy31 hI26 (show ([] : List api_Slice).length ≤ 0 from Nat.le_refl 0) (Dat.nil _ _ _) (show ([] : List Bool).length ≤ 0 from Nat.le_refl 0) (Dat.nil _ _ _))<|?_
 rintro _ wd34 ⟨A37, c38, G32, hG33, hI35, hl39, hD40, ho41, rfl⟩
 refine ⟨_, rfl, ?_⟩
 refine mv z<|exk z z<|exk z z<|asn z<|asn z<|nl<|hK30 _ _ _<|sr fun K44 hK45=>mv z<|q_neq z z<|mv z<|bK H fun _ hC H=>?_
 refine jS 4 G32 [(2, pointer (some ⟨g20, 0, none⟩)), (3, pointer (some ⟨g24, 0, none⟩)), (25, bool true)] (bx g24 [int .i64 a16.Width, int .i64 a16.Height, int .i64 a16.Columns, int .i64 a16.Gap, int .i64 a16.Scale, int .i64 a16.Lang] 52 :: bx g20 [slice A2 a1.length c3, slice none 0 0, slice A7 a6.length c8, slice A12 a11.length c13] 50 :: tk (slice A37 y36.length c38) 2 40 :: L) ?_ fun _ wd48 hI49=>?_
 refine have H:=hC;dC (¬ y43 = 0) (fun h51=>?_) fun h51=>?_
 refine yK h51 H fun H=>Sk 3 z z (bY h51) z<|pkt (bY h51) z<|nl<|have hI53:=Hp.pick 3 [1, 2, 0] hI35 z;?_
 cases H
 exact je ⟨z, z, z, tv⟩ hI53
 refine nK h51 H fun H=>lda (hw:=gY z z z (bN h51)) hI35 2 ag50 z z z z<|?_
 cases H
 refine nl<|hK45 _ _ _<|wt z<|sr fun K54 hK55=>asn z<|asn z<|nl<|hK55 _ _ _<|wr<|have hI56:=Hp.emp hI49;have hI58:=Hp.pick 4 [0] hI56 z;?_
 cases H
 exact ⟨.inr z, z, _, ⟨_, _, z, z, ⟨_, _, z, z, z⟩⟩, none, 0, _, hG33, hI58, (show ([] : List api_Page).length ≤ 0 from Nat.le_refl 0), (Dat.nil _ _ _), Own.nil, z⟩
theorem formeref02_SameInts_spec {a1 a6 A2 c3 A7 c8 r1011 G L w} (H : formeref02_SameInts a1 a6 = some r1011) (hI : Hp G L w) (hl4 : a1.length ≤ c3) (hD5 : Dat (Kd.int .i64) G A2 a1) (hl9 : a6.length ≤ c8) (hD10 : Dat (Kd.int .i64) G A7 a6) :
    Calls Tryz.prog 9 [slice A2 a1.length c3, slice A7 a6.length c8].toArray w fun e w' => Hp G L w' ∧ e = .returned (bool r1011) := by
 refine calls_intro (N := 26) Tryz.func9 z z (Nat.le_of_ble_eq_true z)<|?_
 unfold formeref02_SameInts at H
 refine sr fun K11 hK12=>asn z<|nl<|hK12 _ _ _<|sQ fun K13 hK14=>sr fun K15 hK16=>mv z<|q_len so25 z<|mv z<|q_len so25 z<|q_neq z z<|nl<|hK16 _ _ _<|dC (¬ (a1.length : Int) = (a6.length : Int)) (fun h17=>?_) fun h17=>?_
 refine yK h17 H fun H=>wt (bY h17)<|sr fun K18 hK19=>asn z<|nl<|hK19 _ _ _<|wr<|?_
 cases H
 exact rt ⟨_, _, z, z, z⟩ hI
 refine nK h17 H fun H=>wf (bN h17)<|ws<|hK14 _ _ _<|sQ fun K20 hK21=>sr fun K22 hK23=>asn z<|nl<|hK23 _ _ _<|wb<|bK H fun o43 hC H=>wpc_mono (Q := fun e r ds w => match (generalizing := false) o43 with | (Sum.inl _) => e = .ret ∧ ds = [] ∧ Has [(4, bool false)] r ∧ Hp G (L) w ∧ True | (Sum.inr _) => e = .exit 0 ∧ ds = [] ∧ Has [] r ∧ Hp G (L) w ∧ True) ?_ ?_
 refine wpc_loop fun I hLp=>?_
 refine formeref02_SameInts_l34.partial_correctness a1 a6 (fun v28 o => ∀ (r : Rg) (w : World), Has [(0, slice A2 a1.length c3), (1, slice A7 a6.length c8), (5, int .i64 v28)] r → Hp G (L) w → o = o43 → I r [] w) ?_ 0 _ hC _ _ ⟨rfl, rfl, rfl, tv⟩ hI rfl
 intro _ ih v28 o H r wd46 hHas hI47 ho
 rw [ho] at H; clear ho
 rw [hHas.eq]; clear hHas
 refine hLp _ _ _<|sQ fun K48 hK49=>sr fun K50 hK51=>mv z<|mv z<|q_len so25 z<|q_lss z z<|nl<|hK51 _ _ _<|dC (v28 < (a1.length : Int)) (fun h52=>?_) fun h52=>?_
 refine yK h52 H fun H=>wt (bY h52)<|ws<|hK49 _ _ _<|sQ fun K53 hK54=>wb<|sQ fun K55 hK56=>?_
 refine wpc_quiet mixo (by kernel_rfl) ?_
 refine have hI57:=hI47.drew;wq (mv z wqd) z<|wq (mv z wqd) z<|iK H fun⟨h58, h58'⟩H=>?_
 obtain ⟨ad59, cs60, hA61, hK62, hn63, hc64⟩ := Dat.get hD5 (0 : Int) (v28) h58 h58'
 obtain rfl := hK62
 refine wq (q_ia el25 z hA61 z h58 h58' wqd) z<|wq (q_lf hI57 ag3 z (gR.cel _ _ (hc64 0 _ z)) wqd) z<|wq (mv z wqd) z<|wq (mv z wqd) z<|iK H fun⟨h65, h65'⟩H=>?_
 obtain ⟨ad66, cs67, hA68, hK69, hn70, hc71⟩ := Dat.get hD10 (0 : Int) (v28) h65 h65'
 obtain rfl := hK69
 refine wq (q_ia el25 z hA68 z h65 h65' wqd) z<|wq (q_lf hI57 ag3 z (gR.cel _ _ (hc71 0 _ z)) wqd) z<|wq (q_neq z z wqd) z<|wqq_nil<|hK56 _ _ _<|dC (¬ (a1.getD (Int.toNat v28) (0 : Int)) = (a6.getD (Int.toNat v28) (0 : Int))) (fun h72=>?_) fun h72=>?_
 refine yK h72 H fun H=>wt (bY h72)<|sr fun K73 hK74=>asn z<|nl<|hK74 _ _ _<|wr<|?_
 cases H
 exact ⟨z, z, ⟨z, tv⟩, hI57, tv⟩
 exact nK h72 H fun H=>wf (bN h72)<|ws<|hK54 _ _ _<|wpc_region<|mv z<|q_add z z<|asn z<|nl<|ih _ _ H _ _ ⟨z, z, z, tv⟩ hI57 z
 refine nK h52 H fun H=>wf (bN h52)<|wx<|?_
 cases H
 exact ⟨z, z, trivial, hI47, tv⟩
 rcases o43 with _ | _
 rintro e r ds wd37 ⟨rfl, rfl, hHas, hI38, _⟩
 rw [hHas.eq]; clear hHas
 cases H
 exact rt ⟨_, _, z, z, z⟩ hI38
 rintro e r ds wd41 ⟨rfl, rfl, hHas, hI42, _⟩
 rw [hHas.eq]; clear hHas
 refine hK21 _ _ _<|sr fun K75 hK76=>asn z<|nl<|hK76 _ _ _<|wr<|?_
 cases H
 exact rt ⟨_, _, z, z, z⟩ hI42
theorem formelaw41_head_spec {r1001 G L w} (H : formelaw41_head = some r1001) (hI : Hp G L w) (hgl : Gl G) :
    Calls Tryz.prog 5 [].toArray w fun e w' => Hp G L w' ∧ e = .returned (bool r1001) := by
 refine calls_intro (N := 91) Tryz.func5 z z (Nat.le_of_ble_eq_true z)<|?_
 unfold formelaw41_head at H
 refine sr fun K1 hK2=>asn z<|nl<|hK2 _ _ _<|sr fun K3 hK4=>q_build (vs := [(0, int .i64 1)]) (cs := [int .i64 1, slice none 0 0]) ze40 pl40 z z<|q_build (vs := [(0, int .i64 12)]) (cs := [int .i64 12, int .i64 0, int .i64 0, int .i64 0, int .i64 0, string (⟨#[]⟩ : ByteArray), bool false, bool false]) ze42 pl42 z z<|?_
 refine q_bs hI (vs := [(0, agg [int .i64 12, int .i64 0, int .i64 0, int .i64 0, int .i64 0, string (⟨#[]⟩ : ByteArray), bool false, bool false].toArray)]) (cs := [int .i64 12, int .i64 0, int .i64 0, int .i64 0, int .i64 0, string (⟨#[]⟩ : ByteArray), bool false, bool false]) el38 ze42 rfl (by decide) rfl (by kernel_rfl) (fun g6 wd7 hI8 => ?_)
 obtain ⟨G9, hG10, hI12, hD11⟩ := Hp.publish (xs := ([(⟨12, 0, 0, 0, 0, (⟨#[]⟩ : ByteArray), false, false⟩ : api_Slice)] : List api_Slice)) (n := 1) k_api_Slice hI8 ⟨[int .i64 12, int .i64 0, int .i64 0, int .i64 0, int .i64 0, string (⟨#[]⟩ : ByteArray), bool false, bool false], _, rfl, (mk_api_Slice (x := (⟨12, 0, 0, 0, 0, (⟨#[]⟩ : ByteArray), false, false⟩ : api_Slice))), rfl⟩ rfl
 refine q_build (vs := [(0, int .i64 2), (1, slice (some ⟨g6, 0, none⟩) ([(⟨12, 0, 0, 0, 0, (⟨#[]⟩ : ByteArray), false, false⟩ : api_Slice)] : List api_Slice).length 1)]) (cs := [int .i64 2, slice (some ⟨g6, 0, none⟩) ([(⟨12, 0, 0, 0, 0, (⟨#[]⟩ : ByteArray), false, false⟩ : api_Slice)] : List api_Slice).length 1]) ze40 pl40 z z<|?_
 refine q_bs hI12 (vs := [(0, agg [int .i64 1, slice none 0 0].toArray), (1, agg [int .i64 2, slice (some ⟨g6, 0, none⟩) ([(⟨12, 0, 0, 0, 0, (⟨#[]⟩ : ByteArray), false, false⟩ : api_Slice)] : List api_Slice).length 1].toArray)]) (cs := [int .i64 1, slice none 0 0, int .i64 2, slice (some ⟨g6, 0, none⟩) ([(⟨12, 0, 0, 0, 0, (⟨#[]⟩ : ByteArray), false, false⟩ : api_Slice)] : List api_Slice).length 1]) el22 ze40 rfl (by decide) rfl (by kernel_rfl) (fun g14 wd15 hI16 => ?_)
 obtain ⟨G17, hG18, hI20, hD19⟩ := Hp.publish (xs := ([(⟨1, ([] : List api_Slice)⟩ : api_Page), (⟨2, ([(⟨12, 0, 0, 0, 0, (⟨#[]⟩ : ByteArray), false, false⟩ : api_Slice)] : List api_Slice)⟩ : api_Page)] : List api_Page)) (n := 2) k_api_Page hI16 ⟨[int .i64 1, slice none 0 0], _, rfl, (mk_api_Page (x := (⟨1, ([] : List api_Slice)⟩ : api_Page)) (show ([] : List api_Slice).length ≤ 0 from Nat.le_refl 0) (Dat.nil _ _ _)), ⟨[int .i64 2, slice (some ⟨g6, 0, none⟩) ([(⟨12, 0, 0, 0, 0, (⟨#[]⟩ : ByteArray), false, false⟩ : api_Slice)] : List api_Slice).length 1], _, rfl, (mk_api_Page (x := (⟨2, ([(⟨12, 0, 0, 0, 0, (⟨#[]⟩ : ByteArray), false, false⟩ : api_Slice)] : List api_Slice)⟩ : api_Page)) (show ([(⟨12, 0, 0, 0, 0, (⟨#[]⟩ : ByteArray), false, false⟩ : api_Slice)] : List api_Slice).length ≤ 1 from Nat.le_of_ble_eq_true rfl) hD11), rfl⟩⟩ rfl
 refine asn z<|nl<|hK4 _ _ _<|sr fun K21 hK22=>bK2 H fun y28 y35 hy23 H=>q_cv (vs := [string (⟨#[115, 101, 101, 32, 64, 49, 50, 64, 44, 32, 64, 51, 64, 33]⟩ : ByteArray)]) bo7 z z (refs_Refs_spec hy23 hI20 (hgl.mono (gT hG10 hG18)))<|?_
 rintro _ wd26 ⟨A29, c30, G24, hG25, hI27, hl31, hD32, ho33, rfl⟩
 refine ⟨_, rfl, ?_⟩
 refine mv z<|exk z z<|exk z z<|asn z<|asn z<|nl<|hK22 _ _ _<|sr fun K36 hK37=>bK2 H fun y43 y50 hy38 H=>q_cv (vs := [string (⟨#[64, 48, 49, 50, 64, 32, 64, 48, 64, 32, 64, 49, 32, 50, 64, 32, 64, 64, 55, 64, 56, 64]⟩ : ByteArray)]) bo7 z z (refs_Refs_spec hy38 hI27 (hgl.mono (gT (gT hG10 hG18) hG25)))<|?_
 rintro _ wd41 ⟨A44, c45, G39, hG40, hI42, hl46, hD47, ho48, rfl⟩
 refine ⟨_, rfl, ?_⟩
 refine mv z<|exk z z<|exk z z<|asn z<|asn z<|nl<|hK37 _ _ _<|sr fun K51 hK52=>mv z<|bK2 H fun y58 y59 hy53 H=>cv bo8 (refs_Fill_spec (a2 := ([(⟨1, ([] : List api_Slice)⟩ : api_Page), (⟨2, ([(⟨12, 0, 0, 0, 0, (⟨#[]⟩ : ByteArray), false, false⟩ : api_Slice)] : List api_Slice)⟩ : api_Page)] : List api_Page)) hy53 hI42 (show ([(⟨1, ([] : List api_Slice)⟩ : api_Page), (⟨2, ([(⟨12, 0, 0, 0, 0, (⟨#[]⟩ : ByteArray), false, false⟩ : api_Slice)] : List api_Slice)⟩ : api_Page)] : List api_Page).length ≤ 2 from Nat.le_of_ble_eq_true z) (Dat.mono (gT hG25 hG40) hD19) (hgl.mono (gT (gT (gT hG10 hG18) hG25) hG40))) z z fun wd56 hI57=>mv z<|exk z z<|exk z z<|?_
 refine asn z<|asn z<|nl<|hK52 _ _ _<|sr fun K60 hK61=>mv z<|bK2 H fun y67 y68 hy62 H=>cv bo8 (refs_Fill_spec (a2 := ([(⟨1, ([] : List api_Slice)⟩ : api_Page), (⟨2, ([(⟨12, 0, 0, 0, 0, (⟨#[]⟩ : ByteArray), false, false⟩ : api_Slice)] : List api_Slice)⟩ : api_Page)] : List api_Page)) hy62 hI57 (show ([(⟨1, ([] : List api_Slice)⟩ : api_Page), (⟨2, ([(⟨12, 0, 0, 0, 0, (⟨#[]⟩ : ByteArray), false, false⟩ : api_Slice)] : List api_Slice)⟩ : api_Page)] : List api_Page).length ≤ 2 from Nat.le_of_ble_eq_true z) (Dat.mono (gT hG25 hG40) hD19) (hgl.mono (gT (gT (gT hG10 hG18) hG25) hG40))) z z fun wd65 hI66=>mv z<|exk z z<|exk z z<|asn z<|asn z<|nl<|?_
 refine hK61 _ _ _<|sr fun K69 hK70=>q_build (vs := []) (cs := [int .i64 0, slice none 0 0]) ze40 pl40 z z<|?_
 refine q_bs hI66 (vs := [(0, agg [int .i64 0, slice none 0 0].toArray)]) (cs := [int .i64 0, slice none 0 0]) el22 ze40 rfl (by decide) rfl (by kernel_rfl) (fun g72 wd73 hI74 => ?_)
 obtain ⟨G75, hG76, hI78, hD77⟩ := Hp.publish (xs := ([(⟨0, ([] : List api_Slice)⟩ : api_Page)] : List api_Page)) (n := 1) k_api_Page hI74 ⟨[int .i64 0, slice none 0 0], _, rfl, (mk_api_Page (x := (⟨0, ([] : List api_Slice)⟩ : api_Page)) (show ([] : List api_Slice).length ≤ 0 from Nat.le_refl 0) (Dat.nil _ _ _)), rfl⟩ rfl
 refine bK2 H fun y84 y85 hy79 H=>cv bo8 (refs_Fill_spec (a2 := ([(⟨0, ([] : List api_Slice)⟩ : api_Page)] : List api_Page)) hy79 hI78 (show ([(⟨0, ([] : List api_Slice)⟩ : api_Page)] : List api_Page).length ≤ 1 from Nat.le_of_ble_eq_true z) hD77 (hgl.mono (gT (gT (gT (gT hG10 hG18) hG25) hG40) hG76))) z z fun wd82 hI83=>mv z<|exk z z<|exk z z<|asn z<|asn z<|nl<|hK70 _ _ _<|sr fun K86 hK87=>q_build (vs := []) (cs := [slice none 0 0, slice none 0 0, slice none 0 0, slice none 0 0]) ze50 pl50 z z<|q_build (vs := []) (cs := [int .i64 0, int .i64 0, int .i64 0, int .i64 0, int .i64 0, int .i64 0]) ze52 pl52 z z<|bK2 H fun y93 y100 hy88 H=>q_cv (vs := [agg [slice none 0 0, slice none 0 0, slice none 0 0, slice none 0 0].toArray, agg [int .i64 0, int .i64 0, int .i64 0, int .i64 0, int .i64 0, int .i64 0].toArray]) bo13 z z (refs_Print_k1_spec (a1 := ([] : List api_Node)) (a6 := ([] : List api_Font)) (a11 := ([] : List api_Breaks)) (a16 := (⟨0, 0, 0, 0, 0, 0⟩ : api_Paper)) hy88 hI83 (show ([] : List api_Node).length ≤ 0 from Nat.le_refl 0) (Dat.nil _ _ _) (show ([] : List api_Font).length ≤ 0 from Nat.le_refl 0) (Dat.nil _ _ _) (show ([] : List api_Breaks).length ≤ 0 from Nat.le_refl 0) (Dat.nil _ _ _))<|?_
 rintro _ wd91 ⟨A94, c95, G89, hG90, hI92, hl96, hD97, ho98, rfl⟩
 refine ⟨_, rfl, ?_⟩
 refine mv z<|exk z z<|exk z z<|asn z<|asn z<|nl<|hK87 _ _ _<|sr fun K101 hK102=>mv z<|q_eql z z<|mv z<|bK H fun v103 hC H=>js 3 hI92 [(2, slice A29 y28.length c30), (4, slice A44 y43.length c45), (6, string y58), (7, int .i64 y59), (8, string y67), (9, int .i64 y68), (11, int .i64 y85), (13, int .i64 y100), (55, bool v103)] ?_ fun _ wd106 hI107=>?_
 refine have H:=hC;dC (y35 = 0) (fun h109=>?_) fun h109=>?_
 refine yK h109 H fun H=>mv (hw:=gY z z z (bY h109)) z<|q_eql (hw:=gY z z z (bY h109)) z z<|pkt (bY h109) z<|nl<|?_
 cases H
 exact je ⟨z, z, z, z, z, z, z, z, z, tv⟩ hI92
 refine nK h109 H fun H=>Sk 2 z z (bN h109) z<|pkf (bN h109) z<|nl<|?_
 cases H
 exact je ⟨z, z, z, z, z, z, z, z, z, tv⟩ hI92
 refine mv z<|bK H fun v110 hC H=>js 3 hI107 [(2, slice A29 y28.length c30), (4, slice A44 y43.length c45), (6, string y58), (8, string y67), (9, int .i64 y68), (11, int .i64 y85), (13, int .i64 y100), (59, bool v110)] ?_ fun _ wd113 hI114=>?_
 refine have H:=hC;dC (v103 = true) (fun h116=>?_) fun h116=>?_
 refine yK h116 H fun H=>mv (hw:=gY z z z (vY h116)) z<|q_eql (hw:=gY z z z (vY h116)) z z<|pkt (vY h116) z<|nl<|?_
 cases H
 exact je ⟨z, z, z, z, z, z, z, z, tv⟩ hI107
 refine nK h116 H fun H=>Sk 2 z z (vN h116) z<|pkf (vN h116) z<|nl<|?_
 cases H
 exact je ⟨z, z, z, z, z, z, z, z, tv⟩ hI107
 refine mv z<|bK H fun v117 hC H=>js 3 hI114 [(2, slice A29 y28.length c30), (4, slice A44 y43.length c45), (6, string y58), (8, string y67), (11, int .i64 y85), (13, int .i64 y100), (63, bool v117)] ?_ fun _ wd120 hI121=>?_
 refine have H:=hC;dC (v110 = true) (fun h123=>?_) fun h123=>?_
 refine yK h123 H fun H=>mv (hw:=gY z z z (vY h123)) z<|q_eql (hw:=gY z z z (vY h123)) z z<|pkt (vY h123) z<|nl<|?_
 cases H
 exact je ⟨z, z, z, z, z, z, z, tv⟩ hI114
 refine nK h123 H fun H=>Sk 2 z z (vN h123) z<|pkf (vN h123) z<|nl<|?_
 cases H
 exact je ⟨z, z, z, z, z, z, z, tv⟩ hI114
 refine mv z<|bK H fun v124 hC H=>js 3 hI121 [(2, slice A29 y28.length c30), (4, slice A44 y43.length c45), (6, string y58), (8, string y67), (13, int .i64 y100), (67, bool v124)] ?_ fun _ wd127 hI128=>?_
 refine have H:=hC;dC (v117 = true) (fun h130=>?_) fun h130=>?_
 refine yK h130 H fun H=>mv (hw:=gY z z z (vY h130)) z<|q_eql (hw:=gY z z z (vY h130)) z z<|pkt (vY h130) z<|nl<|?_
 cases H
 exact je ⟨z, z, z, z, z, z, tv⟩ hI121
 refine nK h130 H fun H=>Sk 2 z z (vN h130) z<|pkf (vN h130) z<|nl<|?_
 cases H
 exact je ⟨z, z, z, z, z, z, tv⟩ hI121
 refine mv z<|bK H fun v131 hC H=>js 3 hI128 [(2, slice A29 y28.length c30), (4, slice A44 y43.length c45), (6, string y58), (8, string y67), (71, bool v131)] ?_ fun _ wd134 hI135=>?_
 refine have H:=hC;dC (v124 = true) (fun h137=>?_) fun h137=>?_
 refine yK h137 H fun H=>mv (hw:=gY z z z (vY h137)) z<|q_eql (hw:=gY z z z (vY h137)) z z<|pkt (vY h137) z<|nl<|?_
 cases H
 exact je ⟨z, z, z, z, z, tv⟩ hI128
 refine nK h137 H fun H=>Sk 2 z z (vN h137) z<|pkf (vN h137) z<|nl<|?_
 cases H
 exact je ⟨z, z, z, z, z, tv⟩ hI128
 refine asn z<|nl<|hK102 _ _ _<|sr fun K138 hK139=>mv z<|mv z<|bK H fun v140 hC H=>js 4 hI135 [(4, slice A44 y43.length c45), (6, string y58), (8, string y67), (77, bool v140)] ?_ fun _ wd143 hI144=>?_
 refine have H:=hC;dC (v131 = true) (fun h146=>?_) fun h146=>?_
 refine yK h146 H fun H=>mv (hw:=gY z z z (vY h146)) z<|?_
 refine q_bs hI135 (vs := [(0, int .i64 12), (1, int .i64 3)]) (cs := [int .i64 12, int .i64 3]) el25 ze3 rfl (by decide) rfl (by kernel_rfl) (fun g148 wd149 hI150 => ?_) (hw := gY rfl rfl rfl (bval_yes h146))
 obtain ⟨G151, hG152, hI154, hD153⟩ := Hp.publish (xs := ([12, 3] : List Int)) (n := 2) (Kd.int .i64) hI150 ⟨[int .i64 12], _, rfl, rfl, ⟨[int .i64 3], _, rfl, rfl, rfl⟩⟩ rfl
 refine bK H fun y160 hy155 H=>cv (hw:=gY z z z (vY h146)) bo9 (formeref02_SameInts_spec (a6 := ([12, 3] : List Int)) hy155 hI154 hl31 (Dat.mono (gT (gT (gT hG40 hG76) hG90) hG152) hD32) (show ([12, 3] : List Int).length ≤ 2 from Nat.le_of_ble_eq_true z) hD153) z z fun wd158 hI159=>pkt (vY h146) z<|nl<|have hI167:=Hp.pick 7 [1, 2, 3, 4, 5, 6] hI159 z;?_
 cases H
 exact je ⟨z, z, z, z, tv⟩ (Hp.low hG152 hI167)
 refine nK h146 H fun H=>Sk 3 z z (vN h146) z<|pkf (vN h146) z<|nl<|?_
 cases H
 exact je ⟨z, z, z, z, tv⟩ hI135
 refine mv z<|bK H fun v168 hC H=>js 4 hI144 [(6, string y58), (8, string y67), (82, bool v168)] ?_ fun _ wd171 hI172=>?_
 refine have H:=hC;dC (v140 = true) (fun h174=>?_) fun h174=>?_
 refine yK h174 H fun H=>mv (hw:=gY z z z (vY h174)) z<|?_
 refine q_bs hI144 (vs := [(0, int .i64 7)]) (cs := [int .i64 7]) el25 ze3 rfl (by decide) rfl (by kernel_rfl) (fun g176 wd177 hI178 => ?_) (hw := gY rfl rfl rfl (bval_yes h174))
 obtain ⟨G179, hG180, hI182, hD181⟩ := Hp.publish (xs := ([7] : List Int)) (n := 1) (Kd.int .i64) hI178 ⟨[int .i64 7], _, rfl, rfl, rfl⟩ rfl
 refine bK H fun y188 hy183 H=>cv (hw:=gY z z z (vY h174)) bo9 (formeref02_SameInts_spec (a6 := ([7] : List Int)) hy183 hI182 hl46 (Dat.mono (gT (gT hG76 hG90) hG180) hD47) (show ([7] : List Int).length ≤ 1 from Nat.le_of_ble_eq_true z) hD181) z z fun wd186 hI187=>pkt (vY h174) z<|nl<|have hI195:=Hp.pick 7 [1, 2, 3, 4, 5, 6] hI187 z;?_
 cases H
 exact je ⟨z, z, z, tv⟩ (Hp.low hG180 hI195)
 refine nK h174 H fun H=>Sk 3 z z (vN h174) z<|pkf (vN h174) z<|nl<|?_
 cases H
 exact je ⟨z, z, z, tv⟩ hI144
 refine mv z<|bK H fun v196 hC H=>js 3 hI172 [(8, string y67), (86, bool v196)] ?_ fun _ wd199 hI200=>?_
 refine have H:=hC;dC (v168 = true) (fun h202=>?_) fun h202=>?_
 refine yK h202 H fun H=>mv (hw:=gY z z z (vY h202)) z<|q_str_eql (hw:=gY z z z (vY h202)) z z<|pkt (vY h202) z<|nl<|?_
 cases H
 exact je ⟨z, z, tv⟩ hI172
 refine nK h202 H fun H=>Sk 2 z z (vN h202) z<|pkf (vN h202) z<|nl<|?_
 cases H
 exact je ⟨z, z, tv⟩ hI172
 refine mv z<|bK H fun v203 hC H=>js 3 hI200 [(90, bool v203)] ?_ fun _ wd206 hI207=>?_
 refine have H:=hC;dC (v196 = true) (fun h209=>?_) fun h209=>?_
 refine yK h209 H fun H=>mv (hw:=gY z z z (vY h209)) z<|q_str_eql (hw:=gY z z z (vY h209)) z z<|pkt (vY h209) z<|nl<|?_
 cases H
 exact je ⟨z, tv⟩ hI200
 refine nK h209 H fun H=>Sk 2 z z (vN h209) z<|pkf (vN h209) z<|nl<|?_
 cases H
 exact je ⟨z, tv⟩ hI200
 refine asn z<|nl<|hK139 _ _ _<|wr<|have hI210:=Hp.pick 6 [] hI207 z;?_
 cases H
 exact rt ⟨_, _, z, z, z⟩ (Hp.low (gT (gT (gT (gT (gT hG10 hG18) hG25) hG40) hG76) hG90) hI210)
theorem formelaw41_few_spec {a1 A2 c3 r1006 G L w} (H : formelaw41_few a1 = some r1006) (hI : Hp G L w) (hl4 : a1.length ≤ c3) (hD5 : Dat k_api_Page G A2 a1) :
    Calls Tryz.prog 6 [slice A2 a1.length c3].toArray w fun e w' => Hp G L w' ∧ e = .returned (bool r1006) := by
 refine calls_intro (N := 24) Tryz.func6 z z (Nat.le_of_ble_eq_true z)<|?_
 unfold formelaw41_few at H
 refine sr fun K6 hK7=>asn z<|nl<|hK7 _ _ _<|sQ fun K8 hK9=>sr fun K10 hK11=>asn z<|nl<|hK11 _ _ _<|wb<|bK H fun o31 hC H=>wpc_mono (Q := fun e r ds w => match (generalizing := false) o31 with | (Sum.inl _) => e = .ret ∧ ds = [] ∧ Has [(2, bool false)] r ∧ Hp G (L) w ∧ True | (Sum.inr _) => e = .exit 0 ∧ ds = [] ∧ Has [(0, slice A2 a1.length c3)] r ∧ Hp G (L) w ∧ True) ?_ ?_
 refine wpc_loop fun I hLp=>?_
 refine formelaw41_few_l22.partial_correctness a1 (fun v16 o => ∀ (r : Rg) (w : World), Has [(0, slice A2 a1.length c3), (3, int .i64 v16)] r → Hp G (L) w → o = o31 → I r [] w) ?_ 0 _ hC _ _ ⟨rfl, rfl, tv⟩ hI rfl
 intro _ ih v16 o H r wd34 hHas hI35 ho
 rw [ho] at H; clear ho
 rw [hHas.eq]; clear hHas
 refine hLp _ _ _<|sQ fun K36 hK37=>sr fun K38 hK39=>mv z<|mv z<|q_len so22 z<|q_lss z z<|mv z<|bK H fun v40 hC H=>js 3 hI35 [(0, slice A2 a1.length c3), (3, int .i64 v16), (11, bool v40)] ?_ fun _ wd43 hI44=>?_
 refine have H:=hC;dC (v16 < (a1.length : Int)) (fun h46=>?_) fun h46=>?_
 refine yK h46 H fun H=>mv (hw:=gY z z z (bY h46)) z<|q_lss (hw:=gY z z z (bY h46)) z z<|pkt (bY h46) z<|nl<|?_
 cases H
 exact je ⟨z, z, z, tv⟩ hI35
 refine nK h46 H fun H=>Sk 2 z z (bN h46) z<|pkf (bN h46) z<|nl<|?_
 cases H
 exact je ⟨z, z, z, tv⟩ hI35
 refine nl<|hK39 _ _ _<|dC (v40 = true) (fun h47=>?_) fun h47=>?_
 refine yK h47 H fun H=>wt (vY h47)<|ws<|hK37 _ _ _<|sQ fun K48 hK49=>wb<|sr fun K50 hK51=>mv z<|mv z<|iK H fun⟨h52, h52'⟩H=>?_
 obtain ⟨ad53, cs54, hA55, hK56, hn57, hc58⟩ := Dat.get hD5 z_api_Page (v16) h52 h52'
 obtain ⟨A59, c60, hl61, hD62, rfl⟩ := open_api_Page hK56
 refine q_ia el22 z hA55 z h52 h52'<|q_fa fl40_1 z z<|q_lf hI44 ag38 z (gR.cel _ _ (hc58 1 _ z))<|q_len so38 z<|q_gtr z z<|nl<|hK51 _ _ _<|dC (100 < (((a1.getD (Int.toNat v16) z_api_Page).Slices).length : Int)) (fun h63=>?_) fun h63=>?_
 refine yK h63 H fun H=>wt (bY h63)<|sr fun K64 hK65=>asn z<|nl<|hK65 _ _ _<|wr<|?_
 cases H
 exact ⟨z, z, ⟨z, tv⟩, hI44, tv⟩
 exact nK h63 H fun H=>wf (bN h63)<|ws<|hK49 _ _ _<|wpc_region<|mv z<|q_add z z<|asn z<|nl<|ih _ _ H _ _ ⟨z, z, tv⟩ hI44 z
 refine nK h47 H fun H=>wf (vN h47)<|wx<|?_
 cases H
 exact ⟨z, z, ⟨z, tv⟩, hI44, tv⟩
 rcases o31 with _ | _
 rintro e r ds wd25 ⟨rfl, rfl, hHas, hI26, _⟩
 rw [hHas.eq]; clear hHas
 cases H
 exact rt ⟨_, _, z, z, z⟩ hI26
 rintro e r ds wd29 ⟨rfl, rfl, hHas, hI30, _⟩
 rw [hHas.eq]; clear hHas
 refine hK9 _ _ _<|sr fun K66 hK67=>mv z<|q_len so22 z<|q_leq z z<|asn z<|nl<|hK67 _ _ _<|wr<|?_
 cases H
 exact rt ⟨_, _, z, z, z⟩ hI30
theorem formeref06_Class_spec {a1 r1002 G L w} (H : formeref06_Class a1 = some r1002) (hI : Hp G L w) :
    Calls Tryz.prog 19 [int .u8 a1].toArray w fun e w' => Hp G L w' ∧ e = .returned (int .i64 r1002) := by
 refine calls_intro (N := 31) Tryz.func19 z z (Nat.le_of_ble_eq_true z)<|?_
 unfold formeref06_Class at H
 refine sr fun K2 hK3=>asn z<|nl<|hK3 _ _ _<|sQ fun K4 hK5=>sr fun K6 hK7=>mv z<|q_geq z z<|mv z<|bK H fun v8 hC H=>js 3 hI [(0, int .u8 a1), (8, bool v8)] ?_ fun _ wd11 hI12=>?_
 refine have H:=hC;dC (97 ≤ a1) (fun h14=>?_) fun h14=>?_
 refine yK h14 H fun H=>mv (hw:=gY z z z (bY h14)) z<|q_leq (hw:=gY z z z (bY h14)) z z<|pkt (bY h14) z<|nl<|?_
 cases H
 exact je ⟨z, z, tv⟩ hI
 refine nK h14 H fun H=>Sk 2 z z (bN h14) z<|pkf (bN h14) z<|nl<|?_
 cases H
 exact je ⟨z, z, tv⟩ hI
 refine nl<|hK7 _ _ _<|dC (v8 = true) (fun h15=>?_) fun h15=>?_
 refine yK h15 H fun H=>wt (vY h15)<|sr fun K16 hK17=>asn z<|nl<|hK17 _ _ _<|wr<|?_
 cases H
 exact rt ⟨_, _, z, z, z⟩ hI12
 refine nK h15 H fun H=>wf (vN h15)<|ws<|hK5 _ _ _<|sQ fun K18 hK19=>sr fun K20 hK21=>mv z<|q_geq z z<|mv z<|bK H fun v22 hC H=>js 3 hI12 [(0, int .u8 a1), (14, bool v22)] ?_ fun _ wd25 hI26=>?_
 refine have H:=hC;dC (65 ≤ a1) (fun h28=>?_) fun h28=>?_
 refine yK h28 H fun H=>mv (hw:=gY z z z (bY h28)) z<|q_leq (hw:=gY z z z (bY h28)) z z<|pkt (bY h28) z<|nl<|?_
 cases H
 exact je ⟨z, z, tv⟩ hI12
 refine nK h28 H fun H=>Sk 2 z z (bN h28) z<|pkf (bN h28) z<|nl<|?_
 cases H
 exact je ⟨z, z, tv⟩ hI12
 refine nl<|hK21 _ _ _<|dC (v22 = true) (fun h29=>?_) fun h29=>?_
 refine yK h29 H fun H=>wt (vY h29)<|sr fun K30 hK31=>asn z<|nl<|hK31 _ _ _<|wr<|?_
 cases H
 exact rt ⟨_, _, z, z, z⟩ hI26
 refine nK h29 H fun H=>wf (vN h29)<|ws<|hK19 _ _ _<|sQ fun K32 hK33=>sr fun K34 hK35=>mv z<|q_geq z z<|mv z<|bK H fun v36 hC H=>js 3 hI26 [(0, int .u8 a1), (20, bool v36)] ?_ fun _ wd39 hI40=>?_
 refine have H:=hC;dC (48 ≤ a1) (fun h42=>?_) fun h42=>?_
 refine yK h42 H fun H=>mv (hw:=gY z z z (bY h42)) z<|q_leq (hw:=gY z z z (bY h42)) z z<|pkt (bY h42) z<|nl<|?_
 cases H
 exact je ⟨z, z, tv⟩ hI26
 refine nK h42 H fun H=>Sk 2 z z (bN h42) z<|pkf (bN h42) z<|nl<|?_
 cases H
 exact je ⟨z, z, tv⟩ hI26
 refine nl<|hK35 _ _ _<|dC (v36 = true) (fun h43=>?_) fun h43=>?_
 refine yK h43 H fun H=>wt (vY h43)<|sr fun K44 hK45=>asn z<|nl<|hK45 _ _ _<|wr<|?_
 cases H
 exact rt ⟨_, _, z, z, z⟩ hI40
 refine nK h43 H fun H=>wf (vN h43)<|ws<|hK33 _ _ _<|sQ fun K46 hK47=>sr fun K48 hK49=>mv z<|q_eql z z<|nl<|hK49 _ _ _<|dC (a1 = 32) (fun h50=>?_) fun h50=>?_
 refine yK h50 H fun H=>wt (bY h50)<|sr fun K51 hK52=>asn z<|nl<|hK52 _ _ _<|wr<|?_
 cases H
 exact rt ⟨_, _, z, z, z⟩ hI40
 refine nK h50 H fun H=>wf (bN h50)<|ws<|hK47 _ _ _<|sQ fun K53 hK54=>sr fun K55 hK56=>mv z<|q_eql z z<|nl<|hK56 _ _ _<|dC (a1 = 126) (fun h57=>?_) fun h57=>?_
 refine yK h57 H fun H=>wt (bY h57)<|sr fun K58 hK59=>asn z<|nl<|hK59 _ _ _<|wr<|?_
 cases H
 exact rt ⟨_, _, z, z, z⟩ hI40
 refine nK h57 H fun H=>wf (bN h57)<|ws<|hK54 _ _ _<|sQ fun K60 hK61=>sr fun K62 hK63=>mv z<|q_gtr z z<|mv z<|bK H fun v64 hC H=>js 3 hI40 [(30, bool v64)] ?_ fun _ wd67 hI68=>?_
 refine have H:=hC;dC (32 < a1) (fun h70=>?_) fun h70=>?_
 refine yK h70 H fun H=>mv (hw:=gY z z z (bY h70)) z<|q_lss (hw:=gY z z z (bY h70)) z z<|pkt (bY h70) z<|nl<|?_
 cases H
 exact je ⟨z, tv⟩ hI40
 refine nK h70 H fun H=>Sk 2 z z (bN h70) z<|pkf (bN h70) z<|nl<|?_
 cases H
 exact je ⟨z, tv⟩ hI40
 refine nl<|hK63 _ _ _<|dC (v64 = true) (fun h71=>?_) fun h71=>?_
 refine yK h71 H fun H=>wt (vY h71)<|sr fun K72 hK73=>asn z<|nl<|hK73 _ _ _<|wr<|?_
 cases H
 exact rt ⟨_, _, z, z, z⟩ hI68
 refine nK h71 H fun H=>wf (vN h71)<|ws<|hK61 _ _ _<|sr fun K74 hK75=>asn z<|nl<|hK75 _ _ _<|wr<|?_
 cases H
 exact rt ⟨_, _, z, z, z⟩ hI68
theorem formeref06_Valid_spec {a1 r1002 G L w} (H : formeref06_Valid a1 = some r1002) (hI : Hp G L w) :
    Calls Tryz.prog 10 [string a1].toArray w fun e w' => Hp G L w' ∧ e = .returned (bool r1002) := by
 refine calls_intro (N := 18) Tryz.func10 z z (Nat.le_of_ble_eq_true z)<|?_
 unfold formeref06_Valid at H
 refine sr fun K2 hK3=>asn z<|nl<|hK3 _ _ _<|sQ fun K4 hK5=>sr fun K6 hK7=>asn z<|nl<|hK7 _ _ _<|wb<|bK H fun o27 hC H=>wpc_mono (Q := fun e r ds w => match (generalizing := false) o27 with | (Sum.inl _) => e = .ret ∧ ds = [] ∧ Has [(2, bool false)] r ∧ Hp G (L) w ∧ True | (Sum.inr _) => e = .exit 0 ∧ ds = [] ∧ Has [(0, string a1)] r ∧ Hp G (L) w ∧ True) ?_ ?_
 refine wpc_loop fun I hLp=>?_
 refine formeref06_Valid_l18.partial_correctness a1 (fun v12 o => ∀ (r : Rg) (w : World), Has [(0, string a1), (3, int .i64 v12)] r → Hp G (L) w → o = o27 → I r [] w) ?_ 0 _ hC _ _ ⟨rfl, rfl, tv⟩ hI rfl
 intro _ ih v12 o H r wd30 hHas hI31 ho
 rw [ho] at H; clear ho
 rw [hHas.eq]; clear hHas
 refine hLp _ _ _<|sQ fun K32 hK33=>sr fun K34 hK35=>mv z<|mv z<|q_lens so9 z<|q_lss z z<|nl<|hK35 _ _ _<|dC (v12 < (a1.size : Int)) (fun h36=>?_) fun h36=>?_
 refine yK h36 H fun H=>wt (bY h36)<|ws<|hK33 _ _ _<|sQ fun K37 hK38=>wb<|sr fun K39 hK40=>mv z<|mv z<|iK H fun⟨h41, h41'⟩H=>q_is so9 z z h41 h41' z<|bK H fun y47 hy42 H=>cv bo19 (formeref06_Class_spec hy42 hI31) z z fun wd45 hI46=>q_eql z z<|?_
 refine nl<|hK40 _ _ _<|dC (y47 = 0) (fun h48=>?_) fun h48=>?_
 refine yK h48 H fun H=>wt (bY h48)<|sr fun K49 hK50=>asn z<|nl<|hK50 _ _ _<|wr<|?_
 cases H
 exact ⟨z, z, ⟨z, tv⟩, hI46, tv⟩
 exact nK h48 H fun H=>wf (bN h48)<|ws<|hK38 _ _ _<|wpc_region<|mv z<|q_add z z<|asn z<|nl<|ih _ _ H _ _ ⟨z, z, tv⟩ hI46 z
 refine nK h36 H fun H=>wf (bN h36)<|wx<|?_
 cases H
 exact ⟨z, z, ⟨z, tv⟩, hI31, tv⟩
 rcases o27 with _ | _
 rintro e r ds wd21 ⟨rfl, rfl, hHas, hI22, _⟩
 rw [hHas.eq]; clear hHas
 cases H
 exact rt ⟨_, _, z, z, z⟩ hI22
 rintro e r ds wd25 ⟨rfl, rfl, hHas, hI26, _⟩
 rw [hHas.eq]; clear hHas
 refine hK5 _ _ _<|sr fun K51 hK52=>mv z<|q_lens so9 z<|q_leq z z<|asn z<|nl<|hK52 _ _ _<|wr<|?_
 cases H
 exact rt ⟨_, _, z, z, z⟩ hI26
theorem formeref04_Decimal_spec {a1 r1002 G L w} (H : formeref04_Decimal a1 = some r1002) (hI : Hp G L w) :
    Calls Tryz.prog 11 [int .i64 a1].toArray w fun e w' => Hp G L w' ∧ e = .returned (string r1002) := by
 refine calls_intro (N := 31) Tryz.func11 z z (Nat.le_of_ble_eq_true z)<|?_
 unfold formeref04_Decimal at H
 refine sr fun K2 hK3=>asn z<|nl<|hK3 _ _ _<|sQ fun K4 hK5=>sr fun K6 hK7=>mv z<|q_eql z z<|nl<|hK7 _ _ _<|dC (a1 = 0) (fun h8=>?_) fun h8=>?_
 refine yK h8 H fun H=>wt (bY h8)<|sr fun K9 hK10=>asn z<|nl<|hK10 _ _ _<|wr<|?_
 cases H
 exact rt ⟨_, _, z, z, z⟩ hI
 refine nK h8 H fun H=>wf (bN h8)<|ws<|hK5 _ _ _<|sr fun K11 hK12=>asn z<|nl<|hK12 _ _ _<|sr fun K13 hK14=>mv z<|asn z<|nl<|hK14 _ _ _<|sQ fun K15 hK16=>?_
 refine wb<|bK H fun v30 hC H=>wpc_mono (Q := fun e r ds w => e = .exit 0 ∧ ds = [] ∧ Has [(0, int .i64 a1), (3, string v30)] r ∧ Hp G (L) w ∧ True) ?_ ?_
 refine wpc_loop fun I hLp=>?_
 refine formeref04_Decimal_l29.partial_correctness (fun v21 v22 o => ∀ (r : Rg) (w : World), Has [(0, int .i64 a1), (3, string v21), (4, int .i64 v22)] r → Hp G (L) w → o = v30 → I r [] w) ?_ (⟨#[]⟩ : ByteArray) a1 _ hC _ _ ⟨rfl, rfl, rfl, tv⟩ hI rfl
 intro _ ih v21 v22 o H r wd38 hHas hI39 ho
 rw [ho] at H; clear ho
 rw [hHas.eq]; clear hHas
 refine hLp _ _ _<|sQ fun K40 hK41=>sr fun K42 hK43=>mv z<|q_neq z z<|nl<|hK43 _ _ _<|dC (¬ v22 = 0) (fun h44=>?_) fun h44=>?_
 refine yK h44 H fun H=>wt (bY h44)<|ws<|hK41 _ _ _<|wb<|sr fun K45 hK46=>mv z<|?_
 refine q_rem rfl rfl (by decide) ?_
 refine asn z<|nl<|hK46 _ _ _<|sQ fun K47 hK48=>sr fun K49 hK50=>mv z<|q_lss z z<|nl<|hK50 _ _ _<|dC ((Int.tmod v22 10) < 0) (fun h51=>?_) fun h51=>?_
 refine yK h51 H fun H=>wt (bY h51)<|wpc_region<|mv z<|q_neg z<|asn z<|nl<|hK48 _ _ _<|sr fun K52 hK53=>mv z<|q_add z z<|q_cvi ik3 ik5 z<|?_
 refine q_bs hI39 (vs := [(0, int .u8 (wu8 (w64 (48 + (w64 (0 - (Int.tmod v22 10)))))))]) (cs := [int .u8 (wu8 (w64 (48 + (w64 (0 - (Int.tmod v22 10))))))]) el61 ze5 rfl (by decide) rfl (by kernel_rfl) (fun g55 wd56 hI57 => ?_)
 obtain ⟨G58, hG59, hI61, hD60⟩ := Hp.publish (xs := ([wu8 (w64 (48 + (w64 (0 - (Int.tmod v22 10)))))] : List Int)) (n := 1) (Kd.int .u8) hI57 ⟨[int .u8 (wu8 (w64 (48 + (w64 (0 - (Int.tmod v22 10))))))], _, rfl, rfl, rfl⟩ rfl
 refine q_cvb hI61 el61 ik5 so9 z z hD60<|mv z<|iK H fun h62 H=>q_str_add z z h62<|asn z<|nl<|hK53 _ _ _<|wpc_region<|mv z<|?_
 refine q_quo rfl rfl (by decide) ?_
 exact asn z<|nl<|have hI63:=Hp.pick 1 [] hI61 z;ih _ _ _ H _ _ ⟨z, z, z, tv⟩ (Hp.low hG59 hI63) z
 refine nK h51 H fun H=>wf (bN h51)<|ws<|hK48 _ _ _<|sr fun K64 hK65=>mv z<|q_add z z<|q_cvi ik3 ik5 z<|?_
 refine q_bs hI39 (vs := [(0, int .u8 (wu8 (w64 (48 + (Int.tmod v22 10)))))]) (cs := [int .u8 (wu8 (w64 (48 + (Int.tmod v22 10))))]) el61 ze5 rfl (by decide) rfl (by kernel_rfl) (fun g67 wd68 hI69 => ?_)
 obtain ⟨G70, hG71, hI73, hD72⟩ := Hp.publish (xs := ([wu8 (w64 (48 + (Int.tmod v22 10)))] : List Int)) (n := 1) (Kd.int .u8) hI69 ⟨[int .u8 (wu8 (w64 (48 + (Int.tmod v22 10))))], _, rfl, rfl, rfl⟩ rfl
 refine q_cvb hI73 el61 ik5 so9 z z hD72<|mv z<|iK H fun h74 H=>q_str_add z z h74<|asn z<|nl<|hK65 _ _ _<|wpc_region<|mv z<|?_
 refine q_quo rfl rfl (by decide) ?_
 exact asn z<|nl<|have hI75:=Hp.pick 1 [] hI73 z;ih _ _ _ H _ _ ⟨z, z, z, tv⟩ (Hp.low hG71 hI75) z
 refine nK h44 H fun H=>wf (bN h44)<|wx<|?_
 cases H
 exact ⟨z, z, ⟨z, z, tv⟩, hI39, tv⟩
 rintro e r ds wd33 ⟨rfl, rfl, hHas, hI34, _⟩
 rw [hHas.eq]; clear hHas
 refine hK16 _ _ _<|sQ fun K76 hK77=>sr fun K78 hK79=>mv z<|q_lss z z<|nl<|hK79 _ _ _<|dC (a1 < 0) (fun h80=>?_) fun h80=>?_
 refine yK h80 H fun H=>wt (bY h80)<|sr fun K81 hK82=>mv z<|iK H fun h83 H=>q_str_add z z h83<|asn z<|nl<|hK82 _ _ _<|wr<|?_
 cases H
 exact rt ⟨_, _, z, z, z⟩ hI34
 refine nK h80 H fun H=>wf (bN h80)<|ws<|hK77 _ _ _<|sr fun K84 hK85=>mv z<|asn z<|nl<|hK85 _ _ _<|wr<|?_
 cases H
 exact rt ⟨_, _, z, z, z⟩ hI34
end Go.Proofs.YtoladeanenmepaaGreatDoor.LG
