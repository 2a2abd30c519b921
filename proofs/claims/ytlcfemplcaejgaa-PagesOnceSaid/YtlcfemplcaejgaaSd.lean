/-
  The walks: each function computes its plain function: printed by a program out of the translation.
-/
import Derived.Test.YtlcfemplcaejgaaSc
set_option linter.unusedVariables false
set_option linter.unusedSimpArgs false
set_option maxRecDepth 100000
namespace Go.Proofs.Ytlcfemplcaejgaa.LG
open Go Go.LG Go.RowKit Go.Value
set_option maxHeartbeats 20000000
theorem pages_bands_1_k1_spec {σ : Type} {St : σ → Gh → List Itm → Prop} {yl} {φ : σ → pages_band → Option (σ × Bool)} {sy : σ} {a3} {a10 : List Bool} {g2 A4 c5 g9 A11 c12} {ry : σ} {G T w} (H : pages_bands_1_k1 φ sy a3 a10 = some ry) (hI : Hp G (bx g2 [slice A4 a3.length c5] 24 :: bx g9 [slice A11 a10.length c12] 25 :: T) w) (hl6 : a3.length ≤ c5) (hD7 : Dat k_api_Slice G A4 a3) (hl13 : a10.length ≤ c12) (hD14 : Dat Kd.bool G A11 a10) (hy : Yl Try.prog φ (encS k_pages_band) St yl) (hS : St sy G T) :
    Calls Try.prog 43 [func (.yield yl) #[] #[], pointer (some ⟨g2, 0, none⟩), pointer (some ⟨g9, 0, none⟩)].toArray w fun e w' => ∃ (T' : List Itm) (G' : Gh), G ≤ G' ∧ Hp G' (bx g2 [slice A4 a3.length c5] 24 :: bx g9 [slice A11 a10.length c12] 25 :: T') w' ∧ St ry G' T' ∧ e = .returned (tuple [].toArray) := by
 refine calls_intro (N := 81) Try.func43 z z (Nat.le_of_ble_eq_true z)<|?_
 unfold pages_bands_1_k1 at H
 refine sr fun K15 hK16=>q_alloc hI ze64 fun g18 wd19 hI20=>nl<|hK16 _ _ _<|sr fun K21 hK22=>asn z<|nl<|hK22 _ _ _<|sQ fun K23 hK24=>sr fun K25 hK26=>ld hI20 1 ag24 z z z<|q_len so24 z<|mv z<|nl<|?_
 refine hK26 _ _ _<|wb<|bK H fun o120 hC H=>?_
 refine wpc_mono (Q := fun e r ds w => match (generalizing := false) o120 with | (Sum.inl (v76, v83, v90, v92)) => e = .ret ∧ ∃ (T91 : List Itm) (A77 : Option Addr) (c78 : Nat) (A84 : Option Addr) (c85 : Nat) (G112 : Gh), ds = [] ∧ G ≤ G112 ∧ Has [] r ∧ Hp G112 (bx g18 [slice A77 v76.length c78, slice A84 v83.length c85, int .i64 v90] 64 :: bx g2 [slice A4 a3.length c5] 24 :: bx g9 [slice A11 a10.length c12] 25 :: tk (slice A77 v76.length c78) 8 36 :: tk (slice A84 v83.length c85) 8 36 :: T91) w ∧ v76.length ≤ c78 ∧ Dat k_api_Slice G112 A77 v76 ∧ Own A77 c78 ∧ v83.length ≤ c85 ∧ Dat k_api_Slice G112 A84 v83 ∧ Own A84 c85 ∧ St v92 G112 T91 ∧ True | (Sum.inr (v94, v101, v108, v110)) => e = .exit 0 ∧ ∃ (T109 : List Itm) (A95 : Option Addr) (c96 : Nat) (A102 : Option Addr) (c103 : Nat) (G116 : Gh), ds = [] ∧ G ≤ G116 ∧ Has [(0, func (.yield yl) #[] #[]), (4, pointer (some ⟨g18, 0, none⟩))] r ∧ Hp G116 (bx g18 [slice A95 v94.length c96, slice A102 v101.length c103, int .i64 v108] 64 :: bx g2 [slice A4 a3.length c5] 24 :: bx g9 [slice A11 a10.length c12] 25 :: tk (slice A95 v94.length c96) 8 36 :: tk (slice A102 v101.length c103) 8 36 :: T109) w ∧ v94.length ≤ c96 ∧ Dat k_api_Slice G116 A95 v94 ∧ Own A95 c96 ∧ v101.length ≤ c103 ∧ Dat k_api_Slice G116 A102 v101 ∧ Own A102 c103 ∧ St v110 G116 T109 ∧ True) ?_ ?_
 refine have hI464:=Hp.emp hI20;have hI466:=Hp.emp hI464;have hI471:=Hp.pick 5 [2, 3, 4, 1, 0] hI466 z;wpc_loop fun I hLp=>?_
 refine pages_bands_1_k1_l75.partial_correctness φ a3 a10 (fun v31 v32 v33 v40 v47 v49 o => ∀ (T48 : List Itm) (A34 : Option Addr) (c35 : Nat) (A41 : Option Addr) (c42 : Nat) (G121 : Gh) (r : Rg) (w : World), G ≤ G121 → Has [(0, func (.yield yl) #[] #[]), (2, pointer (some ⟨g9, 0, none⟩)), (4, pointer (some ⟨g18, 0, none⟩)), (5, bool v31), (8, slice A4 a3.length c5), (9, int .i64 (a3.length : Int)), (10, int .i64 v32)] r → Hp G121 (bx g18 [slice A34 v33.length c35, slice A41 v40.length c42, int .i64 v47] 64 :: bx g2 [slice A4 a3.length c5] 24 :: bx g9 [slice A11 a10.length c12] 25 :: tk (slice A34 v33.length c35) 8 36 :: tk (slice A41 v40.length c42) 8 36 :: T48) w → v33.length ≤ c35 → Dat k_api_Slice G121 A34 v33 → Own A34 c35 → v40.length ≤ c42 → Dat k_api_Slice G121 A41 v40 → Own A41 c42 → St v49 G121 T48 → o = o120 → I r [] w) ?_ false 0 ([] : List api_Slice) ([] : List api_Slice) 0 sy _ hC T none 0 none 0 _ _ _ gR ⟨rfl, rfl, rfl, rfl, rfl, rfl, rfl, tv⟩ hI471 (show ([] : List api_Slice).length ≤ 0 from Nat.le_refl 0) (Dat.nil _ _ _) Own.nil (show ([] : List api_Slice).length ≤ 0 from Nat.le_refl 0) (Dat.nil _ _ _) Own.nil hS rfl
 intro _ ih v31 v32 v33 v40 v47 v49 o H T48 A34 c35 A41 c42 G121 r wd123 hG122 hHas hI124 hl36 hD37 ho38 hl43 hD44 ho45 hS50 ho
 rw [ho] at H; clear ho
 rw [hHas.eq]; clear hHas
 refine hLp _ _ _<|sr fun K125 hK126=>q_lss z z<|nl<|hK126 _ _ _<|sQ fun K127 hK128=>dC (v32 < (a3.length : Int)) (fun h129=>?_) fun h129=>?_
 refine yK h129 H fun H=>wt (bY h129)<|ws<|hK128 _ _ _<|sQ fun K130 hK131=>bK H fun o162 hC H=>?_
 refine wpc_mono (Q := fun e r ds w => match (generalizing := false) o162 with | (Sum.inl v133) => e = .ret ∧ ∃ (T132 : List Itm) (G154 : Gh), ds = [] ∧ G121 ≤ G154 ∧ Has [] r ∧ Hp G154 (bx g18 [slice A34 v33.length c35, slice A41 v40.length c42, int .i64 v47] 64 :: bx g2 [slice A4 a3.length c5] 24 :: bx g9 [slice A11 a10.length c12] 25 :: tk (slice A34 v33.length c35) 8 36 :: tk (slice A41 v40.length c42) 8 36 :: T132) w ∧ St v133 G154 T132 ∧ True | (Sum.inr (v135, v136, v143, v150, v152)) => e = .normal ∧ ∃ (T151 : List Itm) (A137 : Option Addr) (c138 : Nat) (A144 : Option Addr) (c145 : Nat) (G158 : Gh), ds = [] ∧ G121 ≤ G158 ∧ Has [(0, func (.yield yl) #[] #[]), (2, pointer (some ⟨g9, 0, none⟩)), (4, pointer (some ⟨g18, 0, none⟩)), (5, bool v135), (8, slice A4 a3.length c5), (9, int .i64 (a3.length : Int)), (10, int .i64 v32)] r ∧ Hp G158 (bx g18 [slice A137 v136.length c138, slice A144 v143.length c145, int .i64 v150] 64 :: bx g2 [slice A4 a3.length c5] 24 :: bx g9 [slice A11 a10.length c12] 25 :: tk (slice A137 v136.length c138) 8 36 :: tk (slice A144 v143.length c145) 8 36 :: T151) w ∧ v136.length ≤ c138 ∧ Dat k_api_Slice G158 A137 v136 ∧ Own A137 c138 ∧ v143.length ≤ c145 ∧ Dat k_api_Slice G158 A144 v143 ∧ Own A144 c145 ∧ St v152 G158 T151 ∧ True) ?_ ?_
 refine have H:=hC;wb<|sr fun K163 hK164=>mv z<|iK H fun⟨h165, h165'⟩H=>?_
 obtain ⟨ad166, cs167, hA168, hK169, hn170, hc171⟩ := Dat.get (Dat.mono hG122 hD7) z_api_Slice (v32) h165 h165'
 obtain ⟨rfl⟩ := open_api_Slice hK169
 refine q_ia el24 z hA168 z h165 h165'<|q_lfA hI124 ag36 z (cs := [int .i64 ((a3.getD (Int.toNat v32) z_api_Slice).Node), int .i64 ((a3.getD (Int.toNat v32) z_api_Slice).Table), int .i64 ((a3.getD (Int.toNat v32) z_api_Slice).X), int .i64 ((a3.getD (Int.toNat v32) z_api_Slice).Y), int .i64 ((a3.getD (Int.toNat v32) z_api_Slice).H), string ((a3.getD (Int.toNat v32) z_api_Slice).Text), bool ((a3.getD (Int.toNat v32) z_api_Slice).Head), bool ((a3.getD (Int.toNat v32) z_api_Slice).Note)]) z (fun j v hv => gR.cel _ _ (hc171 j v hv))<|q_alloc hI124 ze36 fun g173 wd174 hI175=>asn z<|stk hI175 0 ag36 z z z z z z z fun wd176 hI177=>nl<|hK164 _ _ _<|sQ fun K178 hK179=>sr fun K180 hK181=>fa fl36_7 z<|ld hI177 0 ag4 z z z<|nl<|hK181 _ _ _<|dC (((a3.getD (Int.toNat v32) z_api_Slice).Note) = true) (fun h182=>?_) fun h182=>?_
 refine yK h182 H fun H=>wt (vY h182)<|sr fun K183 hK184=>fa fl64_1 z<|ld hI177 1 ag24 z z z<|lda hI177 0 ag36 z z z z<|?_
 refine q_bs hI177 (vs := [(0, agg [int .i64 ((a3.getD (Int.toNat v32) z_api_Slice).Node), int .i64 ((a3.getD (Int.toNat v32) z_api_Slice).Table), int .i64 ((a3.getD (Int.toNat v32) z_api_Slice).X), int .i64 ((a3.getD (Int.toNat v32) z_api_Slice).Y), int .i64 ((a3.getD (Int.toNat v32) z_api_Slice).H), string ((a3.getD (Int.toNat v32) z_api_Slice).Text), bool ((a3.getD (Int.toNat v32) z_api_Slice).Head), bool ((a3.getD (Int.toNat v32) z_api_Slice).Note)].toArray)]) (cs := [int .i64 ((a3.getD (Int.toNat v32) z_api_Slice).Node), int .i64 ((a3.getD (Int.toNat v32) z_api_Slice).Table), int .i64 ((a3.getD (Int.toNat v32) z_api_Slice).X), int .i64 ((a3.getD (Int.toNat v32) z_api_Slice).Y), int .i64 ((a3.getD (Int.toNat v32) z_api_Slice).H), string ((a3.getD (Int.toNat v32) z_api_Slice).Text), bool ((a3.getD (Int.toNat v32) z_api_Slice).Head), bool ((a3.getD (Int.toNat v32) z_api_Slice).Note)]) el24 ze36 rfl (by decide) rfl (by kernel_rfl) (fun g186 wd187 hI188 => ?_)
 refine iK H fun h198 H=>?_
 refine q_app (xs := v40) (ys := [(a3.getD (Int.toNat v32) z_api_Slice)]) k_api_Slice hI188 6 el24 ze36 rfl rfl rfl rfl ho45 hl43 hD44 (src_bx hI188 0 so24 rfl rfl) ⟨[int .i64 ((a3.getD (Int.toNat v32) z_api_Slice).Node), int .i64 ((a3.getD (Int.toNat v32) z_api_Slice).Table), int .i64 ((a3.getD (Int.toNat v32) z_api_Slice).X), int .i64 ((a3.getD (Int.toNat v32) z_api_Slice).Y), int .i64 ((a3.getD (Int.toNat v32) z_api_Slice).H), string ((a3.getD (Int.toNat v32) z_api_Slice).Text), bool ((a3.getD (Int.toNat v32) z_api_Slice).Head), bool ((a3.getD (Int.toNat v32) z_api_Slice).Note)], _, rfl, (mk_api_Slice (x := (a3.getD (Int.toNat v32) z_api_Slice))), rfl⟩ rfl (by simp only [List.length_cons, List.length_nil]; omega) (by simp only [List.length_cons, List.length_nil]; omega) (fun A189 c190 G191 wd192 hG193 ho194 hl195 hD196 hI197 => ?_)
 refine fa fl64_1 z<|stk hI197 2 ag24 z z z z z z z fun wd199 hI200=>nl<|hK184 _ _ _<|wx<|have hI206:=Hp.pick 7 [2, 3, 4, 5, 6] hI200 z;?_
 cases H
 exact ⟨z, T48, A34, c35, A189, c190, _, z, hG193, ⟨z, z, z, z, z, z, z, tv⟩, hI206, hl36, (Dat.mono hG193 hD37), ho38, hl195, hD196, ho194, (hy.mono hG193 hS50), tv⟩
 refine nK h182 H fun H=>wf (vN h182)<|ws<|hK179 _ _ _<|sQ fun K207 hK208=>sr fun K209 hK210=>fa fl64_0 z<|ld hI177 1 ag24 z z z<|q_len so24 z<|q_gtr z z<|mv z<|bK H fun v211 hC H=>?_
 refine js 6 hI177 [(0, func (.yield yl) #[] #[]), (2, pointer (some ⟨g9, 0, none⟩)), (4, pointer (some ⟨g18, 0, none⟩)), (5, bool v31), (6, int .i64 v32), (7, pointer (some ⟨g173, 0, none⟩)), (8, slice A4 a3.length c5), (9, int .i64 (a3.length : Int)), (10, int .i64 v32), (33, bool v211)] ?_ fun _ wd214 hI215=>?_
 refine have H:=hC;dC (0 < (v33.length : Int)) (fun h217=>?_) fun h217=>?_
 refine yK h217 H fun H=>fa (hw:=gY z z z (bY h217)) fl36_3 z<|ld (hw:=gY z z z (bY h217)) hI177 0 ag3 z z z<|fa (hw:=gY z z z (bY h217)) fl64_2 z<|ld (hw:=gY z z z (bY h217)) hI177 1 ag3 z z z<|q_geq (hw:=gY z z z (bY h217)) z z<|pkt (bY h217) z<|nl<|?_
 cases H
 exact je ⟨z, z, z, z, z, z, z, z, z, z, tv⟩ hI177
 refine nK h217 H fun H=>Sk 5 z z (bN h217) z<|pkf (bN h217) z<|nl<|?_
 cases H
 exact je ⟨z, z, z, z, z, z, z, z, z, z, tv⟩ hI177
 refine mv z<|bK H fun v218 hC H=>js 3 hI215 [(0, func (.yield yl) #[] #[]), (2, pointer (some ⟨g9, 0, none⟩)), (4, pointer (some ⟨g18, 0, none⟩)), (6, int .i64 v32), (7, pointer (some ⟨g173, 0, none⟩)), (8, slice A4 a3.length c5), (9, int .i64 (a3.length : Int)), (10, int .i64 v32), (37, bool v218)] ?_ fun _ wd221 hI222=>?_
 refine have H:=hC;dC (v211 = true) (fun h224=>?_) fun h224=>?_
 refine yK h224 H fun H=>mv (hw:=gY z z z (vY h224)) z<|q_not (hw:=gY z z z (vY h224)) z<|pkt (vY h224) z<|nl<|?_
 cases H
 exact je ⟨z, z, z, z, z, z, z, z, z, tv⟩ hI215
 refine nK h224 H fun H=>Sk 2 z z (vN h224) z<|pkf (vN h224) z<|nl<|?_
 cases H
 exact je ⟨z, z, z, z, z, z, z, z, z, tv⟩ hI215
 refine nl<|hK210 _ _ _<|dC (v218 = true) (fun h225=>?_) fun h225=>?_
 refine yK h225 H fun H=>wt (vY h225)<|sQ fun K226 hK227=>sr fun K228 hK229=>mv z<|lda hI222 1 ag64 z z z z<|bK2 H fun s230 b231 hx232 H=>q_yl hy [bx g173 [int .i64 ((a3.getD (Int.toNat v32) z_api_Slice).Node), int .i64 ((a3.getD (Int.toNat v32) z_api_Slice).Table), int .i64 ((a3.getD (Int.toNat v32) z_api_Slice).X), int .i64 ((a3.getD (Int.toNat v32) z_api_Slice).Y), int .i64 ((a3.getD (Int.toNat v32) z_api_Slice).H), string ((a3.getD (Int.toNat v32) z_api_Slice).Text), bool ((a3.getD (Int.toNat v32) z_api_Slice).Head), bool ((a3.getD (Int.toNat v32) z_api_Slice).Note)] 36, bx g18 [slice A34 v33.length c35, slice A41 v40.length c42, int .i64 v47] 64, bx g2 [slice A4 a3.length c5] 24, bx g9 [slice A11 a10.length c12] 25, tk (slice A34 v33.length c35) 8 36, tk (slice A41 v40.length c42) 8 36] hI222 hS50 z z ⟨_, z, (mk_pages_band (x := (⟨v33, v40, v47⟩ : pages_band)) hl36 hD37 hl43 hD44)⟩ hx232 fun wd233 G234 T235 hG236 hS237 hI238=>q_not z<|nl<|hK229 _ _ _<|dC ((!b231) = true) (fun h239=>?_) fun h239=>?_
 refine yK h239 H fun H=>wt (vY h239)<|wr<|have hI245:=Hp.pick 6 [1, 2, 3, 4, 5] hI238 z;?_
 cases H
 exact ⟨z, T235, _, z, hG236, trivial, hI245, hS237, tv⟩
 refine nK h239 H fun H=>wf (vN h239)<|ws<|hK227 _ _ _<|wpc_region<|q_build (vs := []) (cs := [slice none 0 0, slice none 0 0, int .i64 0]) ze64 pl64 z z<|stk hI238 1 ag64 z z z z z z z fun wd246 hI247=>nl<|hK208 _ _ _<|sQ fun K248 hK249=>sr fun K250 hK251=>fa fl64_0 z<|ld hI247 1 ag24 z z z<|q_len so24 z<|?_
 refine q_eql z z<|nl<|hK251 _ _ _<|dC ((([] : List api_Slice).length : Int) = 0) (fun h252=>?_) fun h252=>?_
 refine yK h252 H fun H=>wt (bY h252)<|wpc_region<|fa fl36_3 z<|ld hI247 0 ag3 z z z<|fa fl64_2 z<|stk hI247 1 ag3 z z z z z z z fun wd253 hI254=>nl<|hK249 _ _ _<|iK H fun h283 H=>iK H fun⟨h284, h284'⟩H=>?_
 obtain ⟨ad285, cs286, hA287, hK288, hn289, hc290⟩ := Dat.get (Dat.mono (gT hG122 hG236) hD14) false (v32) h284 h284'
 obtain rfl := hK288
 refine wpc_drawL [0, 1, 0, 4, 15, 0, 32, 0, 128, 0, 512, 1920, 4064, 0, 0, 24576, 57344, 127, 131199, 401407, 925695, 2097151] (fun D r w => (D 3 = false ∧ ∃ (G' : Gh), G234 ≤ G' ∧ Regs [(0, func (.yield yl) #[] #[]), (2, pointer (some ⟨g9, 0, none⟩)), (4, pointer (some ⟨g18, 0, none⟩)), (6, int .i64 v32), (7, pointer (some ⟨g173, 0, none⟩)), (8, slice A4 a3.length c5), (9, int .i64 (a3.length : Int)), (10, int .i64 v32)] [] [(0, 50, pointer (some ⟨g18, 0, none⟩)), (1, 51, slice none 0 0), (2, 52, agg [int .i64 ((a3.getD (Int.toNat v32) z_api_Slice).Node), int .i64 ((a3.getD (Int.toNat v32) z_api_Slice).Table), int .i64 ((a3.getD (Int.toNat v32) z_api_Slice).X), int .i64 ((a3.getD (Int.toNat v32) z_api_Slice).Y), int .i64 ((a3.getD (Int.toNat v32) z_api_Slice).H), string ((a3.getD (Int.toNat v32) z_api_Slice).Text), bool ((a3.getD (Int.toNat v32) z_api_Slice).Head), bool ((a3.getD (Int.toNat v32) z_api_Slice).Note)].toArray), (5, 55, pointer (some ⟨g18, 2, none⟩)), (6, 56, int .i64 ((a3.getD (Int.toNat v32) z_api_Slice).Y)), (7, 57, pointer (some ⟨g173, 3, none⟩)), (8, 58, int .i64 ((a3.getD (Int.toNat v32) z_api_Slice).Y)), (9, 59, pointer (some ⟨g173, 4, none⟩)), (10, 60, int .i64 ((a3.getD (Int.toNat v32) z_api_Slice).H)), (11, 61, int .i64 (w64 (((a3.getD (Int.toNat v32) z_api_Slice).Y) + ((a3.getD (Int.toNat v32) z_api_Slice).H)))), (12, 62, int .i64 (max ((a3.getD (Int.toNat v32) z_api_Slice).Y) (w64 (((a3.getD (Int.toNat v32) z_api_Slice).Y) + ((a3.getD (Int.toNat v32) z_api_Slice).H))))), (13, 63, slice A11 a10.length c12), (14, 64, int .i64 v32), (15, 65, pointer (some (ad285.add (Int.toNat v32 * 1)))), (16, 66, bool (a10.getD (Int.toNat v32) false))] D r ∧ Hp G' (bx g173 [int .i64 ((a3.getD (Int.toNat v32) z_api_Slice).Node), int .i64 ((a3.getD (Int.toNat v32) z_api_Slice).Table), int .i64 ((a3.getD (Int.toNat v32) z_api_Slice).X), int .i64 ((a3.getD (Int.toNat v32) z_api_Slice).Y), int .i64 ((a3.getD (Int.toNat v32) z_api_Slice).H), string ((a3.getD (Int.toNat v32) z_api_Slice).Text), bool ((a3.getD (Int.toNat v32) z_api_Slice).Head), bool ((a3.getD (Int.toNat v32) z_api_Slice).Note)] 36 :: bx g18 [slice none 0 0, slice none 0 0, int .i64 ((a3.getD (Int.toNat v32) z_api_Slice).Y)] 64 :: bx g2 [slice A4 a3.length c5] 24 :: bx g9 [slice A11 a10.length c12] 25 :: tk (slice A34 v33.length c35) 8 36 :: tk (slice A41 v40.length c42) 8 36 :: T235) w) ∨ (D 3 = true ∧ D 4 = false ∧ ∃ (g269 : Nat) (G' : Gh), G234 ≤ G' ∧ Regs [(0, func (.yield yl) #[] #[]), (2, pointer (some ⟨g9, 0, none⟩)), (4, pointer (some ⟨g18, 0, none⟩)), (6, int .i64 v32), (7, pointer (some ⟨g173, 0, none⟩)), (8, slice A4 a3.length c5), (9, int .i64 (a3.length : Int)), (10, int .i64 v32)] [] [(0, 50, pointer (some ⟨g18, 0, none⟩)), (1, 51, slice none 0 0), (2, 52, agg [int .i64 ((a3.getD (Int.toNat v32) z_api_Slice).Node), int .i64 ((a3.getD (Int.toNat v32) z_api_Slice).Table), int .i64 ((a3.getD (Int.toNat v32) z_api_Slice).X), int .i64 ((a3.getD (Int.toNat v32) z_api_Slice).Y), int .i64 ((a3.getD (Int.toNat v32) z_api_Slice).H), string ((a3.getD (Int.toNat v32) z_api_Slice).Text), bool ((a3.getD (Int.toNat v32) z_api_Slice).Head), bool ((a3.getD (Int.toNat v32) z_api_Slice).Note)].toArray), (5, 55, pointer (some ⟨g18, 2, none⟩)), (6, 56, int .i64 ((a3.getD (Int.toNat v32) z_api_Slice).Y)), (7, 57, pointer (some ⟨g173, 3, none⟩)), (8, 58, int .i64 ((a3.getD (Int.toNat v32) z_api_Slice).Y)), (9, 59, pointer (some ⟨g173, 4, none⟩)), (10, 60, int .i64 ((a3.getD (Int.toNat v32) z_api_Slice).H)), (11, 61, int .i64 (w64 (((a3.getD (Int.toNat v32) z_api_Slice).Y) + ((a3.getD (Int.toNat v32) z_api_Slice).H)))), (12, 62, int .i64 (max ((a3.getD (Int.toNat v32) z_api_Slice).Y) (w64 (((a3.getD (Int.toNat v32) z_api_Slice).Y) + ((a3.getD (Int.toNat v32) z_api_Slice).H))))), (13, 63, slice A11 a10.length c12), (14, 64, int .i64 v32), (15, 65, pointer (some (ad285.add (Int.toNat v32 * 1)))), (16, 66, bool (a10.getD (Int.toNat v32) false)), (3, 53, slice (some ⟨g269, 0, none⟩) 1 1)] D r ∧ Hp G' (bx g269 [int .i64 ((a3.getD (Int.toNat v32) z_api_Slice).Node), int .i64 ((a3.getD (Int.toNat v32) z_api_Slice).Table), int .i64 ((a3.getD (Int.toNat v32) z_api_Slice).X), int .i64 ((a3.getD (Int.toNat v32) z_api_Slice).Y), int .i64 ((a3.getD (Int.toNat v32) z_api_Slice).H), string ((a3.getD (Int.toNat v32) z_api_Slice).Text), bool ((a3.getD (Int.toNat v32) z_api_Slice).Head), bool ((a3.getD (Int.toNat v32) z_api_Slice).Note)] 36 :: bx g173 [int .i64 ((a3.getD (Int.toNat v32) z_api_Slice).Node), int .i64 ((a3.getD (Int.toNat v32) z_api_Slice).Table), int .i64 ((a3.getD (Int.toNat v32) z_api_Slice).X), int .i64 ((a3.getD (Int.toNat v32) z_api_Slice).Y), int .i64 ((a3.getD (Int.toNat v32) z_api_Slice).H), string ((a3.getD (Int.toNat v32) z_api_Slice).Text), bool ((a3.getD (Int.toNat v32) z_api_Slice).Head), bool ((a3.getD (Int.toNat v32) z_api_Slice).Note)] 36 :: bx g18 [slice none 0 0, slice none 0 0, int .i64 ((a3.getD (Int.toNat v32) z_api_Slice).Y)] 64 :: bx g2 [slice A4 a3.length c5] 24 :: bx g9 [slice A11 a10.length c12] 25 :: tk (slice A34 v33.length c35) 8 36 :: tk (slice A41 v40.length c42) 8 36 :: T235) w) ∨ (D 4 = true ∧ D 18 = false ∧ ∃ (g269 : Nat) (A274 : Option Addr) (c275 : Nat) (G' : Gh), G234 ≤ G' ∧ (([] : List api_Slice) ++ [(a3.getD (Int.toNat v32) z_api_Slice)]).length ≤ c275 ∧ Dat k_api_Slice G' A274 (([] : List api_Slice) ++ [(a3.getD (Int.toNat v32) z_api_Slice)]) ∧ Own A274 c275 ∧ Regs [(0, func (.yield yl) #[] #[]), (2, pointer (some ⟨g9, 0, none⟩)), (4, pointer (some ⟨g18, 0, none⟩)), (6, int .i64 v32), (7, pointer (some ⟨g173, 0, none⟩)), (8, slice A4 a3.length c5), (9, int .i64 (a3.length : Int)), (10, int .i64 v32)] [] [(0, 50, pointer (some ⟨g18, 0, none⟩)), (1, 51, slice none 0 0), (2, 52, agg [int .i64 ((a3.getD (Int.toNat v32) z_api_Slice).Node), int .i64 ((a3.getD (Int.toNat v32) z_api_Slice).Table), int .i64 ((a3.getD (Int.toNat v32) z_api_Slice).X), int .i64 ((a3.getD (Int.toNat v32) z_api_Slice).Y), int .i64 ((a3.getD (Int.toNat v32) z_api_Slice).H), string ((a3.getD (Int.toNat v32) z_api_Slice).Text), bool ((a3.getD (Int.toNat v32) z_api_Slice).Head), bool ((a3.getD (Int.toNat v32) z_api_Slice).Note)].toArray), (5, 55, pointer (some ⟨g18, 2, none⟩)), (6, 56, int .i64 ((a3.getD (Int.toNat v32) z_api_Slice).Y)), (7, 57, pointer (some ⟨g173, 3, none⟩)), (8, 58, int .i64 ((a3.getD (Int.toNat v32) z_api_Slice).Y)), (9, 59, pointer (some ⟨g173, 4, none⟩)), (10, 60, int .i64 ((a3.getD (Int.toNat v32) z_api_Slice).H)), (11, 61, int .i64 (w64 (((a3.getD (Int.toNat v32) z_api_Slice).Y) + ((a3.getD (Int.toNat v32) z_api_Slice).H)))), (12, 62, int .i64 (max ((a3.getD (Int.toNat v32) z_api_Slice).Y) (w64 (((a3.getD (Int.toNat v32) z_api_Slice).Y) + ((a3.getD (Int.toNat v32) z_api_Slice).H))))), (13, 63, slice A11 a10.length c12), (14, 64, int .i64 v32), (15, 65, pointer (some (ad285.add (Int.toNat v32 * 1)))), (16, 66, bool (a10.getD (Int.toNat v32) false)), (3, 53, slice (some ⟨g269, 0, none⟩) 1 1), (4, 54, slice A274 (([] : List api_Slice) ++ [(a3.getD (Int.toNat v32) z_api_Slice)]).length c275), (17, 67, pointer (some ⟨g18, 0, none⟩))] D r ∧ Hp G' (tk (slice A274 (([] : List api_Slice) ++ [(a3.getD (Int.toNat v32) z_api_Slice)]).length c275) 8 36 :: bx g269 [int .i64 ((a3.getD (Int.toNat v32) z_api_Slice).Node), int .i64 ((a3.getD (Int.toNat v32) z_api_Slice).Table), int .i64 ((a3.getD (Int.toNat v32) z_api_Slice).X), int .i64 ((a3.getD (Int.toNat v32) z_api_Slice).Y), int .i64 ((a3.getD (Int.toNat v32) z_api_Slice).H), string ((a3.getD (Int.toNat v32) z_api_Slice).Text), bool ((a3.getD (Int.toNat v32) z_api_Slice).Head), bool ((a3.getD (Int.toNat v32) z_api_Slice).Note)] 36 :: bx g173 [int .i64 ((a3.getD (Int.toNat v32) z_api_Slice).Node), int .i64 ((a3.getD (Int.toNat v32) z_api_Slice).Table), int .i64 ((a3.getD (Int.toNat v32) z_api_Slice).X), int .i64 ((a3.getD (Int.toNat v32) z_api_Slice).Y), int .i64 ((a3.getD (Int.toNat v32) z_api_Slice).H), string ((a3.getD (Int.toNat v32) z_api_Slice).Text), bool ((a3.getD (Int.toNat v32) z_api_Slice).Head), bool ((a3.getD (Int.toNat v32) z_api_Slice).Note)] 36 :: bx g18 [slice none 0 0, slice none 0 0, int .i64 ((a3.getD (Int.toNat v32) z_api_Slice).Y)] 64 :: bx g2 [slice A4 a3.length c5] 24 :: bx g9 [slice A11 a10.length c12] 25 :: tk (slice A34 v33.length c35) 8 36 :: tk (slice A41 v40.length c42) 8 36 :: T235) w) ∨ (D 18 = true ∧ D 20 = false ∧ ∃ (g269 : Nat) (A274 : Option Addr) (c275 : Nat) (G' : Gh), G234 ≤ G' ∧ (([] : List api_Slice) ++ [(a3.getD (Int.toNat v32) z_api_Slice)]).length ≤ c275 ∧ Dat k_api_Slice G' A274 (([] : List api_Slice) ++ [(a3.getD (Int.toNat v32) z_api_Slice)]) ∧ Own A274 c275 ∧ Regs [(0, func (.yield yl) #[] #[]), (2, pointer (some ⟨g9, 0, none⟩)), (4, pointer (some ⟨g18, 0, none⟩)), (6, int .i64 v32), (7, pointer (some ⟨g173, 0, none⟩)), (8, slice A4 a3.length c5), (9, int .i64 (a3.length : Int)), (10, int .i64 v32)] [] [(0, 50, pointer (some ⟨g18, 0, none⟩)), (1, 51, slice none 0 0), (2, 52, agg [int .i64 ((a3.getD (Int.toNat v32) z_api_Slice).Node), int .i64 ((a3.getD (Int.toNat v32) z_api_Slice).Table), int .i64 ((a3.getD (Int.toNat v32) z_api_Slice).X), int .i64 ((a3.getD (Int.toNat v32) z_api_Slice).Y), int .i64 ((a3.getD (Int.toNat v32) z_api_Slice).H), string ((a3.getD (Int.toNat v32) z_api_Slice).Text), bool ((a3.getD (Int.toNat v32) z_api_Slice).Head), bool ((a3.getD (Int.toNat v32) z_api_Slice).Note)].toArray), (5, 55, pointer (some ⟨g18, 2, none⟩)), (6, 56, int .i64 ((a3.getD (Int.toNat v32) z_api_Slice).Y)), (7, 57, pointer (some ⟨g173, 3, none⟩)), (8, 58, int .i64 ((a3.getD (Int.toNat v32) z_api_Slice).Y)), (9, 59, pointer (some ⟨g173, 4, none⟩)), (10, 60, int .i64 ((a3.getD (Int.toNat v32) z_api_Slice).H)), (11, 61, int .i64 (w64 (((a3.getD (Int.toNat v32) z_api_Slice).Y) + ((a3.getD (Int.toNat v32) z_api_Slice).H)))), (12, 62, int .i64 (max ((a3.getD (Int.toNat v32) z_api_Slice).Y) (w64 (((a3.getD (Int.toNat v32) z_api_Slice).Y) + ((a3.getD (Int.toNat v32) z_api_Slice).H))))), (13, 63, slice A11 a10.length c12), (14, 64, int .i64 v32), (15, 65, pointer (some (ad285.add (Int.toNat v32 * 1)))), (16, 66, bool (a10.getD (Int.toNat v32) false)), (3, 53, slice (some ⟨g269, 0, none⟩) 1 1), (4, 54, slice A274 (([] : List api_Slice) ++ [(a3.getD (Int.toNat v32) z_api_Slice)]).length c275), (17, 67, pointer (some ⟨g18, 0, none⟩)), (19, 68, pointer (some ⟨g18, 2, none⟩))] D r ∧ Hp G' (tk (slice A274 (([] : List api_Slice) ++ [(a3.getD (Int.toNat v32) z_api_Slice)]).length c275) 8 36 :: bx g269 [int .i64 ((a3.getD (Int.toNat v32) z_api_Slice).Node), int .i64 ((a3.getD (Int.toNat v32) z_api_Slice).Table), int .i64 ((a3.getD (Int.toNat v32) z_api_Slice).X), int .i64 ((a3.getD (Int.toNat v32) z_api_Slice).Y), int .i64 ((a3.getD (Int.toNat v32) z_api_Slice).H), string ((a3.getD (Int.toNat v32) z_api_Slice).Text), bool ((a3.getD (Int.toNat v32) z_api_Slice).Head), bool ((a3.getD (Int.toNat v32) z_api_Slice).Note)] 36 :: bx g173 [int .i64 ((a3.getD (Int.toNat v32) z_api_Slice).Node), int .i64 ((a3.getD (Int.toNat v32) z_api_Slice).Table), int .i64 ((a3.getD (Int.toNat v32) z_api_Slice).X), int .i64 ((a3.getD (Int.toNat v32) z_api_Slice).Y), int .i64 ((a3.getD (Int.toNat v32) z_api_Slice).H), string ((a3.getD (Int.toNat v32) z_api_Slice).Text), bool ((a3.getD (Int.toNat v32) z_api_Slice).Head), bool ((a3.getD (Int.toNat v32) z_api_Slice).Note)] 36 :: bx g18 [slice A274 (([] : List api_Slice) ++ [(a3.getD (Int.toNat v32) z_api_Slice)]).length c275, slice none 0 0, int .i64 ((a3.getD (Int.toNat v32) z_api_Slice).Y)] 64 :: bx g2 [slice A4 a3.length c5] 24 :: bx g9 [slice A11 a10.length c12] 25 :: tk (slice A34 v33.length c35) 8 36 :: tk (slice A41 v40.length c42) 8 36 :: T235) w) ∨ (D 20 = true ∧ ∃ (g269 : Nat) (A274 : Option Addr) (c275 : Nat) (G' : Gh), G234 ≤ G' ∧ (([] : List api_Slice) ++ [(a3.getD (Int.toNat v32) z_api_Slice)]).length ≤ c275 ∧ Dat k_api_Slice G' A274 (([] : List api_Slice) ++ [(a3.getD (Int.toNat v32) z_api_Slice)]) ∧ Own A274 c275 ∧ Regs [(0, func (.yield yl) #[] #[]), (2, pointer (some ⟨g9, 0, none⟩)), (4, pointer (some ⟨g18, 0, none⟩)), (6, int .i64 v32), (7, pointer (some ⟨g173, 0, none⟩)), (8, slice A4 a3.length c5), (9, int .i64 (a3.length : Int)), (10, int .i64 v32)] [] [(0, 50, pointer (some ⟨g18, 0, none⟩)), (1, 51, slice none 0 0), (2, 52, agg [int .i64 ((a3.getD (Int.toNat v32) z_api_Slice).Node), int .i64 ((a3.getD (Int.toNat v32) z_api_Slice).Table), int .i64 ((a3.getD (Int.toNat v32) z_api_Slice).X), int .i64 ((a3.getD (Int.toNat v32) z_api_Slice).Y), int .i64 ((a3.getD (Int.toNat v32) z_api_Slice).H), string ((a3.getD (Int.toNat v32) z_api_Slice).Text), bool ((a3.getD (Int.toNat v32) z_api_Slice).Head), bool ((a3.getD (Int.toNat v32) z_api_Slice).Note)].toArray), (5, 55, pointer (some ⟨g18, 2, none⟩)), (6, 56, int .i64 ((a3.getD (Int.toNat v32) z_api_Slice).Y)), (7, 57, pointer (some ⟨g173, 3, none⟩)), (8, 58, int .i64 ((a3.getD (Int.toNat v32) z_api_Slice).Y)), (9, 59, pointer (some ⟨g173, 4, none⟩)), (10, 60, int .i64 ((a3.getD (Int.toNat v32) z_api_Slice).H)), (11, 61, int .i64 (w64 (((a3.getD (Int.toNat v32) z_api_Slice).Y) + ((a3.getD (Int.toNat v32) z_api_Slice).H)))), (12, 62, int .i64 (max ((a3.getD (Int.toNat v32) z_api_Slice).Y) (w64 (((a3.getD (Int.toNat v32) z_api_Slice).Y) + ((a3.getD (Int.toNat v32) z_api_Slice).H))))), (13, 63, slice A11 a10.length c12), (14, 64, int .i64 v32), (15, 65, pointer (some (ad285.add (Int.toNat v32 * 1)))), (16, 66, bool (a10.getD (Int.toNat v32) false)), (3, 53, slice (some ⟨g269, 0, none⟩) 1 1), (4, 54, slice A274 (([] : List api_Slice) ++ [(a3.getD (Int.toNat v32) z_api_Slice)]).length c275), (17, 67, pointer (some ⟨g18, 0, none⟩)), (19, 68, pointer (some ⟨g18, 2, none⟩)), (21, 5, bool (a10.getD (Int.toNat v32) false))] D r ∧ Hp G' (tk (slice A274 (([] : List api_Slice) ++ [(a3.getD (Int.toNat v32) z_api_Slice)]).length c275) 8 36 :: bx g269 [int .i64 ((a3.getD (Int.toNat v32) z_api_Slice).Node), int .i64 ((a3.getD (Int.toNat v32) z_api_Slice).Table), int .i64 ((a3.getD (Int.toNat v32) z_api_Slice).X), int .i64 ((a3.getD (Int.toNat v32) z_api_Slice).Y), int .i64 ((a3.getD (Int.toNat v32) z_api_Slice).H), string ((a3.getD (Int.toNat v32) z_api_Slice).Text), bool ((a3.getD (Int.toNat v32) z_api_Slice).Head), bool ((a3.getD (Int.toNat v32) z_api_Slice).Note)] 36 :: bx g173 [int .i64 ((a3.getD (Int.toNat v32) z_api_Slice).Node), int .i64 ((a3.getD (Int.toNat v32) z_api_Slice).Table), int .i64 ((a3.getD (Int.toNat v32) z_api_Slice).X), int .i64 ((a3.getD (Int.toNat v32) z_api_Slice).Y), int .i64 ((a3.getD (Int.toNat v32) z_api_Slice).H), string ((a3.getD (Int.toNat v32) z_api_Slice).Text), bool ((a3.getD (Int.toNat v32) z_api_Slice).Head), bool ((a3.getD (Int.toNat v32) z_api_Slice).Note)] 36 :: bx g18 [slice A274 (([] : List api_Slice) ++ [(a3.getD (Int.toNat v32) z_api_Slice)]).length c275, slice none 0 0, int .i64 (max ((a3.getD (Int.toNat v32) z_api_Slice).Y) (w64 (((a3.getD (Int.toNat v32) z_api_Slice).Y) + ((a3.getD (Int.toNat v32) z_api_Slice).H))))] 64 :: bx g2 [slice A4 a3.length c5] 24 :: bx g9 [slice A11 a10.length c12] 25 :: tk (slice A34 v33.length c35) 8 36 :: tk (slice A41 v40.length c42) 8 36 :: T235) w)) mixo z z ?_ ?_ ?_
 exact (.inl ⟨z, _, Gh.le_refl _, Regs.start ⟨z, z, z, z, z, z, z, z, tv⟩ trivial, hI254.drew⟩)
 refine ⟨?_, ?_, ?_, ?_, ?_, ?_, ?_, ?_, ?_, ?_, ?_, ?_, ?_, ?_, ?_, ?_, ?_, ?_, ?_, ?_, ?_, ?_, tv⟩
 rintro D r wd299 (⟨hd2, G295, hG296, hReg298, hI297⟩ | ⟨hd1, hd2, g269, G295, hG296, hReg298, hI297⟩ | ⟨hd1, hd2, g269, A274, c275, G295, hG296, hl280, hD281, ho279, hReg298, hI297⟩ | ⟨hd1, hd2, g269, A274, c275, G295, hG296, hl280, hD281, ho279, hReg298, hI297⟩ | ⟨hd1, g269, A274, c275, G295, hG296, hl280, hD281, ho279, hReg298, hI297⟩) hDi hpre hpost
 obtain ⟨r0, rfl⟩ := Has.ex (cC (hReg298.ins.get 2 rfl) cN)
 exact fa fl64_0 z<|nl ⟨z, (.inl ⟨hd2, _, hG296, (Regs.step hReg298 hDi z z z z), hI297⟩)⟩
 obtain ⟨r0, rfl⟩ := Has.ex (cC (hReg298.ins.get 2 rfl) cN)
 exact fa fl64_0 z<|nl ⟨z, (.inr (.inl ⟨hd1, hd2, g269, _, hG296, (Regs.step hReg298 hDi z z z z), hI297⟩))⟩
 cases (hpost 4 rfl).symm.trans hd1
 cases (hpost 18 rfl).symm.trans hd1
 cases (hpost 20 rfl).symm.trans hd1
 rintro D r wd299 (⟨hd2, G295, hG296, hReg298, hI297⟩ | ⟨hd1, hd2, g269, G295, hG296, hReg298, hI297⟩ | ⟨hd1, hd2, g269, A274, c275, G295, hG296, hl280, hD281, ho279, hReg298, hI297⟩ | ⟨hd1, hd2, g269, A274, c275, G295, hG296, hl280, hD281, ho279, hReg298, hI297⟩ | ⟨hd1, g269, A274, c275, G295, hG296, hl280, hD281, ho279, hReg298, hI297⟩) hDi hpre hpost
 obtain ⟨r0, rfl⟩ := Has.ex (cC (hReg298.get 0 rfl (hpre 0 rfl)) cN)
 exact ld hI297 1 ag24 z z z<|nl ⟨z, (.inl ⟨hd2, _, hG296, (Regs.step hReg298 hDi z z z z), hI297⟩)⟩
 obtain ⟨r0, rfl⟩ := Has.ex (cC (hReg298.get 0 rfl (hpre 0 rfl)) cN)
 exact ld hI297 2 ag24 z z z<|nl ⟨z, (.inr (.inl ⟨hd1, hd2, g269, _, hG296, (Regs.step hReg298 hDi z z z z), hI297⟩))⟩
 cases (hpost 4 rfl).symm.trans hd1
 cases (hpost 18 rfl).symm.trans hd1
 cases (hpost 20 rfl).symm.trans hd1
 rintro D r wd299 (⟨hd2, G295, hG296, hReg298, hI297⟩ | ⟨hd1, hd2, g269, G295, hG296, hReg298, hI297⟩ | ⟨hd1, hd2, g269, A274, c275, G295, hG296, hl280, hD281, ho279, hReg298, hI297⟩ | ⟨hd1, hd2, g269, A274, c275, G295, hG296, hl280, hD281, ho279, hReg298, hI297⟩ | ⟨hd1, g269, A274, c275, G295, hG296, hl280, hD281, ho279, hReg298, hI297⟩) hDi hpre hpost
 obtain ⟨r0, rfl⟩ := Has.ex (cC (hReg298.ins.get 4 rfl) cN)
 exact lda hI297 0 ag36 z z z z<|nl ⟨z, (.inl ⟨hd2, _, hG296, (Regs.step hReg298 hDi z z z z), hI297⟩)⟩
 cases (hpost 3 rfl).symm.trans hd1
 cases (hpost 4 rfl).symm.trans hd1
 cases (hpost 18 rfl).symm.trans hd1
 cases (hpost 20 rfl).symm.trans hd1
 rintro D r wd299 (⟨hd2, G295, hG296, hReg298, hI297⟩ | ⟨hd1, hd2, g269, G295, hG296, hReg298, hI297⟩ | ⟨hd1, hd2, g269, A274, c275, G295, hG296, hl280, hD281, ho279, hReg298, hI297⟩ | ⟨hd1, hd2, g269, A274, c275, G295, hG296, hl280, hD281, ho279, hReg298, hI297⟩ | ⟨hd1, g269, A274, c275, G295, hG296, hl280, hD281, ho279, hReg298, hI297⟩) hDi hpre hpost
 obtain ⟨r0, rfl⟩ := Has.ex (cC (hReg298.get 2 rfl (hpre 2 rfl)) cN)
 refine q_bs hI297 (vs := [(0, agg [int .i64 ((a3.getD (Int.toNat v32) z_api_Slice).Node), int .i64 ((a3.getD (Int.toNat v32) z_api_Slice).Table), int .i64 ((a3.getD (Int.toNat v32) z_api_Slice).X), int .i64 ((a3.getD (Int.toNat v32) z_api_Slice).Y), int .i64 ((a3.getD (Int.toNat v32) z_api_Slice).H), string ((a3.getD (Int.toNat v32) z_api_Slice).Text), bool ((a3.getD (Int.toNat v32) z_api_Slice).Head), bool ((a3.getD (Int.toNat v32) z_api_Slice).Note)].toArray)]) (cs := [int .i64 ((a3.getD (Int.toNat v32) z_api_Slice).Node), int .i64 ((a3.getD (Int.toNat v32) z_api_Slice).Table), int .i64 ((a3.getD (Int.toNat v32) z_api_Slice).X), int .i64 ((a3.getD (Int.toNat v32) z_api_Slice).Y), int .i64 ((a3.getD (Int.toNat v32) z_api_Slice).H), string ((a3.getD (Int.toNat v32) z_api_Slice).Text), bool ((a3.getD (Int.toNat v32) z_api_Slice).Head), bool ((a3.getD (Int.toNat v32) z_api_Slice).Note)]) el24 ze36 rfl (by decide) rfl (by kernel_rfl) (fun g269 wd270 hI271 => ?_)
 exact nl ⟨z, (.inr (.inl ⟨z, (hpost 4 z), g269, _, hG296, (Regs.step (Regs.more (new := [(3, 53, slice (some ⟨g269, 0, none⟩) 1 1)]) hReg298 (List.forall_mem_cons.2 ⟨hDi, (fun _ h => nomatch h)⟩)) hDi z z z z), hI271⟩))⟩
 cases hDi.symm.trans hd1
 cases (hpost 4 rfl).symm.trans hd1
 cases (hpost 18 rfl).symm.trans hd1
 cases (hpost 20 rfl).symm.trans hd1
 rintro D r wd299 (⟨hd2, G295, hG296, hReg298, hI297⟩ | ⟨hd1, hd2, g269, G295, hG296, hReg298, hI297⟩ | ⟨hd1, hd2, g269, A274, c275, G295, hG296, hl280, hD281, ho279, hReg298, hI297⟩ | ⟨hd1, hd2, g269, A274, c275, G295, hG296, hl280, hD281, ho279, hReg298, hI297⟩ | ⟨hd1, g269, A274, c275, G295, hG296, hl280, hD281, ho279, hReg298, hI297⟩) hDi hpre hpost
 cases (hpre 3 rfl).symm.trans hd2
 obtain ⟨r0, rfl⟩ := Has.ex (cC (hReg298.get 1 rfl (hpre 1 rfl)) (cC (hReg298.get 15 rfl (hpre 3 rfl)) cN))
 refine have hI272:=Hp.emp hI297;?_
 refine q_app (xs := ([] : List api_Slice)) (ys := [(a3.getD (Int.toNat v32) z_api_Slice)]) k_api_Slice hI272 0 el24 ze36 rfl rfl rfl rfl Own.nil (show ([] : List api_Slice).length ≤ 0 from Nat.le_refl 0) (Dat.nil _ _ _) (src_bx hI272 1 so24 rfl rfl) ⟨[int .i64 ((a3.getD (Int.toNat v32) z_api_Slice).Node), int .i64 ((a3.getD (Int.toNat v32) z_api_Slice).Table), int .i64 ((a3.getD (Int.toNat v32) z_api_Slice).X), int .i64 ((a3.getD (Int.toNat v32) z_api_Slice).Y), int .i64 ((a3.getD (Int.toNat v32) z_api_Slice).H), string ((a3.getD (Int.toNat v32) z_api_Slice).Text), bool ((a3.getD (Int.toNat v32) z_api_Slice).Head), bool ((a3.getD (Int.toNat v32) z_api_Slice).Note)], _, rfl, (mk_api_Slice (x := (a3.getD (Int.toNat v32) z_api_Slice))), rfl⟩ rfl (by simp only [List.length_cons, List.length_nil] at *; omega) (by simp only [List.length_cons, List.length_nil] at *; omega) (fun A274 c275 G276 wd277 hG278 ho279 hl280 hD281 hI282 => ?_)
 exact nl ⟨z, (.inr (.inr (.inl ⟨z, (hpost 18 z), g269, A274, c275, _, (gT hG296 hG278), hl280, hD281, ho279, (Regs.step (Regs.more (new := [(4, 54, slice A274 (([] : List api_Slice) ++ [(a3.getD (Int.toNat v32) z_api_Slice)]).length c275), (17, 67, pointer (some ⟨g18, 0, none⟩))]) hReg298 (List.forall_mem_cons.2 ⟨hDi, (List.forall_mem_cons.2 ⟨hpost 17 z, (fun _ h => nomatch h)⟩)⟩)) hDi z z z z), hI282⟩)))⟩
 cases hDi.symm.trans hd1
 cases (hpost 18 rfl).symm.trans hd1
 cases (hpost 20 rfl).symm.trans hd1
 rintro D r wd299 (⟨hd2, G295, hG296, hReg298, hI297⟩ | ⟨hd1, hd2, g269, G295, hG296, hReg298, hI297⟩ | ⟨hd1, hd2, g269, A274, c275, G295, hG296, hl280, hD281, ho279, hReg298, hI297⟩ | ⟨hd1, hd2, g269, A274, c275, G295, hG296, hl280, hD281, ho279, hReg298, hI297⟩ | ⟨hd1, g269, A274, c275, G295, hG296, hl280, hD281, ho279, hReg298, hI297⟩) hDi hpre hpost
 obtain ⟨r0, rfl⟩ := Has.ex (cC (hReg298.ins.get 2 rfl) cN)
 exact fa fl64_2 z<|nl ⟨z, (.inl ⟨hd2, _, hG296, (Regs.step hReg298 hDi z z z z), hI297⟩)⟩
 obtain ⟨r0, rfl⟩ := Has.ex (cC (hReg298.ins.get 2 rfl) cN)
 exact fa fl64_2 z<|nl ⟨z, (.inr (.inl ⟨hd1, hd2, g269, _, hG296, (Regs.step hReg298 hDi z z z z), hI297⟩))⟩
 obtain ⟨r0, rfl⟩ := Has.ex (cC (hReg298.ins.get 2 rfl) cN)
 exact fa fl64_2 z<|nl ⟨z, (.inr (.inr (.inl ⟨hd1, hd2, g269, A274, c275, _, hG296, hl280, hD281, ho279, (Regs.step hReg298 hDi z z z z), hI297⟩)))⟩
 cases (hpost 18 rfl).symm.trans hd1
 cases (hpost 20 rfl).symm.trans hd1
 rintro D r wd299 (⟨hd2, G295, hG296, hReg298, hI297⟩ | ⟨hd1, hd2, g269, G295, hG296, hReg298, hI297⟩ | ⟨hd1, hd2, g269, A274, c275, G295, hG296, hl280, hD281, ho279, hReg298, hI297⟩ | ⟨hd1, hd2, g269, A274, c275, G295, hG296, hl280, hD281, ho279, hReg298, hI297⟩ | ⟨hd1, g269, A274, c275, G295, hG296, hl280, hD281, ho279, hReg298, hI297⟩) hDi hpre hpost
 obtain ⟨r0, rfl⟩ := Has.ex (cC (hReg298.get 3 rfl (hpre 5 rfl)) cN)
 exact ld hI297 1 ag3 z z z<|nl ⟨z, (.inl ⟨hd2, _, hG296, (Regs.step hReg298 hDi z z z z), hI297⟩)⟩
 obtain ⟨r0, rfl⟩ := Has.ex (cC (hReg298.get 3 rfl (hpre 5 rfl)) cN)
 exact ld hI297 2 ag3 z z z<|nl ⟨z, (.inr (.inl ⟨hd1, hd2, g269, _, hG296, (Regs.step hReg298 hDi z z z z), hI297⟩))⟩
 obtain ⟨r0, rfl⟩ := Has.ex (cC (hReg298.get 3 rfl (hpre 5 rfl)) cN)
 exact ld hI297 3 ag3 z z z<|nl ⟨z, (.inr (.inr (.inl ⟨hd1, hd2, g269, A274, c275, _, hG296, hl280, hD281, ho279, (Regs.step hReg298 hDi z z z z), hI297⟩)))⟩
 cases (hpost 18 rfl).symm.trans hd1
 cases (hpost 20 rfl).symm.trans hd1
 rintro D r wd299 (⟨hd2, G295, hG296, hReg298, hI297⟩ | ⟨hd1, hd2, g269, G295, hG296, hReg298, hI297⟩ | ⟨hd1, hd2, g269, A274, c275, G295, hG296, hl280, hD281, ho279, hReg298, hI297⟩ | ⟨hd1, hd2, g269, A274, c275, G295, hG296, hl280, hD281, ho279, hReg298, hI297⟩ | ⟨hd1, g269, A274, c275, G295, hG296, hl280, hD281, ho279, hReg298, hI297⟩) hDi hpre hpost
 obtain ⟨r0, rfl⟩ := Has.ex (cC (hReg298.ins.get 4 rfl) cN)
 exact fa fl36_3 z<|nl ⟨z, (.inl ⟨hd2, _, hG296, (Regs.step hReg298 hDi z z z z), hI297⟩)⟩
 obtain ⟨r0, rfl⟩ := Has.ex (cC (hReg298.ins.get 4 rfl) cN)
 exact fa fl36_3 z<|nl ⟨z, (.inr (.inl ⟨hd1, hd2, g269, _, hG296, (Regs.step hReg298 hDi z z z z), hI297⟩))⟩
 obtain ⟨r0, rfl⟩ := Has.ex (cC (hReg298.ins.get 4 rfl) cN)
 exact fa fl36_3 z<|nl ⟨z, (.inr (.inr (.inl ⟨hd1, hd2, g269, A274, c275, _, hG296, hl280, hD281, ho279, (Regs.step hReg298 hDi z z z z), hI297⟩)))⟩
 obtain ⟨r0, rfl⟩ := Has.ex (cC (hReg298.ins.get 4 rfl) cN)
 exact fa fl36_3 z<|nl ⟨z, (.inr (.inr (.inr (.inl ⟨hd1, hd2, g269, A274, c275, _, hG296, hl280, hD281, ho279, (Regs.step hReg298 hDi z z z z), hI297⟩))))⟩
 cases (hpost 20 rfl).symm.trans hd1
 rintro D r wd299 (⟨hd2, G295, hG296, hReg298, hI297⟩ | ⟨hd1, hd2, g269, G295, hG296, hReg298, hI297⟩ | ⟨hd1, hd2, g269, A274, c275, G295, hG296, hl280, hD281, ho279, hReg298, hI297⟩ | ⟨hd1, hd2, g269, A274, c275, G295, hG296, hl280, hD281, ho279, hReg298, hI297⟩ | ⟨hd1, g269, A274, c275, G295, hG296, hl280, hD281, ho279, hReg298, hI297⟩) hDi hpre hpost
 obtain ⟨r0, rfl⟩ := Has.ex (cC (hReg298.get 5 rfl (hpre 7 rfl)) cN)
 exact ld hI297 0 ag3 z z z<|nl ⟨z, (.inl ⟨hd2, _, hG296, (Regs.step hReg298 hDi z z z z), hI297⟩)⟩
 obtain ⟨r0, rfl⟩ := Has.ex (cC (hReg298.get 5 rfl (hpre 7 rfl)) cN)
 exact ld hI297 1 ag3 z z z<|nl ⟨z, (.inr (.inl ⟨hd1, hd2, g269, _, hG296, (Regs.step hReg298 hDi z z z z), hI297⟩))⟩
 obtain ⟨r0, rfl⟩ := Has.ex (cC (hReg298.get 5 rfl (hpre 7 rfl)) cN)
 exact ld hI297 2 ag3 z z z<|nl ⟨z, (.inr (.inr (.inl ⟨hd1, hd2, g269, A274, c275, _, hG296, hl280, hD281, ho279, (Regs.step hReg298 hDi z z z z), hI297⟩)))⟩
 obtain ⟨r0, rfl⟩ := Has.ex (cC (hReg298.get 5 rfl (hpre 7 rfl)) cN)
 exact ld hI297 2 ag3 z z z<|nl ⟨z, (.inr (.inr (.inr (.inl ⟨hd1, hd2, g269, A274, c275, _, hG296, hl280, hD281, ho279, (Regs.step hReg298 hDi z z z z), hI297⟩))))⟩
 cases (hpost 20 rfl).symm.trans hd1
 rintro D r wd299 (⟨hd2, G295, hG296, hReg298, hI297⟩ | ⟨hd1, hd2, g269, G295, hG296, hReg298, hI297⟩ | ⟨hd1, hd2, g269, A274, c275, G295, hG296, hl280, hD281, ho279, hReg298, hI297⟩ | ⟨hd1, hd2, g269, A274, c275, G295, hG296, hl280, hD281, ho279, hReg298, hI297⟩ | ⟨hd1, g269, A274, c275, G295, hG296, hl280, hD281, ho279, hReg298, hI297⟩) hDi hpre hpost
 obtain ⟨r0, rfl⟩ := Has.ex (cC (hReg298.ins.get 4 rfl) cN)
 exact fa fl36_4 z<|nl ⟨z, (.inl ⟨hd2, _, hG296, (Regs.step hReg298 hDi z z z z), hI297⟩)⟩
 obtain ⟨r0, rfl⟩ := Has.ex (cC (hReg298.ins.get 4 rfl) cN)
 exact fa fl36_4 z<|nl ⟨z, (.inr (.inl ⟨hd1, hd2, g269, _, hG296, (Regs.step hReg298 hDi z z z z), hI297⟩))⟩
 obtain ⟨r0, rfl⟩ := Has.ex (cC (hReg298.ins.get 4 rfl) cN)
 exact fa fl36_4 z<|nl ⟨z, (.inr (.inr (.inl ⟨hd1, hd2, g269, A274, c275, _, hG296, hl280, hD281, ho279, (Regs.step hReg298 hDi z z z z), hI297⟩)))⟩
 obtain ⟨r0, rfl⟩ := Has.ex (cC (hReg298.ins.get 4 rfl) cN)
 exact fa fl36_4 z<|nl ⟨z, (.inr (.inr (.inr (.inl ⟨hd1, hd2, g269, A274, c275, _, hG296, hl280, hD281, ho279, (Regs.step hReg298 hDi z z z z), hI297⟩))))⟩
 cases (hpost 20 rfl).symm.trans hd1
 rintro D r wd299 (⟨hd2, G295, hG296, hReg298, hI297⟩ | ⟨hd1, hd2, g269, G295, hG296, hReg298, hI297⟩ | ⟨hd1, hd2, g269, A274, c275, G295, hG296, hl280, hD281, ho279, hReg298, hI297⟩ | ⟨hd1, hd2, g269, A274, c275, G295, hG296, hl280, hD281, ho279, hReg298, hI297⟩ | ⟨hd1, g269, A274, c275, G295, hG296, hl280, hD281, ho279, hReg298, hI297⟩) hDi hpre hpost
 obtain ⟨r0, rfl⟩ := Has.ex (cC (hReg298.get 7 rfl (hpre 9 rfl)) cN)
 exact ld hI297 0 ag3 z z z<|nl ⟨z, (.inl ⟨hd2, _, hG296, (Regs.step hReg298 hDi z z z z), hI297⟩)⟩
 obtain ⟨r0, rfl⟩ := Has.ex (cC (hReg298.get 7 rfl (hpre 9 rfl)) cN)
 exact ld hI297 1 ag3 z z z<|nl ⟨z, (.inr (.inl ⟨hd1, hd2, g269, _, hG296, (Regs.step hReg298 hDi z z z z), hI297⟩))⟩
 obtain ⟨r0, rfl⟩ := Has.ex (cC (hReg298.get 7 rfl (hpre 9 rfl)) cN)
 exact ld hI297 2 ag3 z z z<|nl ⟨z, (.inr (.inr (.inl ⟨hd1, hd2, g269, A274, c275, _, hG296, hl280, hD281, ho279, (Regs.step hReg298 hDi z z z z), hI297⟩)))⟩
 obtain ⟨r0, rfl⟩ := Has.ex (cC (hReg298.get 7 rfl (hpre 9 rfl)) cN)
 exact ld hI297 2 ag3 z z z<|nl ⟨z, (.inr (.inr (.inr (.inl ⟨hd1, hd2, g269, A274, c275, _, hG296, hl280, hD281, ho279, (Regs.step hReg298 hDi z z z z), hI297⟩))))⟩
 cases (hpost 20 rfl).symm.trans hd1
 rintro D r wd299 (⟨hd2, G295, hG296, hReg298, hI297⟩ | ⟨hd1, hd2, g269, G295, hG296, hReg298, hI297⟩ | ⟨hd1, hd2, g269, A274, c275, G295, hG296, hl280, hD281, ho279, hReg298, hI297⟩ | ⟨hd1, hd2, g269, A274, c275, G295, hG296, hl280, hD281, ho279, hReg298, hI297⟩ | ⟨hd1, g269, A274, c275, G295, hG296, hl280, hD281, ho279, hReg298, hI297⟩) hDi hpre hpost
 obtain ⟨r0, rfl⟩ := Has.ex (cC (hReg298.get 6 rfl (hpre 8 rfl)) (cC (hReg298.get 8 rfl (hpre 10 rfl)) cN))
 exact q_add z z<|nl ⟨z, (.inl ⟨hd2, _, hG296, (Regs.step hReg298 hDi z z z z), hI297⟩)⟩
 obtain ⟨r0, rfl⟩ := Has.ex (cC (hReg298.get 6 rfl (hpre 8 rfl)) (cC (hReg298.get 8 rfl (hpre 10 rfl)) cN))
 exact q_add z z<|nl ⟨z, (.inr (.inl ⟨hd1, hd2, g269, _, hG296, (Regs.step hReg298 hDi z z z z), hI297⟩))⟩
 obtain ⟨r0, rfl⟩ := Has.ex (cC (hReg298.get 6 rfl (hpre 8 rfl)) (cC (hReg298.get 8 rfl (hpre 10 rfl)) cN))
 exact q_add z z<|nl ⟨z, (.inr (.inr (.inl ⟨hd1, hd2, g269, A274, c275, _, hG296, hl280, hD281, ho279, (Regs.step hReg298 hDi z z z z), hI297⟩)))⟩
 obtain ⟨r0, rfl⟩ := Has.ex (cC (hReg298.get 6 rfl (hpre 8 rfl)) (cC (hReg298.get 8 rfl (hpre 10 rfl)) cN))
 exact q_add z z<|nl ⟨z, (.inr (.inr (.inr (.inl ⟨hd1, hd2, g269, A274, c275, _, hG296, hl280, hD281, ho279, (Regs.step hReg298 hDi z z z z), hI297⟩))))⟩
 cases (hpost 20 rfl).symm.trans hd1
 rintro D r wd299 (⟨hd2, G295, hG296, hReg298, hI297⟩ | ⟨hd1, hd2, g269, G295, hG296, hReg298, hI297⟩ | ⟨hd1, hd2, g269, A274, c275, G295, hG296, hl280, hD281, ho279, hReg298, hI297⟩ | ⟨hd1, hd2, g269, A274, c275, G295, hG296, hl280, hD281, ho279, hReg298, hI297⟩ | ⟨hd1, g269, A274, c275, G295, hG296, hl280, hD281, ho279, hReg298, hI297⟩) hDi hpre hpost
 obtain ⟨r0, rfl⟩ := Has.ex (cC (hReg298.get 4 rfl (hpre 6 rfl)) (cC (hReg298.get 9 rfl (hpre 11 rfl)) cN))
 exact q_max z z<|nl ⟨z, (.inl ⟨hd2, _, hG296, (Regs.step hReg298 hDi z z z z), hI297⟩)⟩
 obtain ⟨r0, rfl⟩ := Has.ex (cC (hReg298.get 4 rfl (hpre 6 rfl)) (cC (hReg298.get 9 rfl (hpre 11 rfl)) cN))
 exact q_max z z<|nl ⟨z, (.inr (.inl ⟨hd1, hd2, g269, _, hG296, (Regs.step hReg298 hDi z z z z), hI297⟩))⟩
 obtain ⟨r0, rfl⟩ := Has.ex (cC (hReg298.get 4 rfl (hpre 6 rfl)) (cC (hReg298.get 9 rfl (hpre 11 rfl)) cN))
 exact q_max z z<|nl ⟨z, (.inr (.inr (.inl ⟨hd1, hd2, g269, A274, c275, _, hG296, hl280, hD281, ho279, (Regs.step hReg298 hDi z z z z), hI297⟩)))⟩
 obtain ⟨r0, rfl⟩ := Has.ex (cC (hReg298.get 4 rfl (hpre 6 rfl)) (cC (hReg298.get 9 rfl (hpre 11 rfl)) cN))
 exact q_max z z<|nl ⟨z, (.inr (.inr (.inr (.inl ⟨hd1, hd2, g269, A274, c275, _, hG296, hl280, hD281, ho279, (Regs.step hReg298 hDi z z z z), hI297⟩))))⟩
 cases (hpost 20 rfl).symm.trans hd1
 rintro D r wd299 (⟨hd2, G295, hG296, hReg298, hI297⟩ | ⟨hd1, hd2, g269, G295, hG296, hReg298, hI297⟩ | ⟨hd1, hd2, g269, A274, c275, G295, hG296, hl280, hD281, ho279, hReg298, hI297⟩ | ⟨hd1, hd2, g269, A274, c275, G295, hG296, hl280, hD281, ho279, hReg298, hI297⟩ | ⟨hd1, g269, A274, c275, G295, hG296, hl280, hD281, ho279, hReg298, hI297⟩) hDi hpre hpost
 obtain ⟨r0, rfl⟩ := Has.ex (cC (hReg298.ins.get 1 rfl) cN)
 exact ld hI297 3 ag25 z z z<|nl ⟨z, (.inl ⟨hd2, _, hG296, (Regs.step hReg298 hDi z z z z), hI297⟩)⟩
 obtain ⟨r0, rfl⟩ := Has.ex (cC (hReg298.ins.get 1 rfl) cN)
 exact ld hI297 4 ag25 z z z<|nl ⟨z, (.inr (.inl ⟨hd1, hd2, g269, _, hG296, (Regs.step hReg298 hDi z z z z), hI297⟩))⟩
 obtain ⟨r0, rfl⟩ := Has.ex (cC (hReg298.ins.get 1 rfl) cN)
 exact ld hI297 5 ag25 z z z<|nl ⟨z, (.inr (.inr (.inl ⟨hd1, hd2, g269, A274, c275, _, hG296, hl280, hD281, ho279, (Regs.step hReg298 hDi z z z z), hI297⟩)))⟩
 obtain ⟨r0, rfl⟩ := Has.ex (cC (hReg298.ins.get 1 rfl) cN)
 exact ld hI297 5 ag25 z z z<|nl ⟨z, (.inr (.inr (.inr (.inl ⟨hd1, hd2, g269, A274, c275, _, hG296, hl280, hD281, ho279, (Regs.step hReg298 hDi z z z z), hI297⟩))))⟩
 obtain ⟨r0, rfl⟩ := Has.ex (cC (hReg298.ins.get 1 rfl) cN)
 exact ld hI297 5 ag25 z z z<|nl ⟨z, (.inr (.inr (.inr (.inr ⟨hd1, g269, A274, c275, _, hG296, hl280, hD281, ho279, (Regs.step hReg298 hDi z z z z), hI297⟩))))⟩
 rintro D r wd299 (⟨hd2, G295, hG296, hReg298, hI297⟩ | ⟨hd1, hd2, g269, G295, hG296, hReg298, hI297⟩ | ⟨hd1, hd2, g269, A274, c275, G295, hG296, hl280, hD281, ho279, hReg298, hI297⟩ | ⟨hd1, hd2, g269, A274, c275, G295, hG296, hl280, hD281, ho279, hReg298, hI297⟩ | ⟨hd1, g269, A274, c275, G295, hG296, hl280, hD281, ho279, hReg298, hI297⟩) hDi hpre hpost
 obtain ⟨r0, rfl⟩ := Has.ex (cC (hReg298.ins.get 3 rfl) cN)
 exact mv z<|nl ⟨z, (.inl ⟨hd2, _, hG296, (Regs.step hReg298 hDi z z z z), hI297⟩)⟩
 obtain ⟨r0, rfl⟩ := Has.ex (cC (hReg298.ins.get 3 rfl) cN)
 exact mv z<|nl ⟨z, (.inr (.inl ⟨hd1, hd2, g269, _, hG296, (Regs.step hReg298 hDi z z z z), hI297⟩))⟩
 obtain ⟨r0, rfl⟩ := Has.ex (cC (hReg298.ins.get 3 rfl) cN)
 exact mv z<|nl ⟨z, (.inr (.inr (.inl ⟨hd1, hd2, g269, A274, c275, _, hG296, hl280, hD281, ho279, (Regs.step hReg298 hDi z z z z), hI297⟩)))⟩
 obtain ⟨r0, rfl⟩ := Has.ex (cC (hReg298.ins.get 3 rfl) cN)
 exact mv z<|nl ⟨z, (.inr (.inr (.inr (.inl ⟨hd1, hd2, g269, A274, c275, _, hG296, hl280, hD281, ho279, (Regs.step hReg298 hDi z z z z), hI297⟩))))⟩
 obtain ⟨r0, rfl⟩ := Has.ex (cC (hReg298.ins.get 3 rfl) cN)
 exact mv z<|nl ⟨z, (.inr (.inr (.inr (.inr ⟨hd1, g269, A274, c275, _, hG296, hl280, hD281, ho279, (Regs.step hReg298 hDi z z z z), hI297⟩))))⟩
 rintro D r wd299 (⟨hd2, G295, hG296, hReg298, hI297⟩ | ⟨hd1, hd2, g269, G295, hG296, hReg298, hI297⟩ | ⟨hd1, hd2, g269, A274, c275, G295, hG296, hl280, hD281, ho279, hReg298, hI297⟩ | ⟨hd1, hd2, g269, A274, c275, G295, hG296, hl280, hD281, ho279, hReg298, hI297⟩ | ⟨hd1, g269, A274, c275, G295, hG296, hl280, hD281, ho279, hReg298, hI297⟩) hDi hpre hpost
 obtain ⟨r0, rfl⟩ := Has.ex (cC (hReg298.get 11 rfl (hpre 13 rfl)) (cC (hReg298.get 12 rfl (hpre 14 rfl)) cN))
 exact q_ia el25 z hA287 z h284 h284'<|nl ⟨z, (.inl ⟨hd2, _, hG296, (Regs.step hReg298 hDi z z z z), hI297⟩)⟩
 obtain ⟨r0, rfl⟩ := Has.ex (cC (hReg298.get 11 rfl (hpre 13 rfl)) (cC (hReg298.get 12 rfl (hpre 14 rfl)) cN))
 exact q_ia el25 z hA287 z h284 h284'<|nl ⟨z, (.inr (.inl ⟨hd1, hd2, g269, _, hG296, (Regs.step hReg298 hDi z z z z), hI297⟩))⟩
 obtain ⟨r0, rfl⟩ := Has.ex (cC (hReg298.get 11 rfl (hpre 13 rfl)) (cC (hReg298.get 12 rfl (hpre 14 rfl)) cN))
 exact q_ia el25 z hA287 z h284 h284'<|nl ⟨z, (.inr (.inr (.inl ⟨hd1, hd2, g269, A274, c275, _, hG296, hl280, hD281, ho279, (Regs.step hReg298 hDi z z z z), hI297⟩)))⟩
 obtain ⟨r0, rfl⟩ := Has.ex (cC (hReg298.get 11 rfl (hpre 13 rfl)) (cC (hReg298.get 12 rfl (hpre 14 rfl)) cN))
 exact q_ia el25 z hA287 z h284 h284'<|nl ⟨z, (.inr (.inr (.inr (.inl ⟨hd1, hd2, g269, A274, c275, _, hG296, hl280, hD281, ho279, (Regs.step hReg298 hDi z z z z), hI297⟩))))⟩
 obtain ⟨r0, rfl⟩ := Has.ex (cC (hReg298.get 11 rfl (hpre 13 rfl)) (cC (hReg298.get 12 rfl (hpre 14 rfl)) cN))
 exact q_ia el25 z hA287 z h284 h284'<|nl ⟨z, (.inr (.inr (.inr (.inr ⟨hd1, g269, A274, c275, _, hG296, hl280, hD281, ho279, (Regs.step hReg298 hDi z z z z), hI297⟩))))⟩
 rintro D r wd299 (⟨hd2, G295, hG296, hReg298, hI297⟩ | ⟨hd1, hd2, g269, G295, hG296, hReg298, hI297⟩ | ⟨hd1, hd2, g269, A274, c275, G295, hG296, hl280, hD281, ho279, hReg298, hI297⟩ | ⟨hd1, hd2, g269, A274, c275, G295, hG296, hl280, hD281, ho279, hReg298, hI297⟩ | ⟨hd1, g269, A274, c275, G295, hG296, hl280, hD281, ho279, hReg298, hI297⟩) hDi hpre hpost
 obtain ⟨r0, rfl⟩ := Has.ex (cC (hReg298.get 13 rfl (hpre 15 rfl)) cN)
 exact q_lf hI297 ag4 z (hG296.cel _ _ (hc290 0 _ z))<|nl ⟨z, (.inl ⟨hd2, _, hG296, (Regs.step hReg298 hDi z z z z), hI297⟩)⟩
 obtain ⟨r0, rfl⟩ := Has.ex (cC (hReg298.get 13 rfl (hpre 15 rfl)) cN)
 exact q_lf hI297 ag4 z (hG296.cel _ _ (hc290 0 _ z))<|nl ⟨z, (.inr (.inl ⟨hd1, hd2, g269, _, hG296, (Regs.step hReg298 hDi z z z z), hI297⟩))⟩
 obtain ⟨r0, rfl⟩ := Has.ex (cC (hReg298.get 13 rfl (hpre 15 rfl)) cN)
 exact q_lf hI297 ag4 z (hG296.cel _ _ (hc290 0 _ z))<|nl ⟨z, (.inr (.inr (.inl ⟨hd1, hd2, g269, A274, c275, _, hG296, hl280, hD281, ho279, (Regs.step hReg298 hDi z z z z), hI297⟩)))⟩
 obtain ⟨r0, rfl⟩ := Has.ex (cC (hReg298.get 13 rfl (hpre 15 rfl)) cN)
 exact q_lf hI297 ag4 z (hG296.cel _ _ (hc290 0 _ z))<|nl ⟨z, (.inr (.inr (.inr (.inl ⟨hd1, hd2, g269, A274, c275, _, hG296, hl280, hD281, ho279, (Regs.step hReg298 hDi z z z z), hI297⟩))))⟩
 obtain ⟨r0, rfl⟩ := Has.ex (cC (hReg298.get 13 rfl (hpre 15 rfl)) cN)
 exact q_lf hI297 ag4 z (hG296.cel _ _ (hc290 0 _ z))<|nl ⟨z, (.inr (.inr (.inr (.inr ⟨hd1, g269, A274, c275, _, hG296, hl280, hD281, ho279, (Regs.step hReg298 hDi z z z z), hI297⟩))))⟩
 rintro D r wd299 (⟨hd2, G295, hG296, hReg298, hI297⟩ | ⟨hd1, hd2, g269, G295, hG296, hReg298, hI297⟩ | ⟨hd1, hd2, g269, A274, c275, G295, hG296, hl280, hD281, ho279, hReg298, hI297⟩ | ⟨hd1, hd2, g269, A274, c275, G295, hG296, hl280, hD281, ho279, hReg298, hI297⟩ | ⟨hd1, g269, A274, c275, G295, hG296, hl280, hD281, ho279, hReg298, hI297⟩) hDi hpre hpost
 cases (hpre 3 rfl).symm.trans hd2
 cases (hpre 4 rfl).symm.trans hd2
 obtain ⟨r0, rfl⟩ := Has.ex (cC (hReg298.ins.get 2 rfl) cN)
 exact fa fl64_0 z<|nl ⟨z, (.inr (.inr (.inl ⟨hd1, hd2, g269, A274, c275, _, hG296, hl280, hD281, ho279, (Regs.step hReg298 hDi z z z z), hI297⟩)))⟩
 cases (hpost 18 rfl).symm.trans hd1
 cases (hpost 20 rfl).symm.trans hd1
 rintro D r wd299 (⟨hd2, G295, hG296, hReg298, hI297⟩ | ⟨hd1, hd2, g269, G295, hG296, hReg298, hI297⟩ | ⟨hd1, hd2, g269, A274, c275, G295, hG296, hl280, hD281, ho279, hReg298, hI297⟩ | ⟨hd1, hd2, g269, A274, c275, G295, hG296, hl280, hD281, ho279, hReg298, hI297⟩ | ⟨hd1, g269, A274, c275, G295, hG296, hl280, hD281, ho279, hReg298, hI297⟩) hDi hpre hpost
 cases (hpre 3 rfl).symm.trans hd2
 cases (hpre 4 rfl).symm.trans hd2
 obtain ⟨r0, rfl⟩ := Has.ex (cC (hReg298.get 16 rfl (hpre 4 rfl)) (cC (hReg298.get 17 rfl (hpre 17 rfl)) cN))
 exact stk hI297 3 ag24 z z z z z z z fun wd291 hI292=>nl ⟨z, (.inr (.inr (.inr (.inl ⟨z, (hpost 20 z), g269, A274, c275, _, hG296, hl280, hD281, ho279, (Regs.stepN (Regs.more (new := [(19, 68, pointer (some ⟨g18, 2, none⟩))]) hReg298 (List.forall_mem_cons.2 ⟨hpost 19 z, (fun _ h => nomatch h)⟩)) z z), hI292⟩))))⟩
 cases hDi.symm.trans hd1
 cases (hpost 20 rfl).symm.trans hd1
 rintro D r wd299 (⟨hd2, G295, hG296, hReg298, hI297⟩ | ⟨hd1, hd2, g269, G295, hG296, hReg298, hI297⟩ | ⟨hd1, hd2, g269, A274, c275, G295, hG296, hl280, hD281, ho279, hReg298, hI297⟩ | ⟨hd1, hd2, g269, A274, c275, G295, hG296, hl280, hD281, ho279, hReg298, hI297⟩ | ⟨hd1, g269, A274, c275, G295, hG296, hl280, hD281, ho279, hReg298, hI297⟩) hDi hpre hpost
 cases (hpre 3 rfl).symm.trans hd2
 cases (hpre 4 rfl).symm.trans hd2
 cases (hpre 18 rfl).symm.trans hd2
 obtain ⟨r0, rfl⟩ := Has.ex (cC (hReg298.ins.get 2 rfl) cN)
 exact fa fl64_2 z<|nl ⟨z, (.inr (.inr (.inr (.inl ⟨hd1, hd2, g269, A274, c275, _, hG296, hl280, hD281, ho279, (Regs.step hReg298 hDi z z z z), hI297⟩))))⟩
 cases (hpost 20 rfl).symm.trans hd1
 rintro D r wd299 (⟨hd2, G295, hG296, hReg298, hI297⟩ | ⟨hd1, hd2, g269, G295, hG296, hReg298, hI297⟩ | ⟨hd1, hd2, g269, A274, c275, G295, hG296, hl280, hD281, ho279, hReg298, hI297⟩ | ⟨hd1, hd2, g269, A274, c275, G295, hG296, hl280, hD281, ho279, hReg298, hI297⟩ | ⟨hd1, g269, A274, c275, G295, hG296, hl280, hD281, ho279, hReg298, hI297⟩) hDi hpre hpost
 cases (hpre 3 rfl).symm.trans hd2
 cases (hpre 4 rfl).symm.trans hd2
 cases (hpre 18 rfl).symm.trans hd2
 obtain ⟨r0, rfl⟩ := Has.ex (cC (hReg298.get 10 rfl (hpre 12 rfl)) (cC (hReg298.get 18 rfl (hpre 19 rfl)) cN))
 exact stk hI297 3 ag3 z z z z z z z fun wd293 hI294=>nl ⟨z, (.inr (.inr (.inr (.inr ⟨z, g269, A274, c275, _, hG296, hl280, hD281, ho279, (Regs.stepN (Regs.more (new := [(21, 5, bool (a10.getD (Int.toNat v32) false))]) hReg298 (List.forall_mem_cons.2 ⟨hpost 21 z, (fun _ h => nomatch h)⟩)) z z), hI294⟩))))⟩
 cases hDi.symm.trans hd1
 rintro D r wd299 (⟨hd2, G295, hG296, hReg298, hI297⟩ | ⟨hd1, hd2, g269, G295, hG296, hReg298, hI297⟩ | ⟨hd1, hd2, g269, A274, c275, G295, hG296, hl280, hD281, ho279, hReg298, hI297⟩ | ⟨hd1, hd2, g269, A274, c275, G295, hG296, hl280, hD281, ho279, hReg298, hI297⟩ | ⟨hd1, g269, A274, c275, G295, hG296, hl280, hD281, ho279, hReg298, hI297⟩) hDi hpre hpost
 cases (hpre 3 rfl).symm.trans hd2
 cases (hpre 4 rfl).symm.trans hd2
 cases (hpre 18 rfl).symm.trans hd2
 cases (hpre 20 rfl).symm.trans hd2
 obtain ⟨r0, rfl⟩ := Has.ex (cC (hReg298.get 14 rfl (hpre 16 rfl)) cN)
 exact asn z<|nl ⟨z, (.inr (.inr (.inr (.inr ⟨hd1, g269, A274, c275, _, hG296, hl280, hD281, ho279, (Regs.step hReg298 hDi z z z z), hI297⟩))))⟩
 intro D r wd299 hall hR
 rcases hR with ⟨hd2, G295, hG296, hReg298, hI297⟩ | ⟨hd1, hd2, g269, G295, hG296, hReg298, hI297⟩ | ⟨hd1, hd2, g269, A274, c275, G295, hG296, hl280, hD281, ho279, hReg298, hI297⟩ | ⟨hd1, hd2, g269, A274, c275, G295, hG296, hl280, hD281, ho279, hReg298, hI297⟩ | ⟨hd1, g269, A274, c275, G295, hG296, hl280, hD281, ho279, hReg298, hI297⟩
 cases (hall 3 (Nat.le_of_ble_eq_true rfl)).symm.trans hd2
 cases (hall 4 (Nat.le_of_ble_eq_true rfl)).symm.trans hd2
 cases (hall 18 (Nat.le_of_ble_eq_true rfl)).symm.trans hd2
 cases (hall 20 (Nat.le_of_ble_eq_true rfl)).symm.trans hd2
 obtain ⟨r0, rfl⟩ := Has.ex (cC (hReg298.ins.get 0 rfl) (cC (hReg298.ins.get 1 rfl) (cC (hReg298.ins.get 2 rfl) (cC (hReg298.get 19 rfl (hall 21 (Nat.le_of_ble_eq_true rfl))) (cC (hReg298.ins.get 5 rfl) (cC (hReg298.ins.get 6 rfl) (cC (hReg298.ins.get 7 rfl) cN)))))))
 refine have hI300:=Hp.emp hI297;have hI306:=Hp.pick 9 [4, 5, 6, 1, 0] hI300 z;?_
 cases H
 exact ⟨z, T235, A274, c275, none, 0, _, z, (gT hG236 hG296), ⟨z, z, z, z, z, z, z, tv⟩, hI306, hl280, hD281, ho279, (show ([] : List api_Slice).length ≤ 0 from Nat.le_refl 0), (Dat.nil _ _ _), Own.nil, (hy.mono hG296 hS237), tv⟩
 refine nK h252 H fun H=>wf (bN h252)<|ws<|hK249 _ _ _<|iK H fun h335 H=>iK H fun⟨h336, h336'⟩H=>?_
 obtain ⟨ad337, cs338, hA339, hK340, hn341, hc342⟩ := Dat.get (Dat.mono (gT hG122 hG236) hD14) false (v32) h336 h336'
 obtain rfl := hK340
 refine wpc_drawL [0, 1, 0, 4, 15, 0, 32, 0, 128, 0, 512, 1920, 4064, 0, 0, 24576, 57344, 127, 131199, 401407, 925695, 2097151] (fun D r w => (D 3 = false ∧ ∃ (G' : Gh), G234 ≤ G' ∧ Regs [(0, func (.yield yl) #[] #[]), (2, pointer (some ⟨g9, 0, none⟩)), (4, pointer (some ⟨g18, 0, none⟩)), (6, int .i64 v32), (7, pointer (some ⟨g173, 0, none⟩)), (8, slice A4 a3.length c5), (9, int .i64 (a3.length : Int)), (10, int .i64 v32)] [] [(0, 50, pointer (some ⟨g18, 0, none⟩)), (1, 51, slice none 0 0), (2, 52, agg [int .i64 ((a3.getD (Int.toNat v32) z_api_Slice).Node), int .i64 ((a3.getD (Int.toNat v32) z_api_Slice).Table), int .i64 ((a3.getD (Int.toNat v32) z_api_Slice).X), int .i64 ((a3.getD (Int.toNat v32) z_api_Slice).Y), int .i64 ((a3.getD (Int.toNat v32) z_api_Slice).H), string ((a3.getD (Int.toNat v32) z_api_Slice).Text), bool ((a3.getD (Int.toNat v32) z_api_Slice).Head), bool ((a3.getD (Int.toNat v32) z_api_Slice).Note)].toArray), (5, 55, pointer (some ⟨g18, 2, none⟩)), (6, 56, int .i64 0), (7, 57, pointer (some ⟨g173, 3, none⟩)), (8, 58, int .i64 ((a3.getD (Int.toNat v32) z_api_Slice).Y)), (9, 59, pointer (some ⟨g173, 4, none⟩)), (10, 60, int .i64 ((a3.getD (Int.toNat v32) z_api_Slice).H)), (11, 61, int .i64 (w64 (((a3.getD (Int.toNat v32) z_api_Slice).Y) + ((a3.getD (Int.toNat v32) z_api_Slice).H)))), (12, 62, int .i64 (max 0 (w64 (((a3.getD (Int.toNat v32) z_api_Slice).Y) + ((a3.getD (Int.toNat v32) z_api_Slice).H))))), (13, 63, slice A11 a10.length c12), (14, 64, int .i64 v32), (15, 65, pointer (some (ad337.add (Int.toNat v32 * 1)))), (16, 66, bool (a10.getD (Int.toNat v32) false))] D r ∧ Hp G' (bx g173 [int .i64 ((a3.getD (Int.toNat v32) z_api_Slice).Node), int .i64 ((a3.getD (Int.toNat v32) z_api_Slice).Table), int .i64 ((a3.getD (Int.toNat v32) z_api_Slice).X), int .i64 ((a3.getD (Int.toNat v32) z_api_Slice).Y), int .i64 ((a3.getD (Int.toNat v32) z_api_Slice).H), string ((a3.getD (Int.toNat v32) z_api_Slice).Text), bool ((a3.getD (Int.toNat v32) z_api_Slice).Head), bool ((a3.getD (Int.toNat v32) z_api_Slice).Note)] 36 :: bx g18 [slice none 0 0, slice none 0 0, int .i64 0] 64 :: bx g2 [slice A4 a3.length c5] 24 :: bx g9 [slice A11 a10.length c12] 25 :: tk (slice A34 v33.length c35) 8 36 :: tk (slice A41 v40.length c42) 8 36 :: T235) w) ∨ (D 3 = true ∧ D 4 = false ∧ ∃ (g321 : Nat) (G' : Gh), G234 ≤ G' ∧ Regs [(0, func (.yield yl) #[] #[]), (2, pointer (some ⟨g9, 0, none⟩)), (4, pointer (some ⟨g18, 0, none⟩)), (6, int .i64 v32), (7, pointer (some ⟨g173, 0, none⟩)), (8, slice A4 a3.length c5), (9, int .i64 (a3.length : Int)), (10, int .i64 v32)] [] [(0, 50, pointer (some ⟨g18, 0, none⟩)), (1, 51, slice none 0 0), (2, 52, agg [int .i64 ((a3.getD (Int.toNat v32) z_api_Slice).Node), int .i64 ((a3.getD (Int.toNat v32) z_api_Slice).Table), int .i64 ((a3.getD (Int.toNat v32) z_api_Slice).X), int .i64 ((a3.getD (Int.toNat v32) z_api_Slice).Y), int .i64 ((a3.getD (Int.toNat v32) z_api_Slice).H), string ((a3.getD (Int.toNat v32) z_api_Slice).Text), bool ((a3.getD (Int.toNat v32) z_api_Slice).Head), bool ((a3.getD (Int.toNat v32) z_api_Slice).Note)].toArray), (5, 55, pointer (some ⟨g18, 2, none⟩)), (6, 56, int .i64 0), (7, 57, pointer (some ⟨g173, 3, none⟩)), (8, 58, int .i64 ((a3.getD (Int.toNat v32) z_api_Slice).Y)), (9, 59, pointer (some ⟨g173, 4, none⟩)), (10, 60, int .i64 ((a3.getD (Int.toNat v32) z_api_Slice).H)), (11, 61, int .i64 (w64 (((a3.getD (Int.toNat v32) z_api_Slice).Y) + ((a3.getD (Int.toNat v32) z_api_Slice).H)))), (12, 62, int .i64 (max 0 (w64 (((a3.getD (Int.toNat v32) z_api_Slice).Y) + ((a3.getD (Int.toNat v32) z_api_Slice).H))))), (13, 63, slice A11 a10.length c12), (14, 64, int .i64 v32), (15, 65, pointer (some (ad337.add (Int.toNat v32 * 1)))), (16, 66, bool (a10.getD (Int.toNat v32) false)), (3, 53, slice (some ⟨g321, 0, none⟩) 1 1)] D r ∧ Hp G' (bx g321 [int .i64 ((a3.getD (Int.toNat v32) z_api_Slice).Node), int .i64 ((a3.getD (Int.toNat v32) z_api_Slice).Table), int .i64 ((a3.getD (Int.toNat v32) z_api_Slice).X), int .i64 ((a3.getD (Int.toNat v32) z_api_Slice).Y), int .i64 ((a3.getD (Int.toNat v32) z_api_Slice).H), string ((a3.getD (Int.toNat v32) z_api_Slice).Text), bool ((a3.getD (Int.toNat v32) z_api_Slice).Head), bool ((a3.getD (Int.toNat v32) z_api_Slice).Note)] 36 :: bx g173 [int .i64 ((a3.getD (Int.toNat v32) z_api_Slice).Node), int .i64 ((a3.getD (Int.toNat v32) z_api_Slice).Table), int .i64 ((a3.getD (Int.toNat v32) z_api_Slice).X), int .i64 ((a3.getD (Int.toNat v32) z_api_Slice).Y), int .i64 ((a3.getD (Int.toNat v32) z_api_Slice).H), string ((a3.getD (Int.toNat v32) z_api_Slice).Text), bool ((a3.getD (Int.toNat v32) z_api_Slice).Head), bool ((a3.getD (Int.toNat v32) z_api_Slice).Note)] 36 :: bx g18 [slice none 0 0, slice none 0 0, int .i64 0] 64 :: bx g2 [slice A4 a3.length c5] 24 :: bx g9 [slice A11 a10.length c12] 25 :: tk (slice A34 v33.length c35) 8 36 :: tk (slice A41 v40.length c42) 8 36 :: T235) w) ∨ (D 4 = true ∧ D 18 = false ∧ ∃ (g321 : Nat) (A326 : Option Addr) (c327 : Nat) (G' : Gh), G234 ≤ G' ∧ (([] : List api_Slice) ++ [(a3.getD (Int.toNat v32) z_api_Slice)]).length ≤ c327 ∧ Dat k_api_Slice G' A326 (([] : List api_Slice) ++ [(a3.getD (Int.toNat v32) z_api_Slice)]) ∧ Own A326 c327 ∧ Regs [(0, func (.yield yl) #[] #[]), (2, pointer (some ⟨g9, 0, none⟩)), (4, pointer (some ⟨g18, 0, none⟩)), (6, int .i64 v32), (7, pointer (some ⟨g173, 0, none⟩)), (8, slice A4 a3.length c5), (9, int .i64 (a3.length : Int)), (10, int .i64 v32)] [] [(0, 50, pointer (some ⟨g18, 0, none⟩)), (1, 51, slice none 0 0), (2, 52, agg [int .i64 ((a3.getD (Int.toNat v32) z_api_Slice).Node), int .i64 ((a3.getD (Int.toNat v32) z_api_Slice).Table), int .i64 ((a3.getD (Int.toNat v32) z_api_Slice).X), int .i64 ((a3.getD (Int.toNat v32) z_api_Slice).Y), int .i64 ((a3.getD (Int.toNat v32) z_api_Slice).H), string ((a3.getD (Int.toNat v32) z_api_Slice).Text), bool ((a3.getD (Int.toNat v32) z_api_Slice).Head), bool ((a3.getD (Int.toNat v32) z_api_Slice).Note)].toArray), (5, 55, pointer (some ⟨g18, 2, none⟩)), (6, 56, int .i64 0), (7, 57, pointer (some ⟨g173, 3, none⟩)), (8, 58, int .i64 ((a3.getD (Int.toNat v32) z_api_Slice).Y)), (9, 59, pointer (some ⟨g173, 4, none⟩)), (10, 60, int .i64 ((a3.getD (Int.toNat v32) z_api_Slice).H)), (11, 61, int .i64 (w64 (((a3.getD (Int.toNat v32) z_api_Slice).Y) + ((a3.getD (Int.toNat v32) z_api_Slice).H)))), (12, 62, int .i64 (max 0 (w64 (((a3.getD (Int.toNat v32) z_api_Slice).Y) + ((a3.getD (Int.toNat v32) z_api_Slice).H))))), (13, 63, slice A11 a10.length c12), (14, 64, int .i64 v32), (15, 65, pointer (some (ad337.add (Int.toNat v32 * 1)))), (16, 66, bool (a10.getD (Int.toNat v32) false)), (3, 53, slice (some ⟨g321, 0, none⟩) 1 1), (4, 54, slice A326 (([] : List api_Slice) ++ [(a3.getD (Int.toNat v32) z_api_Slice)]).length c327), (17, 67, pointer (some ⟨g18, 0, none⟩))] D r ∧ Hp G' (tk (slice A326 (([] : List api_Slice) ++ [(a3.getD (Int.toNat v32) z_api_Slice)]).length c327) 8 36 :: bx g321 [int .i64 ((a3.getD (Int.toNat v32) z_api_Slice).Node), int .i64 ((a3.getD (Int.toNat v32) z_api_Slice).Table), int .i64 ((a3.getD (Int.toNat v32) z_api_Slice).X), int .i64 ((a3.getD (Int.toNat v32) z_api_Slice).Y), int .i64 ((a3.getD (Int.toNat v32) z_api_Slice).H), string ((a3.getD (Int.toNat v32) z_api_Slice).Text), bool ((a3.getD (Int.toNat v32) z_api_Slice).Head), bool ((a3.getD (Int.toNat v32) z_api_Slice).Note)] 36 :: bx g173 [int .i64 ((a3.getD (Int.toNat v32) z_api_Slice).Node), int .i64 ((a3.getD (Int.toNat v32) z_api_Slice).Table), int .i64 ((a3.getD (Int.toNat v32) z_api_Slice).X), int .i64 ((a3.getD (Int.toNat v32) z_api_Slice).Y), int .i64 ((a3.getD (Int.toNat v32) z_api_Slice).H), string ((a3.getD (Int.toNat v32) z_api_Slice).Text), bool ((a3.getD (Int.toNat v32) z_api_Slice).Head), bool ((a3.getD (Int.toNat v32) z_api_Slice).Note)] 36 :: bx g18 [slice none 0 0, slice none 0 0, int .i64 0] 64 :: bx g2 [slice A4 a3.length c5] 24 :: bx g9 [slice A11 a10.length c12] 25 :: tk (slice A34 v33.length c35) 8 36 :: tk (slice A41 v40.length c42) 8 36 :: T235) w) ∨ (D 18 = true ∧ D 20 = false ∧ ∃ (g321 : Nat) (A326 : Option Addr) (c327 : Nat) (G' : Gh), G234 ≤ G' ∧ (([] : List api_Slice) ++ [(a3.getD (Int.toNat v32) z_api_Slice)]).length ≤ c327 ∧ Dat k_api_Slice G' A326 (([] : List api_Slice) ++ [(a3.getD (Int.toNat v32) z_api_Slice)]) ∧ Own A326 c327 ∧ Regs [(0, func (.yield yl) #[] #[]), (2, pointer (some ⟨g9, 0, none⟩)), (4, pointer (some ⟨g18, 0, none⟩)), (6, int .i64 v32), (7, pointer (some ⟨g173, 0, none⟩)), (8, slice A4 a3.length c5), (9, int .i64 (a3.length : Int)), (10, int .i64 v32)] [] [(0, 50, pointer (some ⟨g18, 0, none⟩)), (1, 51, slice none 0 0), (2, 52, agg [int .i64 ((a3.getD (Int.toNat v32) z_api_Slice).Node), int .i64 ((a3.getD (Int.toNat v32) z_api_Slice).Table), int .i64 ((a3.getD (Int.toNat v32) z_api_Slice).X), int .i64 ((a3.getD (Int.toNat v32) z_api_Slice).Y), int .i64 ((a3.getD (Int.toNat v32) z_api_Slice).H), string ((a3.getD (Int.toNat v32) z_api_Slice).Text), bool ((a3.getD (Int.toNat v32) z_api_Slice).Head), bool ((a3.getD (Int.toNat v32) z_api_Slice).Note)].toArray), (5, 55, pointer (some ⟨g18, 2, none⟩)), (6, 56, int .i64 0), (7, 57, pointer (some ⟨g173, 3, none⟩)), (8, 58, int .i64 ((a3.getD (Int.toNat v32) z_api_Slice).Y)), (9, 59, pointer (some ⟨g173, 4, none⟩)), (10, 60, int .i64 ((a3.getD (Int.toNat v32) z_api_Slice).H)), (11, 61, int .i64 (w64 (((a3.getD (Int.toNat v32) z_api_Slice).Y) + ((a3.getD (Int.toNat v32) z_api_Slice).H)))), (12, 62, int .i64 (max 0 (w64 (((a3.getD (Int.toNat v32) z_api_Slice).Y) + ((a3.getD (Int.toNat v32) z_api_Slice).H))))), (13, 63, slice A11 a10.length c12), (14, 64, int .i64 v32), (15, 65, pointer (some (ad337.add (Int.toNat v32 * 1)))), (16, 66, bool (a10.getD (Int.toNat v32) false)), (3, 53, slice (some ⟨g321, 0, none⟩) 1 1), (4, 54, slice A326 (([] : List api_Slice) ++ [(a3.getD (Int.toNat v32) z_api_Slice)]).length c327), (17, 67, pointer (some ⟨g18, 0, none⟩)), (19, 68, pointer (some ⟨g18, 2, none⟩))] D r ∧ Hp G' (tk (slice A326 (([] : List api_Slice) ++ [(a3.getD (Int.toNat v32) z_api_Slice)]).length c327) 8 36 :: bx g321 [int .i64 ((a3.getD (Int.toNat v32) z_api_Slice).Node), int .i64 ((a3.getD (Int.toNat v32) z_api_Slice).Table), int .i64 ((a3.getD (Int.toNat v32) z_api_Slice).X), int .i64 ((a3.getD (Int.toNat v32) z_api_Slice).Y), int .i64 ((a3.getD (Int.toNat v32) z_api_Slice).H), string ((a3.getD (Int.toNat v32) z_api_Slice).Text), bool ((a3.getD (Int.toNat v32) z_api_Slice).Head), bool ((a3.getD (Int.toNat v32) z_api_Slice).Note)] 36 :: bx g173 [int .i64 ((a3.getD (Int.toNat v32) z_api_Slice).Node), int .i64 ((a3.getD (Int.toNat v32) z_api_Slice).Table), int .i64 ((a3.getD (Int.toNat v32) z_api_Slice).X), int .i64 ((a3.getD (Int.toNat v32) z_api_Slice).Y), int .i64 ((a3.getD (Int.toNat v32) z_api_Slice).H), string ((a3.getD (Int.toNat v32) z_api_Slice).Text), bool ((a3.getD (Int.toNat v32) z_api_Slice).Head), bool ((a3.getD (Int.toNat v32) z_api_Slice).Note)] 36 :: bx g18 [slice A326 (([] : List api_Slice) ++ [(a3.getD (Int.toNat v32) z_api_Slice)]).length c327, slice none 0 0, int .i64 0] 64 :: bx g2 [slice A4 a3.length c5] 24 :: bx g9 [slice A11 a10.length c12] 25 :: tk (slice A34 v33.length c35) 8 36 :: tk (slice A41 v40.length c42) 8 36 :: T235) w) ∨ (D 20 = true ∧ ∃ (g321 : Nat) (A326 : Option Addr) (c327 : Nat) (G' : Gh), G234 ≤ G' ∧ (([] : List api_Slice) ++ [(a3.getD (Int.toNat v32) z_api_Slice)]).length ≤ c327 ∧ Dat k_api_Slice G' A326 (([] : List api_Slice) ++ [(a3.getD (Int.toNat v32) z_api_Slice)]) ∧ Own A326 c327 ∧ Regs [(0, func (.yield yl) #[] #[]), (2, pointer (some ⟨g9, 0, none⟩)), (4, pointer (some ⟨g18, 0, none⟩)), (6, int .i64 v32), (7, pointer (some ⟨g173, 0, none⟩)), (8, slice A4 a3.length c5), (9, int .i64 (a3.length : Int)), (10, int .i64 v32)] [] [(0, 50, pointer (some ⟨g18, 0, none⟩)), (1, 51, slice none 0 0), (2, 52, agg [int .i64 ((a3.getD (Int.toNat v32) z_api_Slice).Node), int .i64 ((a3.getD (Int.toNat v32) z_api_Slice).Table), int .i64 ((a3.getD (Int.toNat v32) z_api_Slice).X), int .i64 ((a3.getD (Int.toNat v32) z_api_Slice).Y), int .i64 ((a3.getD (Int.toNat v32) z_api_Slice).H), string ((a3.getD (Int.toNat v32) z_api_Slice).Text), bool ((a3.getD (Int.toNat v32) z_api_Slice).Head), bool ((a3.getD (Int.toNat v32) z_api_Slice).Note)].toArray), (5, 55, pointer (some ⟨g18, 2, none⟩)), (6, 56, int .i64 0), (7, 57, pointer (some ⟨g173, 3, none⟩)), (8, 58, int .i64 ((a3.getD (Int.toNat v32) z_api_Slice).Y)), (9, 59, pointer (some ⟨g173, 4, none⟩)), (10, 60, int .i64 ((a3.getD (Int.toNat v32) z_api_Slice).H)), (11, 61, int .i64 (w64 (((a3.getD (Int.toNat v32) z_api_Slice).Y) + ((a3.getD (Int.toNat v32) z_api_Slice).H)))), (12, 62, int .i64 (max 0 (w64 (((a3.getD (Int.toNat v32) z_api_Slice).Y) + ((a3.getD (Int.toNat v32) z_api_Slice).H))))), (13, 63, slice A11 a10.length c12), (14, 64, int .i64 v32), (15, 65, pointer (some (ad337.add (Int.toNat v32 * 1)))), (16, 66, bool (a10.getD (Int.toNat v32) false)), (3, 53, slice (some ⟨g321, 0, none⟩) 1 1), (4, 54, slice A326 (([] : List api_Slice) ++ [(a3.getD (Int.toNat v32) z_api_Slice)]).length c327), (17, 67, pointer (some ⟨g18, 0, none⟩)), (19, 68, pointer (some ⟨g18, 2, none⟩)), (21, 5, bool (a10.getD (Int.toNat v32) false))] D r ∧ Hp G' (tk (slice A326 (([] : List api_Slice) ++ [(a3.getD (Int.toNat v32) z_api_Slice)]).length c327) 8 36 :: bx g321 [int .i64 ((a3.getD (Int.toNat v32) z_api_Slice).Node), int .i64 ((a3.getD (Int.toNat v32) z_api_Slice).Table), int .i64 ((a3.getD (Int.toNat v32) z_api_Slice).X), int .i64 ((a3.getD (Int.toNat v32) z_api_Slice).Y), int .i64 ((a3.getD (Int.toNat v32) z_api_Slice).H), string ((a3.getD (Int.toNat v32) z_api_Slice).Text), bool ((a3.getD (Int.toNat v32) z_api_Slice).Head), bool ((a3.getD (Int.toNat v32) z_api_Slice).Note)] 36 :: bx g173 [int .i64 ((a3.getD (Int.toNat v32) z_api_Slice).Node), int .i64 ((a3.getD (Int.toNat v32) z_api_Slice).Table), int .i64 ((a3.getD (Int.toNat v32) z_api_Slice).X), int .i64 ((a3.getD (Int.toNat v32) z_api_Slice).Y), int .i64 ((a3.getD (Int.toNat v32) z_api_Slice).H), string ((a3.getD (Int.toNat v32) z_api_Slice).Text), bool ((a3.getD (Int.toNat v32) z_api_Slice).Head), bool ((a3.getD (Int.toNat v32) z_api_Slice).Note)] 36 :: bx g18 [slice A326 (([] : List api_Slice) ++ [(a3.getD (Int.toNat v32) z_api_Slice)]).length c327, slice none 0 0, int .i64 (max 0 (w64 (((a3.getD (Int.toNat v32) z_api_Slice).Y) + ((a3.getD (Int.toNat v32) z_api_Slice).H))))] 64 :: bx g2 [slice A4 a3.length c5] 24 :: bx g9 [slice A11 a10.length c12] 25 :: tk (slice A34 v33.length c35) 8 36 :: tk (slice A41 v40.length c42) 8 36 :: T235) w)) mixo z z ?_ ?_ ?_
 exact (.inl ⟨z, _, Gh.le_refl _, Regs.start ⟨z, z, z, z, z, z, z, z, tv⟩ trivial, hI247.drew⟩)
 refine ⟨?_, ?_, ?_, ?_, ?_, ?_, ?_, ?_, ?_, ?_, ?_, ?_, ?_, ?_, ?_, ?_, ?_, ?_, ?_, ?_, ?_, ?_, tv⟩
 rintro D r wd351 (⟨hd2, G347, hG348, hReg350, hI349⟩ | ⟨hd1, hd2, g321, G347, hG348, hReg350, hI349⟩ | ⟨hd1, hd2, g321, A326, c327, G347, hG348, hl332, hD333, ho331, hReg350, hI349⟩ | ⟨hd1, hd2, g321, A326, c327, G347, hG348, hl332, hD333, ho331, hReg350, hI349⟩ | ⟨hd1, g321, A326, c327, G347, hG348, hl332, hD333, ho331, hReg350, hI349⟩) hDi hpre hpost
 obtain ⟨r0, rfl⟩ := Has.ex (cC (hReg350.ins.get 2 rfl) cN)
 exact fa fl64_0 z<|nl ⟨z, (.inl ⟨hd2, _, hG348, (Regs.step hReg350 hDi z z z z), hI349⟩)⟩
 obtain ⟨r0, rfl⟩ := Has.ex (cC (hReg350.ins.get 2 rfl) cN)
 exact fa fl64_0 z<|nl ⟨z, (.inr (.inl ⟨hd1, hd2, g321, _, hG348, (Regs.step hReg350 hDi z z z z), hI349⟩))⟩
 cases (hpost 4 rfl).symm.trans hd1
 cases (hpost 18 rfl).symm.trans hd1
 cases (hpost 20 rfl).symm.trans hd1
 rintro D r wd351 (⟨hd2, G347, hG348, hReg350, hI349⟩ | ⟨hd1, hd2, g321, G347, hG348, hReg350, hI349⟩ | ⟨hd1, hd2, g321, A326, c327, G347, hG348, hl332, hD333, ho331, hReg350, hI349⟩ | ⟨hd1, hd2, g321, A326, c327, G347, hG348, hl332, hD333, ho331, hReg350, hI349⟩ | ⟨hd1, g321, A326, c327, G347, hG348, hl332, hD333, ho331, hReg350, hI349⟩) hDi hpre hpost
 obtain ⟨r0, rfl⟩ := Has.ex (cC (hReg350.get 0 rfl (hpre 0 rfl)) cN)
 exact ld hI349 1 ag24 z z z<|nl ⟨z, (.inl ⟨hd2, _, hG348, (Regs.step hReg350 hDi z z z z), hI349⟩)⟩
 obtain ⟨r0, rfl⟩ := Has.ex (cC (hReg350.get 0 rfl (hpre 0 rfl)) cN)
 exact ld hI349 2 ag24 z z z<|nl ⟨z, (.inr (.inl ⟨hd1, hd2, g321, _, hG348, (Regs.step hReg350 hDi z z z z), hI349⟩))⟩
 cases (hpost 4 rfl).symm.trans hd1
 cases (hpost 18 rfl).symm.trans hd1
 cases (hpost 20 rfl).symm.trans hd1
 rintro D r wd351 (⟨hd2, G347, hG348, hReg350, hI349⟩ | ⟨hd1, hd2, g321, G347, hG348, hReg350, hI349⟩ | ⟨hd1, hd2, g321, A326, c327, G347, hG348, hl332, hD333, ho331, hReg350, hI349⟩ | ⟨hd1, hd2, g321, A326, c327, G347, hG348, hl332, hD333, ho331, hReg350, hI349⟩ | ⟨hd1, g321, A326, c327, G347, hG348, hl332, hD333, ho331, hReg350, hI349⟩) hDi hpre hpost
 obtain ⟨r0, rfl⟩ := Has.ex (cC (hReg350.ins.get 4 rfl) cN)
 exact lda hI349 0 ag36 z z z z<|nl ⟨z, (.inl ⟨hd2, _, hG348, (Regs.step hReg350 hDi z z z z), hI349⟩)⟩
 cases (hpost 3 rfl).symm.trans hd1
 cases (hpost 4 rfl).symm.trans hd1
 cases (hpost 18 rfl).symm.trans hd1
 cases (hpost 20 rfl).symm.trans hd1
 rintro D r wd351 (⟨hd2, G347, hG348, hReg350, hI349⟩ | ⟨hd1, hd2, g321, G347, hG348, hReg350, hI349⟩ | ⟨hd1, hd2, g321, A326, c327, G347, hG348, hl332, hD333, ho331, hReg350, hI349⟩ | ⟨hd1, hd2, g321, A326, c327, G347, hG348, hl332, hD333, ho331, hReg350, hI349⟩ | ⟨hd1, g321, A326, c327, G347, hG348, hl332, hD333, ho331, hReg350, hI349⟩) hDi hpre hpost
 obtain ⟨r0, rfl⟩ := Has.ex (cC (hReg350.get 2 rfl (hpre 2 rfl)) cN)
 refine q_bs hI349 (vs := [(0, agg [int .i64 ((a3.getD (Int.toNat v32) z_api_Slice).Node), int .i64 ((a3.getD (Int.toNat v32) z_api_Slice).Table), int .i64 ((a3.getD (Int.toNat v32) z_api_Slice).X), int .i64 ((a3.getD (Int.toNat v32) z_api_Slice).Y), int .i64 ((a3.getD (Int.toNat v32) z_api_Slice).H), string ((a3.getD (Int.toNat v32) z_api_Slice).Text), bool ((a3.getD (Int.toNat v32) z_api_Slice).Head), bool ((a3.getD (Int.toNat v32) z_api_Slice).Note)].toArray)]) (cs := [int .i64 ((a3.getD (Int.toNat v32) z_api_Slice).Node), int .i64 ((a3.getD (Int.toNat v32) z_api_Slice).Table), int .i64 ((a3.getD (Int.toNat v32) z_api_Slice).X), int .i64 ((a3.getD (Int.toNat v32) z_api_Slice).Y), int .i64 ((a3.getD (Int.toNat v32) z_api_Slice).H), string ((a3.getD (Int.toNat v32) z_api_Slice).Text), bool ((a3.getD (Int.toNat v32) z_api_Slice).Head), bool ((a3.getD (Int.toNat v32) z_api_Slice).Note)]) el24 ze36 rfl (by decide) rfl (by kernel_rfl) (fun g321 wd322 hI323 => ?_)
 exact nl ⟨z, (.inr (.inl ⟨z, (hpost 4 z), g321, _, hG348, (Regs.step (Regs.more (new := [(3, 53, slice (some ⟨g321, 0, none⟩) 1 1)]) hReg350 (List.forall_mem_cons.2 ⟨hDi, (fun _ h => nomatch h)⟩)) hDi z z z z), hI323⟩))⟩
 cases hDi.symm.trans hd1
 cases (hpost 4 rfl).symm.trans hd1
 cases (hpost 18 rfl).symm.trans hd1
 cases (hpost 20 rfl).symm.trans hd1
 rintro D r wd351 (⟨hd2, G347, hG348, hReg350, hI349⟩ | ⟨hd1, hd2, g321, G347, hG348, hReg350, hI349⟩ | ⟨hd1, hd2, g321, A326, c327, G347, hG348, hl332, hD333, ho331, hReg350, hI349⟩ | ⟨hd1, hd2, g321, A326, c327, G347, hG348, hl332, hD333, ho331, hReg350, hI349⟩ | ⟨hd1, g321, A326, c327, G347, hG348, hl332, hD333, ho331, hReg350, hI349⟩) hDi hpre hpost
 cases (hpre 3 rfl).symm.trans hd2
 obtain ⟨r0, rfl⟩ := Has.ex (cC (hReg350.get 1 rfl (hpre 1 rfl)) (cC (hReg350.get 15 rfl (hpre 3 rfl)) cN))
 refine have hI324:=Hp.emp hI349;?_
 refine q_app (xs := ([] : List api_Slice)) (ys := [(a3.getD (Int.toNat v32) z_api_Slice)]) k_api_Slice hI324 0 el24 ze36 rfl rfl rfl rfl Own.nil (show ([] : List api_Slice).length ≤ 0 from Nat.le_refl 0) (Dat.nil _ _ _) (src_bx hI324 1 so24 rfl rfl) ⟨[int .i64 ((a3.getD (Int.toNat v32) z_api_Slice).Node), int .i64 ((a3.getD (Int.toNat v32) z_api_Slice).Table), int .i64 ((a3.getD (Int.toNat v32) z_api_Slice).X), int .i64 ((a3.getD (Int.toNat v32) z_api_Slice).Y), int .i64 ((a3.getD (Int.toNat v32) z_api_Slice).H), string ((a3.getD (Int.toNat v32) z_api_Slice).Text), bool ((a3.getD (Int.toNat v32) z_api_Slice).Head), bool ((a3.getD (Int.toNat v32) z_api_Slice).Note)], _, rfl, (mk_api_Slice (x := (a3.getD (Int.toNat v32) z_api_Slice))), rfl⟩ rfl (by simp only [List.length_cons, List.length_nil] at *; omega) (by simp only [List.length_cons, List.length_nil] at *; omega) (fun A326 c327 G328 wd329 hG330 ho331 hl332 hD333 hI334 => ?_)
 exact nl ⟨z, (.inr (.inr (.inl ⟨z, (hpost 18 z), g321, A326, c327, _, (gT hG348 hG330), hl332, hD333, ho331, (Regs.step (Regs.more (new := [(4, 54, slice A326 (([] : List api_Slice) ++ [(a3.getD (Int.toNat v32) z_api_Slice)]).length c327), (17, 67, pointer (some ⟨g18, 0, none⟩))]) hReg350 (List.forall_mem_cons.2 ⟨hDi, (List.forall_mem_cons.2 ⟨hpost 17 z, (fun _ h => nomatch h)⟩)⟩)) hDi z z z z), hI334⟩)))⟩
 cases hDi.symm.trans hd1
 cases (hpost 18 rfl).symm.trans hd1
 cases (hpost 20 rfl).symm.trans hd1
 rintro D r wd351 (⟨hd2, G347, hG348, hReg350, hI349⟩ | ⟨hd1, hd2, g321, G347, hG348, hReg350, hI349⟩ | ⟨hd1, hd2, g321, A326, c327, G347, hG348, hl332, hD333, ho331, hReg350, hI349⟩ | ⟨hd1, hd2, g321, A326, c327, G347, hG348, hl332, hD333, ho331, hReg350, hI349⟩ | ⟨hd1, g321, A326, c327, G347, hG348, hl332, hD333, ho331, hReg350, hI349⟩) hDi hpre hpost
 obtain ⟨r0, rfl⟩ := Has.ex (cC (hReg350.ins.get 2 rfl) cN)
 exact fa fl64_2 z<|nl ⟨z, (.inl ⟨hd2, _, hG348, (Regs.step hReg350 hDi z z z z), hI349⟩)⟩
 obtain ⟨r0, rfl⟩ := Has.ex (cC (hReg350.ins.get 2 rfl) cN)
 exact fa fl64_2 z<|nl ⟨z, (.inr (.inl ⟨hd1, hd2, g321, _, hG348, (Regs.step hReg350 hDi z z z z), hI349⟩))⟩
 obtain ⟨r0, rfl⟩ := Has.ex (cC (hReg350.ins.get 2 rfl) cN)
 exact fa fl64_2 z<|nl ⟨z, (.inr (.inr (.inl ⟨hd1, hd2, g321, A326, c327, _, hG348, hl332, hD333, ho331, (Regs.step hReg350 hDi z z z z), hI349⟩)))⟩
 cases (hpost 18 rfl).symm.trans hd1
 cases (hpost 20 rfl).symm.trans hd1
 rintro D r wd351 (⟨hd2, G347, hG348, hReg350, hI349⟩ | ⟨hd1, hd2, g321, G347, hG348, hReg350, hI349⟩ | ⟨hd1, hd2, g321, A326, c327, G347, hG348, hl332, hD333, ho331, hReg350, hI349⟩ | ⟨hd1, hd2, g321, A326, c327, G347, hG348, hl332, hD333, ho331, hReg350, hI349⟩ | ⟨hd1, g321, A326, c327, G347, hG348, hl332, hD333, ho331, hReg350, hI349⟩) hDi hpre hpost
 obtain ⟨r0, rfl⟩ := Has.ex (cC (hReg350.get 3 rfl (hpre 5 rfl)) cN)
 exact ld hI349 1 ag3 z z z<|nl ⟨z, (.inl ⟨hd2, _, hG348, (Regs.step hReg350 hDi z z z z), hI349⟩)⟩
 obtain ⟨r0, rfl⟩ := Has.ex (cC (hReg350.get 3 rfl (hpre 5 rfl)) cN)
 exact ld hI349 2 ag3 z z z<|nl ⟨z, (.inr (.inl ⟨hd1, hd2, g321, _, hG348, (Regs.step hReg350 hDi z z z z), hI349⟩))⟩
 obtain ⟨r0, rfl⟩ := Has.ex (cC (hReg350.get 3 rfl (hpre 5 rfl)) cN)
 exact ld hI349 3 ag3 z z z<|nl ⟨z, (.inr (.inr (.inl ⟨hd1, hd2, g321, A326, c327, _, hG348, hl332, hD333, ho331, (Regs.step hReg350 hDi z z z z), hI349⟩)))⟩
 cases (hpost 18 rfl).symm.trans hd1
 cases (hpost 20 rfl).symm.trans hd1
 rintro D r wd351 (⟨hd2, G347, hG348, hReg350, hI349⟩ | ⟨hd1, hd2, g321, G347, hG348, hReg350, hI349⟩ | ⟨hd1, hd2, g321, A326, c327, G347, hG348, hl332, hD333, ho331, hReg350, hI349⟩ | ⟨hd1, hd2, g321, A326, c327, G347, hG348, hl332, hD333, ho331, hReg350, hI349⟩ | ⟨hd1, g321, A326, c327, G347, hG348, hl332, hD333, ho331, hReg350, hI349⟩) hDi hpre hpost
 obtain ⟨r0, rfl⟩ := Has.ex (cC (hReg350.ins.get 4 rfl) cN)
 exact fa fl36_3 z<|nl ⟨z, (.inl ⟨hd2, _, hG348, (Regs.step hReg350 hDi z z z z), hI349⟩)⟩
 obtain ⟨r0, rfl⟩ := Has.ex (cC (hReg350.ins.get 4 rfl) cN)
 exact fa fl36_3 z<|nl ⟨z, (.inr (.inl ⟨hd1, hd2, g321, _, hG348, (Regs.step hReg350 hDi z z z z), hI349⟩))⟩
 obtain ⟨r0, rfl⟩ := Has.ex (cC (hReg350.ins.get 4 rfl) cN)
 exact fa fl36_3 z<|nl ⟨z, (.inr (.inr (.inl ⟨hd1, hd2, g321, A326, c327, _, hG348, hl332, hD333, ho331, (Regs.step hReg350 hDi z z z z), hI349⟩)))⟩
 obtain ⟨r0, rfl⟩ := Has.ex (cC (hReg350.ins.get 4 rfl) cN)
 exact fa fl36_3 z<|nl ⟨z, (.inr (.inr (.inr (.inl ⟨hd1, hd2, g321, A326, c327, _, hG348, hl332, hD333, ho331, (Regs.step hReg350 hDi z z z z), hI349⟩))))⟩
 cases (hpost 20 rfl).symm.trans hd1
 rintro D r wd351 (⟨hd2, G347, hG348, hReg350, hI349⟩ | ⟨hd1, hd2, g321, G347, hG348, hReg350, hI349⟩ | ⟨hd1, hd2, g321, A326, c327, G347, hG348, hl332, hD333, ho331, hReg350, hI349⟩ | ⟨hd1, hd2, g321, A326, c327, G347, hG348, hl332, hD333, ho331, hReg350, hI349⟩ | ⟨hd1, g321, A326, c327, G347, hG348, hl332, hD333, ho331, hReg350, hI349⟩) hDi hpre hpost
 obtain ⟨r0, rfl⟩ := Has.ex (cC (hReg350.get 5 rfl (hpre 7 rfl)) cN)
 exact ld hI349 0 ag3 z z z<|nl ⟨z, (.inl ⟨hd2, _, hG348, (Regs.step hReg350 hDi z z z z), hI349⟩)⟩
 obtain ⟨r0, rfl⟩ := Has.ex (cC (hReg350.get 5 rfl (hpre 7 rfl)) cN)
 exact ld hI349 1 ag3 z z z<|nl ⟨z, (.inr (.inl ⟨hd1, hd2, g321, _, hG348, (Regs.step hReg350 hDi z z z z), hI349⟩))⟩
 obtain ⟨r0, rfl⟩ := Has.ex (cC (hReg350.get 5 rfl (hpre 7 rfl)) cN)
 exact ld hI349 2 ag3 z z z<|nl ⟨z, (.inr (.inr (.inl ⟨hd1, hd2, g321, A326, c327, _, hG348, hl332, hD333, ho331, (Regs.step hReg350 hDi z z z z), hI349⟩)))⟩
 obtain ⟨r0, rfl⟩ := Has.ex (cC (hReg350.get 5 rfl (hpre 7 rfl)) cN)
 exact ld hI349 2 ag3 z z z<|nl ⟨z, (.inr (.inr (.inr (.inl ⟨hd1, hd2, g321, A326, c327, _, hG348, hl332, hD333, ho331, (Regs.step hReg350 hDi z z z z), hI349⟩))))⟩
 cases (hpost 20 rfl).symm.trans hd1
 rintro D r wd351 (⟨hd2, G347, hG348, hReg350, hI349⟩ | ⟨hd1, hd2, g321, G347, hG348, hReg350, hI349⟩ | ⟨hd1, hd2, g321, A326, c327, G347, hG348, hl332, hD333, ho331, hReg350, hI349⟩ | ⟨hd1, hd2, g321, A326, c327, G347, hG348, hl332, hD333, ho331, hReg350, hI349⟩ | ⟨hd1, g321, A326, c327, G347, hG348, hl332, hD333, ho331, hReg350, hI349⟩) hDi hpre hpost
 obtain ⟨r0, rfl⟩ := Has.ex (cC (hReg350.ins.get 4 rfl) cN)
 exact fa fl36_4 z<|nl ⟨z, (.inl ⟨hd2, _, hG348, (Regs.step hReg350 hDi z z z z), hI349⟩)⟩
 obtain ⟨r0, rfl⟩ := Has.ex (cC (hReg350.ins.get 4 rfl) cN)
 exact fa fl36_4 z<|nl ⟨z, (.inr (.inl ⟨hd1, hd2, g321, _, hG348, (Regs.step hReg350 hDi z z z z), hI349⟩))⟩
 obtain ⟨r0, rfl⟩ := Has.ex (cC (hReg350.ins.get 4 rfl) cN)
 exact fa fl36_4 z<|nl ⟨z, (.inr (.inr (.inl ⟨hd1, hd2, g321, A326, c327, _, hG348, hl332, hD333, ho331, (Regs.step hReg350 hDi z z z z), hI349⟩)))⟩
 obtain ⟨r0, rfl⟩ := Has.ex (cC (hReg350.ins.get 4 rfl) cN)
 exact fa fl36_4 z<|nl ⟨z, (.inr (.inr (.inr (.inl ⟨hd1, hd2, g321, A326, c327, _, hG348, hl332, hD333, ho331, (Regs.step hReg350 hDi z z z z), hI349⟩))))⟩
 cases (hpost 20 rfl).symm.trans hd1
 rintro D r wd351 (⟨hd2, G347, hG348, hReg350, hI349⟩ | ⟨hd1, hd2, g321, G347, hG348, hReg350, hI349⟩ | ⟨hd1, hd2, g321, A326, c327, G347, hG348, hl332, hD333, ho331, hReg350, hI349⟩ | ⟨hd1, hd2, g321, A326, c327, G347, hG348, hl332, hD333, ho331, hReg350, hI349⟩ | ⟨hd1, g321, A326, c327, G347, hG348, hl332, hD333, ho331, hReg350, hI349⟩) hDi hpre hpost
 obtain ⟨r0, rfl⟩ := Has.ex (cC (hReg350.get 7 rfl (hpre 9 rfl)) cN)
 exact ld hI349 0 ag3 z z z<|nl ⟨z, (.inl ⟨hd2, _, hG348, (Regs.step hReg350 hDi z z z z), hI349⟩)⟩
 obtain ⟨r0, rfl⟩ := Has.ex (cC (hReg350.get 7 rfl (hpre 9 rfl)) cN)
 exact ld hI349 1 ag3 z z z<|nl ⟨z, (.inr (.inl ⟨hd1, hd2, g321, _, hG348, (Regs.step hReg350 hDi z z z z), hI349⟩))⟩
 obtain ⟨r0, rfl⟩ := Has.ex (cC (hReg350.get 7 rfl (hpre 9 rfl)) cN)
 exact ld hI349 2 ag3 z z z<|nl ⟨z, (.inr (.inr (.inl ⟨hd1, hd2, g321, A326, c327, _, hG348, hl332, hD333, ho331, (Regs.step hReg350 hDi z z z z), hI349⟩)))⟩
 obtain ⟨r0, rfl⟩ := Has.ex (cC (hReg350.get 7 rfl (hpre 9 rfl)) cN)
 exact ld hI349 2 ag3 z z z<|nl ⟨z, (.inr (.inr (.inr (.inl ⟨hd1, hd2, g321, A326, c327, _, hG348, hl332, hD333, ho331, (Regs.step hReg350 hDi z z z z), hI349⟩))))⟩
 cases (hpost 20 rfl).symm.trans hd1
 rintro D r wd351 (⟨hd2, G347, hG348, hReg350, hI349⟩ | ⟨hd1, hd2, g321, G347, hG348, hReg350, hI349⟩ | ⟨hd1, hd2, g321, A326, c327, G347, hG348, hl332, hD333, ho331, hReg350, hI349⟩ | ⟨hd1, hd2, g321, A326, c327, G347, hG348, hl332, hD333, ho331, hReg350, hI349⟩ | ⟨hd1, g321, A326, c327, G347, hG348, hl332, hD333, ho331, hReg350, hI349⟩) hDi hpre hpost
 obtain ⟨r0, rfl⟩ := Has.ex (cC (hReg350.get 6 rfl (hpre 8 rfl)) (cC (hReg350.get 8 rfl (hpre 10 rfl)) cN))
 exact q_add z z<|nl ⟨z, (.inl ⟨hd2, _, hG348, (Regs.step hReg350 hDi z z z z), hI349⟩)⟩
 obtain ⟨r0, rfl⟩ := Has.ex (cC (hReg350.get 6 rfl (hpre 8 rfl)) (cC (hReg350.get 8 rfl (hpre 10 rfl)) cN))
 exact q_add z z<|nl ⟨z, (.inr (.inl ⟨hd1, hd2, g321, _, hG348, (Regs.step hReg350 hDi z z z z), hI349⟩))⟩
 obtain ⟨r0, rfl⟩ := Has.ex (cC (hReg350.get 6 rfl (hpre 8 rfl)) (cC (hReg350.get 8 rfl (hpre 10 rfl)) cN))
 exact q_add z z<|nl ⟨z, (.inr (.inr (.inl ⟨hd1, hd2, g321, A326, c327, _, hG348, hl332, hD333, ho331, (Regs.step hReg350 hDi z z z z), hI349⟩)))⟩
 obtain ⟨r0, rfl⟩ := Has.ex (cC (hReg350.get 6 rfl (hpre 8 rfl)) (cC (hReg350.get 8 rfl (hpre 10 rfl)) cN))
 exact q_add z z<|nl ⟨z, (.inr (.inr (.inr (.inl ⟨hd1, hd2, g321, A326, c327, _, hG348, hl332, hD333, ho331, (Regs.step hReg350 hDi z z z z), hI349⟩))))⟩
 cases (hpost 20 rfl).symm.trans hd1
 rintro D r wd351 (⟨hd2, G347, hG348, hReg350, hI349⟩ | ⟨hd1, hd2, g321, G347, hG348, hReg350, hI349⟩ | ⟨hd1, hd2, g321, A326, c327, G347, hG348, hl332, hD333, ho331, hReg350, hI349⟩ | ⟨hd1, hd2, g321, A326, c327, G347, hG348, hl332, hD333, ho331, hReg350, hI349⟩ | ⟨hd1, g321, A326, c327, G347, hG348, hl332, hD333, ho331, hReg350, hI349⟩) hDi hpre hpost
 obtain ⟨r0, rfl⟩ := Has.ex (cC (hReg350.get 4 rfl (hpre 6 rfl)) (cC (hReg350.get 9 rfl (hpre 11 rfl)) cN))
 exact q_max z z<|nl ⟨z, (.inl ⟨hd2, _, hG348, (Regs.step hReg350 hDi z z z z), hI349⟩)⟩
 obtain ⟨r0, rfl⟩ := Has.ex (cC (hReg350.get 4 rfl (hpre 6 rfl)) (cC (hReg350.get 9 rfl (hpre 11 rfl)) cN))
 exact q_max z z<|nl ⟨z, (.inr (.inl ⟨hd1, hd2, g321, _, hG348, (Regs.step hReg350 hDi z z z z), hI349⟩))⟩
 obtain ⟨r0, rfl⟩ := Has.ex (cC (hReg350.get 4 rfl (hpre 6 rfl)) (cC (hReg350.get 9 rfl (hpre 11 rfl)) cN))
 exact q_max z z<|nl ⟨z, (.inr (.inr (.inl ⟨hd1, hd2, g321, A326, c327, _, hG348, hl332, hD333, ho331, (Regs.step hReg350 hDi z z z z), hI349⟩)))⟩
 obtain ⟨r0, rfl⟩ := Has.ex (cC (hReg350.get 4 rfl (hpre 6 rfl)) (cC (hReg350.get 9 rfl (hpre 11 rfl)) cN))
 exact q_max z z<|nl ⟨z, (.inr (.inr (.inr (.inl ⟨hd1, hd2, g321, A326, c327, _, hG348, hl332, hD333, ho331, (Regs.step hReg350 hDi z z z z), hI349⟩))))⟩
 cases (hpost 20 rfl).symm.trans hd1
 rintro D r wd351 (⟨hd2, G347, hG348, hReg350, hI349⟩ | ⟨hd1, hd2, g321, G347, hG348, hReg350, hI349⟩ | ⟨hd1, hd2, g321, A326, c327, G347, hG348, hl332, hD333, ho331, hReg350, hI349⟩ | ⟨hd1, hd2, g321, A326, c327, G347, hG348, hl332, hD333, ho331, hReg350, hI349⟩ | ⟨hd1, g321, A326, c327, G347, hG348, hl332, hD333, ho331, hReg350, hI349⟩) hDi hpre hpost
 obtain ⟨r0, rfl⟩ := Has.ex (cC (hReg350.ins.get 1 rfl) cN)
 exact ld hI349 3 ag25 z z z<|nl ⟨z, (.inl ⟨hd2, _, hG348, (Regs.step hReg350 hDi z z z z), hI349⟩)⟩
 obtain ⟨r0, rfl⟩ := Has.ex (cC (hReg350.ins.get 1 rfl) cN)
 exact ld hI349 4 ag25 z z z<|nl ⟨z, (.inr (.inl ⟨hd1, hd2, g321, _, hG348, (Regs.step hReg350 hDi z z z z), hI349⟩))⟩
 obtain ⟨r0, rfl⟩ := Has.ex (cC (hReg350.ins.get 1 rfl) cN)
 exact ld hI349 5 ag25 z z z<|nl ⟨z, (.inr (.inr (.inl ⟨hd1, hd2, g321, A326, c327, _, hG348, hl332, hD333, ho331, (Regs.step hReg350 hDi z z z z), hI349⟩)))⟩
 obtain ⟨r0, rfl⟩ := Has.ex (cC (hReg350.ins.get 1 rfl) cN)
 exact ld hI349 5 ag25 z z z<|nl ⟨z, (.inr (.inr (.inr (.inl ⟨hd1, hd2, g321, A326, c327, _, hG348, hl332, hD333, ho331, (Regs.step hReg350 hDi z z z z), hI349⟩))))⟩
 obtain ⟨r0, rfl⟩ := Has.ex (cC (hReg350.ins.get 1 rfl) cN)
 exact ld hI349 5 ag25 z z z<|nl ⟨z, (.inr (.inr (.inr (.inr ⟨hd1, g321, A326, c327, _, hG348, hl332, hD333, ho331, (Regs.step hReg350 hDi z z z z), hI349⟩))))⟩
 rintro D r wd351 (⟨hd2, G347, hG348, hReg350, hI349⟩ | ⟨hd1, hd2, g321, G347, hG348, hReg350, hI349⟩ | ⟨hd1, hd2, g321, A326, c327, G347, hG348, hl332, hD333, ho331, hReg350, hI349⟩ | ⟨hd1, hd2, g321, A326, c327, G347, hG348, hl332, hD333, ho331, hReg350, hI349⟩ | ⟨hd1, g321, A326, c327, G347, hG348, hl332, hD333, ho331, hReg350, hI349⟩) hDi hpre hpost
 obtain ⟨r0, rfl⟩ := Has.ex (cC (hReg350.ins.get 3 rfl) cN)
 exact mv z<|nl ⟨z, (.inl ⟨hd2, _, hG348, (Regs.step hReg350 hDi z z z z), hI349⟩)⟩
 obtain ⟨r0, rfl⟩ := Has.ex (cC (hReg350.ins.get 3 rfl) cN)
 exact mv z<|nl ⟨z, (.inr (.inl ⟨hd1, hd2, g321, _, hG348, (Regs.step hReg350 hDi z z z z), hI349⟩))⟩
 obtain ⟨r0, rfl⟩ := Has.ex (cC (hReg350.ins.get 3 rfl) cN)
 exact mv z<|nl ⟨z, (.inr (.inr (.inl ⟨hd1, hd2, g321, A326, c327, _, hG348, hl332, hD333, ho331, (Regs.step hReg350 hDi z z z z), hI349⟩)))⟩
 obtain ⟨r0, rfl⟩ := Has.ex (cC (hReg350.ins.get 3 rfl) cN)
 exact mv z<|nl ⟨z, (.inr (.inr (.inr (.inl ⟨hd1, hd2, g321, A326, c327, _, hG348, hl332, hD333, ho331, (Regs.step hReg350 hDi z z z z), hI349⟩))))⟩
 obtain ⟨r0, rfl⟩ := Has.ex (cC (hReg350.ins.get 3 rfl) cN)
 exact mv z<|nl ⟨z, (.inr (.inr (.inr (.inr ⟨hd1, g321, A326, c327, _, hG348, hl332, hD333, ho331, (Regs.step hReg350 hDi z z z z), hI349⟩))))⟩
 rintro D r wd351 (⟨hd2, G347, hG348, hReg350, hI349⟩ | ⟨hd1, hd2, g321, G347, hG348, hReg350, hI349⟩ | ⟨hd1, hd2, g321, A326, c327, G347, hG348, hl332, hD333, ho331, hReg350, hI349⟩ | ⟨hd1, hd2, g321, A326, c327, G347, hG348, hl332, hD333, ho331, hReg350, hI349⟩ | ⟨hd1, g321, A326, c327, G347, hG348, hl332, hD333, ho331, hReg350, hI349⟩) hDi hpre hpost
 obtain ⟨r0, rfl⟩ := Has.ex (cC (hReg350.get 11 rfl (hpre 13 rfl)) (cC (hReg350.get 12 rfl (hpre 14 rfl)) cN))
 exact q_ia el25 z hA339 z h336 h336'<|nl ⟨z, (.inl ⟨hd2, _, hG348, (Regs.step hReg350 hDi z z z z), hI349⟩)⟩
 obtain ⟨r0, rfl⟩ := Has.ex (cC (hReg350.get 11 rfl (hpre 13 rfl)) (cC (hReg350.get 12 rfl (hpre 14 rfl)) cN))
 exact q_ia el25 z hA339 z h336 h336'<|nl ⟨z, (.inr (.inl ⟨hd1, hd2, g321, _, hG348, (Regs.step hReg350 hDi z z z z), hI349⟩))⟩
 obtain ⟨r0, rfl⟩ := Has.ex (cC (hReg350.get 11 rfl (hpre 13 rfl)) (cC (hReg350.get 12 rfl (hpre 14 rfl)) cN))
 exact q_ia el25 z hA339 z h336 h336'<|nl ⟨z, (.inr (.inr (.inl ⟨hd1, hd2, g321, A326, c327, _, hG348, hl332, hD333, ho331, (Regs.step hReg350 hDi z z z z), hI349⟩)))⟩
 obtain ⟨r0, rfl⟩ := Has.ex (cC (hReg350.get 11 rfl (hpre 13 rfl)) (cC (hReg350.get 12 rfl (hpre 14 rfl)) cN))
 exact q_ia el25 z hA339 z h336 h336'<|nl ⟨z, (.inr (.inr (.inr (.inl ⟨hd1, hd2, g321, A326, c327, _, hG348, hl332, hD333, ho331, (Regs.step hReg350 hDi z z z z), hI349⟩))))⟩
 obtain ⟨r0, rfl⟩ := Has.ex (cC (hReg350.get 11 rfl (hpre 13 rfl)) (cC (hReg350.get 12 rfl (hpre 14 rfl)) cN))
 exact q_ia el25 z hA339 z h336 h336'<|nl ⟨z, (.inr (.inr (.inr (.inr ⟨hd1, g321, A326, c327, _, hG348, hl332, hD333, ho331, (Regs.step hReg350 hDi z z z z), hI349⟩))))⟩
 rintro D r wd351 (⟨hd2, G347, hG348, hReg350, hI349⟩ | ⟨hd1, hd2, g321, G347, hG348, hReg350, hI349⟩ | ⟨hd1, hd2, g321, A326, c327, G347, hG348, hl332, hD333, ho331, hReg350, hI349⟩ | ⟨hd1, hd2, g321, A326, c327, G347, hG348, hl332, hD333, ho331, hReg350, hI349⟩ | ⟨hd1, g321, A326, c327, G347, hG348, hl332, hD333, ho331, hReg350, hI349⟩) hDi hpre hpost
 obtain ⟨r0, rfl⟩ := Has.ex (cC (hReg350.get 13 rfl (hpre 15 rfl)) cN)
 exact q_lf hI349 ag4 z (hG348.cel _ _ (hc342 0 _ z))<|nl ⟨z, (.inl ⟨hd2, _, hG348, (Regs.step hReg350 hDi z z z z), hI349⟩)⟩
 obtain ⟨r0, rfl⟩ := Has.ex (cC (hReg350.get 13 rfl (hpre 15 rfl)) cN)
 exact q_lf hI349 ag4 z (hG348.cel _ _ (hc342 0 _ z))<|nl ⟨z, (.inr (.inl ⟨hd1, hd2, g321, _, hG348, (Regs.step hReg350 hDi z z z z), hI349⟩))⟩
 obtain ⟨r0, rfl⟩ := Has.ex (cC (hReg350.get 13 rfl (hpre 15 rfl)) cN)
 exact q_lf hI349 ag4 z (hG348.cel _ _ (hc342 0 _ z))<|nl ⟨z, (.inr (.inr (.inl ⟨hd1, hd2, g321, A326, c327, _, hG348, hl332, hD333, ho331, (Regs.step hReg350 hDi z z z z), hI349⟩)))⟩
 obtain ⟨r0, rfl⟩ := Has.ex (cC (hReg350.get 13 rfl (hpre 15 rfl)) cN)
 exact q_lf hI349 ag4 z (hG348.cel _ _ (hc342 0 _ z))<|nl ⟨z, (.inr (.inr (.inr (.inl ⟨hd1, hd2, g321, A326, c327, _, hG348, hl332, hD333, ho331, (Regs.step hReg350 hDi z z z z), hI349⟩))))⟩
 obtain ⟨r0, rfl⟩ := Has.ex (cC (hReg350.get 13 rfl (hpre 15 rfl)) cN)
 exact q_lf hI349 ag4 z (hG348.cel _ _ (hc342 0 _ z))<|nl ⟨z, (.inr (.inr (.inr (.inr ⟨hd1, g321, A326, c327, _, hG348, hl332, hD333, ho331, (Regs.step hReg350 hDi z z z z), hI349⟩))))⟩
 rintro D r wd351 (⟨hd2, G347, hG348, hReg350, hI349⟩ | ⟨hd1, hd2, g321, G347, hG348, hReg350, hI349⟩ | ⟨hd1, hd2, g321, A326, c327, G347, hG348, hl332, hD333, ho331, hReg350, hI349⟩ | ⟨hd1, hd2, g321, A326, c327, G347, hG348, hl332, hD333, ho331, hReg350, hI349⟩ | ⟨hd1, g321, A326, c327, G347, hG348, hl332, hD333, ho331, hReg350, hI349⟩) hDi hpre hpost
 cases (hpre 3 rfl).symm.trans hd2
 cases (hpre 4 rfl).symm.trans hd2
 obtain ⟨r0, rfl⟩ := Has.ex (cC (hReg350.ins.get 2 rfl) cN)
 exact fa fl64_0 z<|nl ⟨z, (.inr (.inr (.inl ⟨hd1, hd2, g321, A326, c327, _, hG348, hl332, hD333, ho331, (Regs.step hReg350 hDi z z z z), hI349⟩)))⟩
 cases (hpost 18 rfl).symm.trans hd1
 cases (hpost 20 rfl).symm.trans hd1
 rintro D r wd351 (⟨hd2, G347, hG348, hReg350, hI349⟩ | ⟨hd1, hd2, g321, G347, hG348, hReg350, hI349⟩ | ⟨hd1, hd2, g321, A326, c327, G347, hG348, hl332, hD333, ho331, hReg350, hI349⟩ | ⟨hd1, hd2, g321, A326, c327, G347, hG348, hl332, hD333, ho331, hReg350, hI349⟩ | ⟨hd1, g321, A326, c327, G347, hG348, hl332, hD333, ho331, hReg350, hI349⟩) hDi hpre hpost
 cases (hpre 3 rfl).symm.trans hd2
 cases (hpre 4 rfl).symm.trans hd2
 obtain ⟨r0, rfl⟩ := Has.ex (cC (hReg350.get 16 rfl (hpre 4 rfl)) (cC (hReg350.get 17 rfl (hpre 17 rfl)) cN))
 exact stk hI349 3 ag24 z z z z z z z fun wd343 hI344=>nl ⟨z, (.inr (.inr (.inr (.inl ⟨z, (hpost 20 z), g321, A326, c327, _, hG348, hl332, hD333, ho331, (Regs.stepN (Regs.more (new := [(19, 68, pointer (some ⟨g18, 2, none⟩))]) hReg350 (List.forall_mem_cons.2 ⟨hpost 19 z, (fun _ h => nomatch h)⟩)) z z), hI344⟩))))⟩
 cases hDi.symm.trans hd1
 cases (hpost 20 rfl).symm.trans hd1
 rintro D r wd351 (⟨hd2, G347, hG348, hReg350, hI349⟩ | ⟨hd1, hd2, g321, G347, hG348, hReg350, hI349⟩ | ⟨hd1, hd2, g321, A326, c327, G347, hG348, hl332, hD333, ho331, hReg350, hI349⟩ | ⟨hd1, hd2, g321, A326, c327, G347, hG348, hl332, hD333, ho331, hReg350, hI349⟩ | ⟨hd1, g321, A326, c327, G347, hG348, hl332, hD333, ho331, hReg350, hI349⟩) hDi hpre hpost
 cases (hpre 3 rfl).symm.trans hd2
 cases (hpre 4 rfl).symm.trans hd2
 cases (hpre 18 rfl).symm.trans hd2
 obtain ⟨r0, rfl⟩ := Has.ex (cC (hReg350.ins.get 2 rfl) cN)
 exact fa fl64_2 z<|nl ⟨z, (.inr (.inr (.inr (.inl ⟨hd1, hd2, g321, A326, c327, _, hG348, hl332, hD333, ho331, (Regs.step hReg350 hDi z z z z), hI349⟩))))⟩
 cases (hpost 20 rfl).symm.trans hd1
 rintro D r wd351 (⟨hd2, G347, hG348, hReg350, hI349⟩ | ⟨hd1, hd2, g321, G347, hG348, hReg350, hI349⟩ | ⟨hd1, hd2, g321, A326, c327, G347, hG348, hl332, hD333, ho331, hReg350, hI349⟩ | ⟨hd1, hd2, g321, A326, c327, G347, hG348, hl332, hD333, ho331, hReg350, hI349⟩ | ⟨hd1, g321, A326, c327, G347, hG348, hl332, hD333, ho331, hReg350, hI349⟩) hDi hpre hpost
 cases (hpre 3 rfl).symm.trans hd2
 cases (hpre 4 rfl).symm.trans hd2
 cases (hpre 18 rfl).symm.trans hd2
 obtain ⟨r0, rfl⟩ := Has.ex (cC (hReg350.get 10 rfl (hpre 12 rfl)) (cC (hReg350.get 18 rfl (hpre 19 rfl)) cN))
 exact stk hI349 3 ag3 z z z z z z z fun wd345 hI346=>nl ⟨z, (.inr (.inr (.inr (.inr ⟨z, g321, A326, c327, _, hG348, hl332, hD333, ho331, (Regs.stepN (Regs.more (new := [(21, 5, bool (a10.getD (Int.toNat v32) false))]) hReg350 (List.forall_mem_cons.2 ⟨hpost 21 z, (fun _ h => nomatch h)⟩)) z z), hI346⟩))))⟩
 cases hDi.symm.trans hd1
 rintro D r wd351 (⟨hd2, G347, hG348, hReg350, hI349⟩ | ⟨hd1, hd2, g321, G347, hG348, hReg350, hI349⟩ | ⟨hd1, hd2, g321, A326, c327, G347, hG348, hl332, hD333, ho331, hReg350, hI349⟩ | ⟨hd1, hd2, g321, A326, c327, G347, hG348, hl332, hD333, ho331, hReg350, hI349⟩ | ⟨hd1, g321, A326, c327, G347, hG348, hl332, hD333, ho331, hReg350, hI349⟩) hDi hpre hpost
 cases (hpre 3 rfl).symm.trans hd2
 cases (hpre 4 rfl).symm.trans hd2
 cases (hpre 18 rfl).symm.trans hd2
 cases (hpre 20 rfl).symm.trans hd2
 obtain ⟨r0, rfl⟩ := Has.ex (cC (hReg350.get 14 rfl (hpre 16 rfl)) cN)
 exact asn z<|nl ⟨z, (.inr (.inr (.inr (.inr ⟨hd1, g321, A326, c327, _, hG348, hl332, hD333, ho331, (Regs.step hReg350 hDi z z z z), hI349⟩))))⟩
 intro D r wd351 hall hR
 rcases hR with ⟨hd2, G347, hG348, hReg350, hI349⟩ | ⟨hd1, hd2, g321, G347, hG348, hReg350, hI349⟩ | ⟨hd1, hd2, g321, A326, c327, G347, hG348, hl332, hD333, ho331, hReg350, hI349⟩ | ⟨hd1, hd2, g321, A326, c327, G347, hG348, hl332, hD333, ho331, hReg350, hI349⟩ | ⟨hd1, g321, A326, c327, G347, hG348, hl332, hD333, ho331, hReg350, hI349⟩
 cases (hall 3 (Nat.le_of_ble_eq_true rfl)).symm.trans hd2
 cases (hall 4 (Nat.le_of_ble_eq_true rfl)).symm.trans hd2
 cases (hall 18 (Nat.le_of_ble_eq_true rfl)).symm.trans hd2
 cases (hall 20 (Nat.le_of_ble_eq_true rfl)).symm.trans hd2
 obtain ⟨r0, rfl⟩ := Has.ex (cC (hReg350.ins.get 0 rfl) (cC (hReg350.ins.get 1 rfl) (cC (hReg350.ins.get 2 rfl) (cC (hReg350.get 19 rfl (hall 21 (Nat.le_of_ble_eq_true rfl))) (cC (hReg350.ins.get 5 rfl) (cC (hReg350.ins.get 6 rfl) (cC (hReg350.ins.get 7 rfl) cN)))))))
 refine have hI352:=Hp.emp hI349;have hI358:=Hp.pick 9 [4, 5, 6, 1, 0] hI352 z;?_
 cases H
 exact ⟨z, T235, A326, c327, none, 0, _, z, (gT hG236 hG348), ⟨z, z, z, z, z, z, z, tv⟩, hI358, hl332, hD333, ho331, (show ([] : List api_Slice).length ≤ 0 from Nat.le_refl 0), (Dat.nil _ _ _), Own.nil, (hy.mono hG348 hS237), tv⟩
 refine nK h225 H fun H=>wf (vN h225)<|ws<|hK208 _ _ _<|sQ fun K359 hK360=>sr fun K361 hK362=>fa fl64_0 z<|ld hI222 1 ag24 z z z<|q_len so24 z<|q_eql z z<|nl<|hK362 _ _ _<|dC ((v33.length : Int) = 0) (fun h363=>?_) fun h363=>?_
 refine yK h363 H fun H=>wt (bY h363)<|wpc_region<|fa fl36_3 z<|ld hI222 0 ag3 z z z<|fa fl64_2 z<|stk hI222 1 ag3 z z z z z z z fun wd364 hI365=>nl<|hK360 _ _ _<|iK H fun h392 H=>iK H fun⟨h393, h393'⟩H=>?_
 obtain ⟨ad394, cs395, hA396, hK397, hn398, hc399⟩ := Dat.get (Dat.mono hG122 hD14) false (v32) h393 h393'
 obtain rfl := hK397
 refine wpc_drawL [0, 1, 0, 4, 15, 0, 32, 0, 128, 0, 512, 1920, 4064, 0, 0, 24576, 57344, 127, 131199, 401407, 925695, 2097151] (fun D r w => (D 3 = false ∧ ∃ (G' : Gh), G121 ≤ G' ∧ Regs [(0, func (.yield yl) #[] #[]), (2, pointer (some ⟨g9, 0, none⟩)), (4, pointer (some ⟨g18, 0, none⟩)), (6, int .i64 v32), (7, pointer (some ⟨g173, 0, none⟩)), (8, slice A4 a3.length c5), (9, int .i64 (a3.length : Int)), (10, int .i64 v32)] [] [(0, 50, pointer (some ⟨g18, 0, none⟩)), (1, 51, slice A34 v33.length c35), (2, 52, agg [int .i64 ((a3.getD (Int.toNat v32) z_api_Slice).Node), int .i64 ((a3.getD (Int.toNat v32) z_api_Slice).Table), int .i64 ((a3.getD (Int.toNat v32) z_api_Slice).X), int .i64 ((a3.getD (Int.toNat v32) z_api_Slice).Y), int .i64 ((a3.getD (Int.toNat v32) z_api_Slice).H), string ((a3.getD (Int.toNat v32) z_api_Slice).Text), bool ((a3.getD (Int.toNat v32) z_api_Slice).Head), bool ((a3.getD (Int.toNat v32) z_api_Slice).Note)].toArray), (5, 55, pointer (some ⟨g18, 2, none⟩)), (6, 56, int .i64 ((a3.getD (Int.toNat v32) z_api_Slice).Y)), (7, 57, pointer (some ⟨g173, 3, none⟩)), (8, 58, int .i64 ((a3.getD (Int.toNat v32) z_api_Slice).Y)), (9, 59, pointer (some ⟨g173, 4, none⟩)), (10, 60, int .i64 ((a3.getD (Int.toNat v32) z_api_Slice).H)), (11, 61, int .i64 (w64 (((a3.getD (Int.toNat v32) z_api_Slice).Y) + ((a3.getD (Int.toNat v32) z_api_Slice).H)))), (12, 62, int .i64 (max ((a3.getD (Int.toNat v32) z_api_Slice).Y) (w64 (((a3.getD (Int.toNat v32) z_api_Slice).Y) + ((a3.getD (Int.toNat v32) z_api_Slice).H))))), (13, 63, slice A11 a10.length c12), (14, 64, int .i64 v32), (15, 65, pointer (some (ad394.add (Int.toNat v32 * 1)))), (16, 66, bool (a10.getD (Int.toNat v32) false))] D r ∧ Hp G' (bx g173 [int .i64 ((a3.getD (Int.toNat v32) z_api_Slice).Node), int .i64 ((a3.getD (Int.toNat v32) z_api_Slice).Table), int .i64 ((a3.getD (Int.toNat v32) z_api_Slice).X), int .i64 ((a3.getD (Int.toNat v32) z_api_Slice).Y), int .i64 ((a3.getD (Int.toNat v32) z_api_Slice).H), string ((a3.getD (Int.toNat v32) z_api_Slice).Text), bool ((a3.getD (Int.toNat v32) z_api_Slice).Head), bool ((a3.getD (Int.toNat v32) z_api_Slice).Note)] 36 :: bx g18 [slice A34 v33.length c35, slice A41 v40.length c42, int .i64 ((a3.getD (Int.toNat v32) z_api_Slice).Y)] 64 :: bx g2 [slice A4 a3.length c5] 24 :: bx g9 [slice A11 a10.length c12] 25 :: tk (slice A34 v33.length c35) 8 36 :: tk (slice A41 v40.length c42) 8 36 :: T48) w) ∨ (D 3 = true ∧ D 4 = false ∧ ∃ (g380 : Nat) (G' : Gh), G121 ≤ G' ∧ Regs [(0, func (.yield yl) #[] #[]), (2, pointer (some ⟨g9, 0, none⟩)), (4, pointer (some ⟨g18, 0, none⟩)), (6, int .i64 v32), (7, pointer (some ⟨g173, 0, none⟩)), (8, slice A4 a3.length c5), (9, int .i64 (a3.length : Int)), (10, int .i64 v32)] [] [(0, 50, pointer (some ⟨g18, 0, none⟩)), (1, 51, slice A34 v33.length c35), (2, 52, agg [int .i64 ((a3.getD (Int.toNat v32) z_api_Slice).Node), int .i64 ((a3.getD (Int.toNat v32) z_api_Slice).Table), int .i64 ((a3.getD (Int.toNat v32) z_api_Slice).X), int .i64 ((a3.getD (Int.toNat v32) z_api_Slice).Y), int .i64 ((a3.getD (Int.toNat v32) z_api_Slice).H), string ((a3.getD (Int.toNat v32) z_api_Slice).Text), bool ((a3.getD (Int.toNat v32) z_api_Slice).Head), bool ((a3.getD (Int.toNat v32) z_api_Slice).Note)].toArray), (5, 55, pointer (some ⟨g18, 2, none⟩)), (6, 56, int .i64 ((a3.getD (Int.toNat v32) z_api_Slice).Y)), (7, 57, pointer (some ⟨g173, 3, none⟩)), (8, 58, int .i64 ((a3.getD (Int.toNat v32) z_api_Slice).Y)), (9, 59, pointer (some ⟨g173, 4, none⟩)), (10, 60, int .i64 ((a3.getD (Int.toNat v32) z_api_Slice).H)), (11, 61, int .i64 (w64 (((a3.getD (Int.toNat v32) z_api_Slice).Y) + ((a3.getD (Int.toNat v32) z_api_Slice).H)))), (12, 62, int .i64 (max ((a3.getD (Int.toNat v32) z_api_Slice).Y) (w64 (((a3.getD (Int.toNat v32) z_api_Slice).Y) + ((a3.getD (Int.toNat v32) z_api_Slice).H))))), (13, 63, slice A11 a10.length c12), (14, 64, int .i64 v32), (15, 65, pointer (some (ad394.add (Int.toNat v32 * 1)))), (16, 66, bool (a10.getD (Int.toNat v32) false)), (3, 53, slice (some ⟨g380, 0, none⟩) 1 1)] D r ∧ Hp G' (bx g380 [int .i64 ((a3.getD (Int.toNat v32) z_api_Slice).Node), int .i64 ((a3.getD (Int.toNat v32) z_api_Slice).Table), int .i64 ((a3.getD (Int.toNat v32) z_api_Slice).X), int .i64 ((a3.getD (Int.toNat v32) z_api_Slice).Y), int .i64 ((a3.getD (Int.toNat v32) z_api_Slice).H), string ((a3.getD (Int.toNat v32) z_api_Slice).Text), bool ((a3.getD (Int.toNat v32) z_api_Slice).Head), bool ((a3.getD (Int.toNat v32) z_api_Slice).Note)] 36 :: bx g173 [int .i64 ((a3.getD (Int.toNat v32) z_api_Slice).Node), int .i64 ((a3.getD (Int.toNat v32) z_api_Slice).Table), int .i64 ((a3.getD (Int.toNat v32) z_api_Slice).X), int .i64 ((a3.getD (Int.toNat v32) z_api_Slice).Y), int .i64 ((a3.getD (Int.toNat v32) z_api_Slice).H), string ((a3.getD (Int.toNat v32) z_api_Slice).Text), bool ((a3.getD (Int.toNat v32) z_api_Slice).Head), bool ((a3.getD (Int.toNat v32) z_api_Slice).Note)] 36 :: bx g18 [slice A34 v33.length c35, slice A41 v40.length c42, int .i64 ((a3.getD (Int.toNat v32) z_api_Slice).Y)] 64 :: bx g2 [slice A4 a3.length c5] 24 :: bx g9 [slice A11 a10.length c12] 25 :: tk (slice A34 v33.length c35) 8 36 :: tk (slice A41 v40.length c42) 8 36 :: T48) w) ∨ (D 4 = true ∧ D 18 = false ∧ ∃ (g380 : Nat) (A383 : Option Addr) (c384 : Nat) (G' : Gh), G121 ≤ G' ∧ (v33 ++ [(a3.getD (Int.toNat v32) z_api_Slice)]).length ≤ c384 ∧ Dat k_api_Slice G' A383 (v33 ++ [(a3.getD (Int.toNat v32) z_api_Slice)]) ∧ Own A383 c384 ∧ Regs [(0, func (.yield yl) #[] #[]), (2, pointer (some ⟨g9, 0, none⟩)), (4, pointer (some ⟨g18, 0, none⟩)), (6, int .i64 v32), (7, pointer (some ⟨g173, 0, none⟩)), (8, slice A4 a3.length c5), (9, int .i64 (a3.length : Int)), (10, int .i64 v32)] [] [(0, 50, pointer (some ⟨g18, 0, none⟩)), (1, 51, slice A34 v33.length c35), (2, 52, agg [int .i64 ((a3.getD (Int.toNat v32) z_api_Slice).Node), int .i64 ((a3.getD (Int.toNat v32) z_api_Slice).Table), int .i64 ((a3.getD (Int.toNat v32) z_api_Slice).X), int .i64 ((a3.getD (Int.toNat v32) z_api_Slice).Y), int .i64 ((a3.getD (Int.toNat v32) z_api_Slice).H), string ((a3.getD (Int.toNat v32) z_api_Slice).Text), bool ((a3.getD (Int.toNat v32) z_api_Slice).Head), bool ((a3.getD (Int.toNat v32) z_api_Slice).Note)].toArray), (5, 55, pointer (some ⟨g18, 2, none⟩)), (6, 56, int .i64 ((a3.getD (Int.toNat v32) z_api_Slice).Y)), (7, 57, pointer (some ⟨g173, 3, none⟩)), (8, 58, int .i64 ((a3.getD (Int.toNat v32) z_api_Slice).Y)), (9, 59, pointer (some ⟨g173, 4, none⟩)), (10, 60, int .i64 ((a3.getD (Int.toNat v32) z_api_Slice).H)), (11, 61, int .i64 (w64 (((a3.getD (Int.toNat v32) z_api_Slice).Y) + ((a3.getD (Int.toNat v32) z_api_Slice).H)))), (12, 62, int .i64 (max ((a3.getD (Int.toNat v32) z_api_Slice).Y) (w64 (((a3.getD (Int.toNat v32) z_api_Slice).Y) + ((a3.getD (Int.toNat v32) z_api_Slice).H))))), (13, 63, slice A11 a10.length c12), (14, 64, int .i64 v32), (15, 65, pointer (some (ad394.add (Int.toNat v32 * 1)))), (16, 66, bool (a10.getD (Int.toNat v32) false)), (3, 53, slice (some ⟨g380, 0, none⟩) 1 1), (4, 54, slice A383 (v33 ++ [(a3.getD (Int.toNat v32) z_api_Slice)]).length c384), (17, 67, pointer (some ⟨g18, 0, none⟩))] D r ∧ Hp G' (bx g380 [int .i64 ((a3.getD (Int.toNat v32) z_api_Slice).Node), int .i64 ((a3.getD (Int.toNat v32) z_api_Slice).Table), int .i64 ((a3.getD (Int.toNat v32) z_api_Slice).X), int .i64 ((a3.getD (Int.toNat v32) z_api_Slice).Y), int .i64 ((a3.getD (Int.toNat v32) z_api_Slice).H), string ((a3.getD (Int.toNat v32) z_api_Slice).Text), bool ((a3.getD (Int.toNat v32) z_api_Slice).Head), bool ((a3.getD (Int.toNat v32) z_api_Slice).Note)] 36 :: bx g173 [int .i64 ((a3.getD (Int.toNat v32) z_api_Slice).Node), int .i64 ((a3.getD (Int.toNat v32) z_api_Slice).Table), int .i64 ((a3.getD (Int.toNat v32) z_api_Slice).X), int .i64 ((a3.getD (Int.toNat v32) z_api_Slice).Y), int .i64 ((a3.getD (Int.toNat v32) z_api_Slice).H), string ((a3.getD (Int.toNat v32) z_api_Slice).Text), bool ((a3.getD (Int.toNat v32) z_api_Slice).Head), bool ((a3.getD (Int.toNat v32) z_api_Slice).Note)] 36 :: bx g18 [slice A34 v33.length c35, slice A41 v40.length c42, int .i64 ((a3.getD (Int.toNat v32) z_api_Slice).Y)] 64 :: bx g2 [slice A4 a3.length c5] 24 :: bx g9 [slice A11 a10.length c12] 25 :: tk (slice A383 (v33 ++ [(a3.getD (Int.toNat v32) z_api_Slice)]).length c384) 8 36 :: tk (slice A41 v40.length c42) 8 36 :: T48) w) ∨ (D 18 = true ∧ D 20 = false ∧ ∃ (g380 : Nat) (A383 : Option Addr) (c384 : Nat) (G' : Gh), G121 ≤ G' ∧ (v33 ++ [(a3.getD (Int.toNat v32) z_api_Slice)]).length ≤ c384 ∧ Dat k_api_Slice G' A383 (v33 ++ [(a3.getD (Int.toNat v32) z_api_Slice)]) ∧ Own A383 c384 ∧ Regs [(0, func (.yield yl) #[] #[]), (2, pointer (some ⟨g9, 0, none⟩)), (4, pointer (some ⟨g18, 0, none⟩)), (6, int .i64 v32), (7, pointer (some ⟨g173, 0, none⟩)), (8, slice A4 a3.length c5), (9, int .i64 (a3.length : Int)), (10, int .i64 v32)] [] [(0, 50, pointer (some ⟨g18, 0, none⟩)), (1, 51, slice A34 v33.length c35), (2, 52, agg [int .i64 ((a3.getD (Int.toNat v32) z_api_Slice).Node), int .i64 ((a3.getD (Int.toNat v32) z_api_Slice).Table), int .i64 ((a3.getD (Int.toNat v32) z_api_Slice).X), int .i64 ((a3.getD (Int.toNat v32) z_api_Slice).Y), int .i64 ((a3.getD (Int.toNat v32) z_api_Slice).H), string ((a3.getD (Int.toNat v32) z_api_Slice).Text), bool ((a3.getD (Int.toNat v32) z_api_Slice).Head), bool ((a3.getD (Int.toNat v32) z_api_Slice).Note)].toArray), (5, 55, pointer (some ⟨g18, 2, none⟩)), (6, 56, int .i64 ((a3.getD (Int.toNat v32) z_api_Slice).Y)), (7, 57, pointer (some ⟨g173, 3, none⟩)), (8, 58, int .i64 ((a3.getD (Int.toNat v32) z_api_Slice).Y)), (9, 59, pointer (some ⟨g173, 4, none⟩)), (10, 60, int .i64 ((a3.getD (Int.toNat v32) z_api_Slice).H)), (11, 61, int .i64 (w64 (((a3.getD (Int.toNat v32) z_api_Slice).Y) + ((a3.getD (Int.toNat v32) z_api_Slice).H)))), (12, 62, int .i64 (max ((a3.getD (Int.toNat v32) z_api_Slice).Y) (w64 (((a3.getD (Int.toNat v32) z_api_Slice).Y) + ((a3.getD (Int.toNat v32) z_api_Slice).H))))), (13, 63, slice A11 a10.length c12), (14, 64, int .i64 v32), (15, 65, pointer (some (ad394.add (Int.toNat v32 * 1)))), (16, 66, bool (a10.getD (Int.toNat v32) false)), (3, 53, slice (some ⟨g380, 0, none⟩) 1 1), (4, 54, slice A383 (v33 ++ [(a3.getD (Int.toNat v32) z_api_Slice)]).length c384), (17, 67, pointer (some ⟨g18, 0, none⟩)), (19, 68, pointer (some ⟨g18, 2, none⟩))] D r ∧ Hp G' (bx g380 [int .i64 ((a3.getD (Int.toNat v32) z_api_Slice).Node), int .i64 ((a3.getD (Int.toNat v32) z_api_Slice).Table), int .i64 ((a3.getD (Int.toNat v32) z_api_Slice).X), int .i64 ((a3.getD (Int.toNat v32) z_api_Slice).Y), int .i64 ((a3.getD (Int.toNat v32) z_api_Slice).H), string ((a3.getD (Int.toNat v32) z_api_Slice).Text), bool ((a3.getD (Int.toNat v32) z_api_Slice).Head), bool ((a3.getD (Int.toNat v32) z_api_Slice).Note)] 36 :: bx g173 [int .i64 ((a3.getD (Int.toNat v32) z_api_Slice).Node), int .i64 ((a3.getD (Int.toNat v32) z_api_Slice).Table), int .i64 ((a3.getD (Int.toNat v32) z_api_Slice).X), int .i64 ((a3.getD (Int.toNat v32) z_api_Slice).Y), int .i64 ((a3.getD (Int.toNat v32) z_api_Slice).H), string ((a3.getD (Int.toNat v32) z_api_Slice).Text), bool ((a3.getD (Int.toNat v32) z_api_Slice).Head), bool ((a3.getD (Int.toNat v32) z_api_Slice).Note)] 36 :: bx g18 [slice A383 (v33 ++ [(a3.getD (Int.toNat v32) z_api_Slice)]).length c384, slice A41 v40.length c42, int .i64 ((a3.getD (Int.toNat v32) z_api_Slice).Y)] 64 :: bx g2 [slice A4 a3.length c5] 24 :: bx g9 [slice A11 a10.length c12] 25 :: tk (slice A383 (v33 ++ [(a3.getD (Int.toNat v32) z_api_Slice)]).length c384) 8 36 :: tk (slice A41 v40.length c42) 8 36 :: T48) w) ∨ (D 20 = true ∧ ∃ (g380 : Nat) (A383 : Option Addr) (c384 : Nat) (G' : Gh), G121 ≤ G' ∧ (v33 ++ [(a3.getD (Int.toNat v32) z_api_Slice)]).length ≤ c384 ∧ Dat k_api_Slice G' A383 (v33 ++ [(a3.getD (Int.toNat v32) z_api_Slice)]) ∧ Own A383 c384 ∧ Regs [(0, func (.yield yl) #[] #[]), (2, pointer (some ⟨g9, 0, none⟩)), (4, pointer (some ⟨g18, 0, none⟩)), (6, int .i64 v32), (7, pointer (some ⟨g173, 0, none⟩)), (8, slice A4 a3.length c5), (9, int .i64 (a3.length : Int)), (10, int .i64 v32)] [] [(0, 50, pointer (some ⟨g18, 0, none⟩)), (1, 51, slice A34 v33.length c35), (2, 52, agg [int .i64 ((a3.getD (Int.toNat v32) z_api_Slice).Node), int .i64 ((a3.getD (Int.toNat v32) z_api_Slice).Table), int .i64 ((a3.getD (Int.toNat v32) z_api_Slice).X), int .i64 ((a3.getD (Int.toNat v32) z_api_Slice).Y), int .i64 ((a3.getD (Int.toNat v32) z_api_Slice).H), string ((a3.getD (Int.toNat v32) z_api_Slice).Text), bool ((a3.getD (Int.toNat v32) z_api_Slice).Head), bool ((a3.getD (Int.toNat v32) z_api_Slice).Note)].toArray), (5, 55, pointer (some ⟨g18, 2, none⟩)), (6, 56, int .i64 ((a3.getD (Int.toNat v32) z_api_Slice).Y)), (7, 57, pointer (some ⟨g173, 3, none⟩)), (8, 58, int .i64 ((a3.getD (Int.toNat v32) z_api_Slice).Y)), (9, 59, pointer (some ⟨g173, 4, none⟩)), (10, 60, int .i64 ((a3.getD (Int.toNat v32) z_api_Slice).H)), (11, 61, int .i64 (w64 (((a3.getD (Int.toNat v32) z_api_Slice).Y) + ((a3.getD (Int.toNat v32) z_api_Slice).H)))), (12, 62, int .i64 (max ((a3.getD (Int.toNat v32) z_api_Slice).Y) (w64 (((a3.getD (Int.toNat v32) z_api_Slice).Y) + ((a3.getD (Int.toNat v32) z_api_Slice).H))))), (13, 63, slice A11 a10.length c12), (14, 64, int .i64 v32), (15, 65, pointer (some (ad394.add (Int.toNat v32 * 1)))), (16, 66, bool (a10.getD (Int.toNat v32) false)), (3, 53, slice (some ⟨g380, 0, none⟩) 1 1), (4, 54, slice A383 (v33 ++ [(a3.getD (Int.toNat v32) z_api_Slice)]).length c384), (17, 67, pointer (some ⟨g18, 0, none⟩)), (19, 68, pointer (some ⟨g18, 2, none⟩)), (21, 5, bool (a10.getD (Int.toNat v32) false))] D r ∧ Hp G' (bx g380 [int .i64 ((a3.getD (Int.toNat v32) z_api_Slice).Node), int .i64 ((a3.getD (Int.toNat v32) z_api_Slice).Table), int .i64 ((a3.getD (Int.toNat v32) z_api_Slice).X), int .i64 ((a3.getD (Int.toNat v32) z_api_Slice).Y), int .i64 ((a3.getD (Int.toNat v32) z_api_Slice).H), string ((a3.getD (Int.toNat v32) z_api_Slice).Text), bool ((a3.getD (Int.toNat v32) z_api_Slice).Head), bool ((a3.getD (Int.toNat v32) z_api_Slice).Note)] 36 :: bx g173 [int .i64 ((a3.getD (Int.toNat v32) z_api_Slice).Node), int .i64 ((a3.getD (Int.toNat v32) z_api_Slice).Table), int .i64 ((a3.getD (Int.toNat v32) z_api_Slice).X), int .i64 ((a3.getD (Int.toNat v32) z_api_Slice).Y), int .i64 ((a3.getD (Int.toNat v32) z_api_Slice).H), string ((a3.getD (Int.toNat v32) z_api_Slice).Text), bool ((a3.getD (Int.toNat v32) z_api_Slice).Head), bool ((a3.getD (Int.toNat v32) z_api_Slice).Note)] 36 :: bx g18 [slice A383 (v33 ++ [(a3.getD (Int.toNat v32) z_api_Slice)]).length c384, slice A41 v40.length c42, int .i64 (max ((a3.getD (Int.toNat v32) z_api_Slice).Y) (w64 (((a3.getD (Int.toNat v32) z_api_Slice).Y) + ((a3.getD (Int.toNat v32) z_api_Slice).H))))] 64 :: bx g2 [slice A4 a3.length c5] 24 :: bx g9 [slice A11 a10.length c12] 25 :: tk (slice A383 (v33 ++ [(a3.getD (Int.toNat v32) z_api_Slice)]).length c384) 8 36 :: tk (slice A41 v40.length c42) 8 36 :: T48) w)) mixo z z ?_ ?_ ?_
 exact (.inl ⟨z, _, Gh.le_refl _, Regs.start ⟨z, z, z, z, z, z, z, z, tv⟩ trivial, hI365.drew⟩)
 refine ⟨?_, ?_, ?_, ?_, ?_, ?_, ?_, ?_, ?_, ?_, ?_, ?_, ?_, ?_, ?_, ?_, ?_, ?_, ?_, ?_, ?_, ?_, tv⟩
 rintro D r wd408 (⟨hd2, G404, hG405, hReg407, hI406⟩ | ⟨hd1, hd2, g380, G404, hG405, hReg407, hI406⟩ | ⟨hd1, hd2, g380, A383, c384, G404, hG405, hl389, hD390, ho388, hReg407, hI406⟩ | ⟨hd1, hd2, g380, A383, c384, G404, hG405, hl389, hD390, ho388, hReg407, hI406⟩ | ⟨hd1, g380, A383, c384, G404, hG405, hl389, hD390, ho388, hReg407, hI406⟩) hDi hpre hpost
 obtain ⟨r0, rfl⟩ := Has.ex (cC (hReg407.ins.get 2 rfl) cN)
 exact fa fl64_0 z<|nl ⟨z, (.inl ⟨hd2, _, hG405, (Regs.step hReg407 hDi z z z z), hI406⟩)⟩
 obtain ⟨r0, rfl⟩ := Has.ex (cC (hReg407.ins.get 2 rfl) cN)
 exact fa fl64_0 z<|nl ⟨z, (.inr (.inl ⟨hd1, hd2, g380, _, hG405, (Regs.step hReg407 hDi z z z z), hI406⟩))⟩
 cases (hpost 4 rfl).symm.trans hd1
 cases (hpost 18 rfl).symm.trans hd1
 cases (hpost 20 rfl).symm.trans hd1
 rintro D r wd408 (⟨hd2, G404, hG405, hReg407, hI406⟩ | ⟨hd1, hd2, g380, G404, hG405, hReg407, hI406⟩ | ⟨hd1, hd2, g380, A383, c384, G404, hG405, hl389, hD390, ho388, hReg407, hI406⟩ | ⟨hd1, hd2, g380, A383, c384, G404, hG405, hl389, hD390, ho388, hReg407, hI406⟩ | ⟨hd1, g380, A383, c384, G404, hG405, hl389, hD390, ho388, hReg407, hI406⟩) hDi hpre hpost
 obtain ⟨r0, rfl⟩ := Has.ex (cC (hReg407.get 0 rfl (hpre 0 rfl)) cN)
 exact ld hI406 1 ag24 z z z<|nl ⟨z, (.inl ⟨hd2, _, hG405, (Regs.step hReg407 hDi z z z z), hI406⟩)⟩
 obtain ⟨r0, rfl⟩ := Has.ex (cC (hReg407.get 0 rfl (hpre 0 rfl)) cN)
 exact ld hI406 2 ag24 z z z<|nl ⟨z, (.inr (.inl ⟨hd1, hd2, g380, _, hG405, (Regs.step hReg407 hDi z z z z), hI406⟩))⟩
 cases (hpost 4 rfl).symm.trans hd1
 cases (hpost 18 rfl).symm.trans hd1
 cases (hpost 20 rfl).symm.trans hd1
 rintro D r wd408 (⟨hd2, G404, hG405, hReg407, hI406⟩ | ⟨hd1, hd2, g380, G404, hG405, hReg407, hI406⟩ | ⟨hd1, hd2, g380, A383, c384, G404, hG405, hl389, hD390, ho388, hReg407, hI406⟩ | ⟨hd1, hd2, g380, A383, c384, G404, hG405, hl389, hD390, ho388, hReg407, hI406⟩ | ⟨hd1, g380, A383, c384, G404, hG405, hl389, hD390, ho388, hReg407, hI406⟩) hDi hpre hpost
 obtain ⟨r0, rfl⟩ := Has.ex (cC (hReg407.ins.get 4 rfl) cN)
 exact lda hI406 0 ag36 z z z z<|nl ⟨z, (.inl ⟨hd2, _, hG405, (Regs.step hReg407 hDi z z z z), hI406⟩)⟩
 cases (hpost 3 rfl).symm.trans hd1
 cases (hpost 4 rfl).symm.trans hd1
 cases (hpost 18 rfl).symm.trans hd1
 cases (hpost 20 rfl).symm.trans hd1
 rintro D r wd408 (⟨hd2, G404, hG405, hReg407, hI406⟩ | ⟨hd1, hd2, g380, G404, hG405, hReg407, hI406⟩ | ⟨hd1, hd2, g380, A383, c384, G404, hG405, hl389, hD390, ho388, hReg407, hI406⟩ | ⟨hd1, hd2, g380, A383, c384, G404, hG405, hl389, hD390, ho388, hReg407, hI406⟩ | ⟨hd1, g380, A383, c384, G404, hG405, hl389, hD390, ho388, hReg407, hI406⟩) hDi hpre hpost
 obtain ⟨r0, rfl⟩ := Has.ex (cC (hReg407.get 2 rfl (hpre 2 rfl)) cN)
 refine q_bs hI406 (vs := [(0, agg [int .i64 ((a3.getD (Int.toNat v32) z_api_Slice).Node), int .i64 ((a3.getD (Int.toNat v32) z_api_Slice).Table), int .i64 ((a3.getD (Int.toNat v32) z_api_Slice).X), int .i64 ((a3.getD (Int.toNat v32) z_api_Slice).Y), int .i64 ((a3.getD (Int.toNat v32) z_api_Slice).H), string ((a3.getD (Int.toNat v32) z_api_Slice).Text), bool ((a3.getD (Int.toNat v32) z_api_Slice).Head), bool ((a3.getD (Int.toNat v32) z_api_Slice).Note)].toArray)]) (cs := [int .i64 ((a3.getD (Int.toNat v32) z_api_Slice).Node), int .i64 ((a3.getD (Int.toNat v32) z_api_Slice).Table), int .i64 ((a3.getD (Int.toNat v32) z_api_Slice).X), int .i64 ((a3.getD (Int.toNat v32) z_api_Slice).Y), int .i64 ((a3.getD (Int.toNat v32) z_api_Slice).H), string ((a3.getD (Int.toNat v32) z_api_Slice).Text), bool ((a3.getD (Int.toNat v32) z_api_Slice).Head), bool ((a3.getD (Int.toNat v32) z_api_Slice).Note)]) el24 ze36 rfl (by decide) rfl (by kernel_rfl) (fun g380 wd381 hI382 => ?_)
 exact nl ⟨z, (.inr (.inl ⟨z, (hpost 4 z), g380, _, hG405, (Regs.step (Regs.more (new := [(3, 53, slice (some ⟨g380, 0, none⟩) 1 1)]) hReg407 (List.forall_mem_cons.2 ⟨hDi, (fun _ h => nomatch h)⟩)) hDi z z z z), hI382⟩))⟩
 cases hDi.symm.trans hd1
 cases (hpost 4 rfl).symm.trans hd1
 cases (hpost 18 rfl).symm.trans hd1
 cases (hpost 20 rfl).symm.trans hd1
 rintro D r wd408 (⟨hd2, G404, hG405, hReg407, hI406⟩ | ⟨hd1, hd2, g380, G404, hG405, hReg407, hI406⟩ | ⟨hd1, hd2, g380, A383, c384, G404, hG405, hl389, hD390, ho388, hReg407, hI406⟩ | ⟨hd1, hd2, g380, A383, c384, G404, hG405, hl389, hD390, ho388, hReg407, hI406⟩ | ⟨hd1, g380, A383, c384, G404, hG405, hl389, hD390, ho388, hReg407, hI406⟩) hDi hpre hpost
 cases (hpre 3 rfl).symm.trans hd2
 obtain ⟨r0, rfl⟩ := Has.ex (cC (hReg407.get 1 rfl (hpre 1 rfl)) (cC (hReg407.get 15 rfl (hpre 3 rfl)) cN))
 refine q_app (xs := v33) (ys := [(a3.getD (Int.toNat v32) z_api_Slice)]) k_api_Slice hI406 5 el24 ze36 rfl rfl rfl rfl ho38 hl36 (Dat.mono hG405 hD37) (src_bx hI406 0 so24 rfl rfl) ⟨[int .i64 ((a3.getD (Int.toNat v32) z_api_Slice).Node), int .i64 ((a3.getD (Int.toNat v32) z_api_Slice).Table), int .i64 ((a3.getD (Int.toNat v32) z_api_Slice).X), int .i64 ((a3.getD (Int.toNat v32) z_api_Slice).Y), int .i64 ((a3.getD (Int.toNat v32) z_api_Slice).H), string ((a3.getD (Int.toNat v32) z_api_Slice).Text), bool ((a3.getD (Int.toNat v32) z_api_Slice).Head), bool ((a3.getD (Int.toNat v32) z_api_Slice).Note)], _, rfl, (mk_api_Slice (x := (a3.getD (Int.toNat v32) z_api_Slice))), rfl⟩ rfl (by simp only [List.length_cons, List.length_nil]; omega) (by simp only [List.length_cons, List.length_nil]; omega) (fun A383 c384 G385 wd386 hG387 ho388 hl389 hD390 hI391 => ?_)
 exact nl ⟨z, (.inr (.inr (.inl ⟨z, (hpost 18 z), g380, A383, c384, _, (gT hG405 hG387), hl389, hD390, ho388, (Regs.step (Regs.more (new := [(4, 54, slice A383 (v33 ++ [(a3.getD (Int.toNat v32) z_api_Slice)]).length c384), (17, 67, pointer (some ⟨g18, 0, none⟩))]) hReg407 (List.forall_mem_cons.2 ⟨hDi, (List.forall_mem_cons.2 ⟨hpost 17 z, (fun _ h => nomatch h)⟩)⟩)) hDi z z z z), hI391⟩)))⟩
 cases hDi.symm.trans hd1
 cases (hpost 18 rfl).symm.trans hd1
 cases (hpost 20 rfl).symm.trans hd1
 rintro D r wd408 (⟨hd2, G404, hG405, hReg407, hI406⟩ | ⟨hd1, hd2, g380, G404, hG405, hReg407, hI406⟩ | ⟨hd1, hd2, g380, A383, c384, G404, hG405, hl389, hD390, ho388, hReg407, hI406⟩ | ⟨hd1, hd2, g380, A383, c384, G404, hG405, hl389, hD390, ho388, hReg407, hI406⟩ | ⟨hd1, g380, A383, c384, G404, hG405, hl389, hD390, ho388, hReg407, hI406⟩) hDi hpre hpost
 obtain ⟨r0, rfl⟩ := Has.ex (cC (hReg407.ins.get 2 rfl) cN)
 exact fa fl64_2 z<|nl ⟨z, (.inl ⟨hd2, _, hG405, (Regs.step hReg407 hDi z z z z), hI406⟩)⟩
 obtain ⟨r0, rfl⟩ := Has.ex (cC (hReg407.ins.get 2 rfl) cN)
 exact fa fl64_2 z<|nl ⟨z, (.inr (.inl ⟨hd1, hd2, g380, _, hG405, (Regs.step hReg407 hDi z z z z), hI406⟩))⟩
 obtain ⟨r0, rfl⟩ := Has.ex (cC (hReg407.ins.get 2 rfl) cN)
 exact fa fl64_2 z<|nl ⟨z, (.inr (.inr (.inl ⟨hd1, hd2, g380, A383, c384, _, hG405, hl389, hD390, ho388, (Regs.step hReg407 hDi z z z z), hI406⟩)))⟩
 cases (hpost 18 rfl).symm.trans hd1
 cases (hpost 20 rfl).symm.trans hd1
 rintro D r wd408 (⟨hd2, G404, hG405, hReg407, hI406⟩ | ⟨hd1, hd2, g380, G404, hG405, hReg407, hI406⟩ | ⟨hd1, hd2, g380, A383, c384, G404, hG405, hl389, hD390, ho388, hReg407, hI406⟩ | ⟨hd1, hd2, g380, A383, c384, G404, hG405, hl389, hD390, ho388, hReg407, hI406⟩ | ⟨hd1, g380, A383, c384, G404, hG405, hl389, hD390, ho388, hReg407, hI406⟩) hDi hpre hpost
 obtain ⟨r0, rfl⟩ := Has.ex (cC (hReg407.get 3 rfl (hpre 5 rfl)) cN)
 exact ld hI406 1 ag3 z z z<|nl ⟨z, (.inl ⟨hd2, _, hG405, (Regs.step hReg407 hDi z z z z), hI406⟩)⟩
 obtain ⟨r0, rfl⟩ := Has.ex (cC (hReg407.get 3 rfl (hpre 5 rfl)) cN)
 exact ld hI406 2 ag3 z z z<|nl ⟨z, (.inr (.inl ⟨hd1, hd2, g380, _, hG405, (Regs.step hReg407 hDi z z z z), hI406⟩))⟩
 obtain ⟨r0, rfl⟩ := Has.ex (cC (hReg407.get 3 rfl (hpre 5 rfl)) cN)
 exact ld hI406 2 ag3 z z z<|nl ⟨z, (.inr (.inr (.inl ⟨hd1, hd2, g380, A383, c384, _, hG405, hl389, hD390, ho388, (Regs.step hReg407 hDi z z z z), hI406⟩)))⟩
 cases (hpost 18 rfl).symm.trans hd1
 cases (hpost 20 rfl).symm.trans hd1
 rintro D r wd408 (⟨hd2, G404, hG405, hReg407, hI406⟩ | ⟨hd1, hd2, g380, G404, hG405, hReg407, hI406⟩ | ⟨hd1, hd2, g380, A383, c384, G404, hG405, hl389, hD390, ho388, hReg407, hI406⟩ | ⟨hd1, hd2, g380, A383, c384, G404, hG405, hl389, hD390, ho388, hReg407, hI406⟩ | ⟨hd1, g380, A383, c384, G404, hG405, hl389, hD390, ho388, hReg407, hI406⟩) hDi hpre hpost
 obtain ⟨r0, rfl⟩ := Has.ex (cC (hReg407.ins.get 4 rfl) cN)
 exact fa fl36_3 z<|nl ⟨z, (.inl ⟨hd2, _, hG405, (Regs.step hReg407 hDi z z z z), hI406⟩)⟩
 obtain ⟨r0, rfl⟩ := Has.ex (cC (hReg407.ins.get 4 rfl) cN)
 exact fa fl36_3 z<|nl ⟨z, (.inr (.inl ⟨hd1, hd2, g380, _, hG405, (Regs.step hReg407 hDi z z z z), hI406⟩))⟩
 obtain ⟨r0, rfl⟩ := Has.ex (cC (hReg407.ins.get 4 rfl) cN)
 exact fa fl36_3 z<|nl ⟨z, (.inr (.inr (.inl ⟨hd1, hd2, g380, A383, c384, _, hG405, hl389, hD390, ho388, (Regs.step hReg407 hDi z z z z), hI406⟩)))⟩
 obtain ⟨r0, rfl⟩ := Has.ex (cC (hReg407.ins.get 4 rfl) cN)
 exact fa fl36_3 z<|nl ⟨z, (.inr (.inr (.inr (.inl ⟨hd1, hd2, g380, A383, c384, _, hG405, hl389, hD390, ho388, (Regs.step hReg407 hDi z z z z), hI406⟩))))⟩
 cases (hpost 20 rfl).symm.trans hd1
 rintro D r wd408 (⟨hd2, G404, hG405, hReg407, hI406⟩ | ⟨hd1, hd2, g380, G404, hG405, hReg407, hI406⟩ | ⟨hd1, hd2, g380, A383, c384, G404, hG405, hl389, hD390, ho388, hReg407, hI406⟩ | ⟨hd1, hd2, g380, A383, c384, G404, hG405, hl389, hD390, ho388, hReg407, hI406⟩ | ⟨hd1, g380, A383, c384, G404, hG405, hl389, hD390, ho388, hReg407, hI406⟩) hDi hpre hpost
 obtain ⟨r0, rfl⟩ := Has.ex (cC (hReg407.get 5 rfl (hpre 7 rfl)) cN)
 exact ld hI406 0 ag3 z z z<|nl ⟨z, (.inl ⟨hd2, _, hG405, (Regs.step hReg407 hDi z z z z), hI406⟩)⟩
 obtain ⟨r0, rfl⟩ := Has.ex (cC (hReg407.get 5 rfl (hpre 7 rfl)) cN)
 exact ld hI406 1 ag3 z z z<|nl ⟨z, (.inr (.inl ⟨hd1, hd2, g380, _, hG405, (Regs.step hReg407 hDi z z z z), hI406⟩))⟩
 obtain ⟨r0, rfl⟩ := Has.ex (cC (hReg407.get 5 rfl (hpre 7 rfl)) cN)
 exact ld hI406 1 ag3 z z z<|nl ⟨z, (.inr (.inr (.inl ⟨hd1, hd2, g380, A383, c384, _, hG405, hl389, hD390, ho388, (Regs.step hReg407 hDi z z z z), hI406⟩)))⟩
 obtain ⟨r0, rfl⟩ := Has.ex (cC (hReg407.get 5 rfl (hpre 7 rfl)) cN)
 exact ld hI406 1 ag3 z z z<|nl ⟨z, (.inr (.inr (.inr (.inl ⟨hd1, hd2, g380, A383, c384, _, hG405, hl389, hD390, ho388, (Regs.step hReg407 hDi z z z z), hI406⟩))))⟩
 cases (hpost 20 rfl).symm.trans hd1
 rintro D r wd408 (⟨hd2, G404, hG405, hReg407, hI406⟩ | ⟨hd1, hd2, g380, G404, hG405, hReg407, hI406⟩ | ⟨hd1, hd2, g380, A383, c384, G404, hG405, hl389, hD390, ho388, hReg407, hI406⟩ | ⟨hd1, hd2, g380, A383, c384, G404, hG405, hl389, hD390, ho388, hReg407, hI406⟩ | ⟨hd1, g380, A383, c384, G404, hG405, hl389, hD390, ho388, hReg407, hI406⟩) hDi hpre hpost
 obtain ⟨r0, rfl⟩ := Has.ex (cC (hReg407.ins.get 4 rfl) cN)
 exact fa fl36_4 z<|nl ⟨z, (.inl ⟨hd2, _, hG405, (Regs.step hReg407 hDi z z z z), hI406⟩)⟩
 obtain ⟨r0, rfl⟩ := Has.ex (cC (hReg407.ins.get 4 rfl) cN)
 exact fa fl36_4 z<|nl ⟨z, (.inr (.inl ⟨hd1, hd2, g380, _, hG405, (Regs.step hReg407 hDi z z z z), hI406⟩))⟩
 obtain ⟨r0, rfl⟩ := Has.ex (cC (hReg407.ins.get 4 rfl) cN)
 exact fa fl36_4 z<|nl ⟨z, (.inr (.inr (.inl ⟨hd1, hd2, g380, A383, c384, _, hG405, hl389, hD390, ho388, (Regs.step hReg407 hDi z z z z), hI406⟩)))⟩
 obtain ⟨r0, rfl⟩ := Has.ex (cC (hReg407.ins.get 4 rfl) cN)
 exact fa fl36_4 z<|nl ⟨z, (.inr (.inr (.inr (.inl ⟨hd1, hd2, g380, A383, c384, _, hG405, hl389, hD390, ho388, (Regs.step hReg407 hDi z z z z), hI406⟩))))⟩
 cases (hpost 20 rfl).symm.trans hd1
 rintro D r wd408 (⟨hd2, G404, hG405, hReg407, hI406⟩ | ⟨hd1, hd2, g380, G404, hG405, hReg407, hI406⟩ | ⟨hd1, hd2, g380, A383, c384, G404, hG405, hl389, hD390, ho388, hReg407, hI406⟩ | ⟨hd1, hd2, g380, A383, c384, G404, hG405, hl389, hD390, ho388, hReg407, hI406⟩ | ⟨hd1, g380, A383, c384, G404, hG405, hl389, hD390, ho388, hReg407, hI406⟩) hDi hpre hpost
 obtain ⟨r0, rfl⟩ := Has.ex (cC (hReg407.get 7 rfl (hpre 9 rfl)) cN)
 exact ld hI406 0 ag3 z z z<|nl ⟨z, (.inl ⟨hd2, _, hG405, (Regs.step hReg407 hDi z z z z), hI406⟩)⟩
 obtain ⟨r0, rfl⟩ := Has.ex (cC (hReg407.get 7 rfl (hpre 9 rfl)) cN)
 exact ld hI406 1 ag3 z z z<|nl ⟨z, (.inr (.inl ⟨hd1, hd2, g380, _, hG405, (Regs.step hReg407 hDi z z z z), hI406⟩))⟩
 obtain ⟨r0, rfl⟩ := Has.ex (cC (hReg407.get 7 rfl (hpre 9 rfl)) cN)
 exact ld hI406 1 ag3 z z z<|nl ⟨z, (.inr (.inr (.inl ⟨hd1, hd2, g380, A383, c384, _, hG405, hl389, hD390, ho388, (Regs.step hReg407 hDi z z z z), hI406⟩)))⟩
 obtain ⟨r0, rfl⟩ := Has.ex (cC (hReg407.get 7 rfl (hpre 9 rfl)) cN)
 exact ld hI406 1 ag3 z z z<|nl ⟨z, (.inr (.inr (.inr (.inl ⟨hd1, hd2, g380, A383, c384, _, hG405, hl389, hD390, ho388, (Regs.step hReg407 hDi z z z z), hI406⟩))))⟩
 cases (hpost 20 rfl).symm.trans hd1
 rintro D r wd408 (⟨hd2, G404, hG405, hReg407, hI406⟩ | ⟨hd1, hd2, g380, G404, hG405, hReg407, hI406⟩ | ⟨hd1, hd2, g380, A383, c384, G404, hG405, hl389, hD390, ho388, hReg407, hI406⟩ | ⟨hd1, hd2, g380, A383, c384, G404, hG405, hl389, hD390, ho388, hReg407, hI406⟩ | ⟨hd1, g380, A383, c384, G404, hG405, hl389, hD390, ho388, hReg407, hI406⟩) hDi hpre hpost
 obtain ⟨r0, rfl⟩ := Has.ex (cC (hReg407.get 6 rfl (hpre 8 rfl)) (cC (hReg407.get 8 rfl (hpre 10 rfl)) cN))
 exact q_add z z<|nl ⟨z, (.inl ⟨hd2, _, hG405, (Regs.step hReg407 hDi z z z z), hI406⟩)⟩
 obtain ⟨r0, rfl⟩ := Has.ex (cC (hReg407.get 6 rfl (hpre 8 rfl)) (cC (hReg407.get 8 rfl (hpre 10 rfl)) cN))
 exact q_add z z<|nl ⟨z, (.inr (.inl ⟨hd1, hd2, g380, _, hG405, (Regs.step hReg407 hDi z z z z), hI406⟩))⟩
 obtain ⟨r0, rfl⟩ := Has.ex (cC (hReg407.get 6 rfl (hpre 8 rfl)) (cC (hReg407.get 8 rfl (hpre 10 rfl)) cN))
 exact q_add z z<|nl ⟨z, (.inr (.inr (.inl ⟨hd1, hd2, g380, A383, c384, _, hG405, hl389, hD390, ho388, (Regs.step hReg407 hDi z z z z), hI406⟩)))⟩
 obtain ⟨r0, rfl⟩ := Has.ex (cC (hReg407.get 6 rfl (hpre 8 rfl)) (cC (hReg407.get 8 rfl (hpre 10 rfl)) cN))
 exact q_add z z<|nl ⟨z, (.inr (.inr (.inr (.inl ⟨hd1, hd2, g380, A383, c384, _, hG405, hl389, hD390, ho388, (Regs.step hReg407 hDi z z z z), hI406⟩))))⟩
 cases (hpost 20 rfl).symm.trans hd1
 rintro D r wd408 (⟨hd2, G404, hG405, hReg407, hI406⟩ | ⟨hd1, hd2, g380, G404, hG405, hReg407, hI406⟩ | ⟨hd1, hd2, g380, A383, c384, G404, hG405, hl389, hD390, ho388, hReg407, hI406⟩ | ⟨hd1, hd2, g380, A383, c384, G404, hG405, hl389, hD390, ho388, hReg407, hI406⟩ | ⟨hd1, g380, A383, c384, G404, hG405, hl389, hD390, ho388, hReg407, hI406⟩) hDi hpre hpost
 obtain ⟨r0, rfl⟩ := Has.ex (cC (hReg407.get 4 rfl (hpre 6 rfl)) (cC (hReg407.get 9 rfl (hpre 11 rfl)) cN))
 exact q_max z z<|nl ⟨z, (.inl ⟨hd2, _, hG405, (Regs.step hReg407 hDi z z z z), hI406⟩)⟩
 obtain ⟨r0, rfl⟩ := Has.ex (cC (hReg407.get 4 rfl (hpre 6 rfl)) (cC (hReg407.get 9 rfl (hpre 11 rfl)) cN))
 exact q_max z z<|nl ⟨z, (.inr (.inl ⟨hd1, hd2, g380, _, hG405, (Regs.step hReg407 hDi z z z z), hI406⟩))⟩
 obtain ⟨r0, rfl⟩ := Has.ex (cC (hReg407.get 4 rfl (hpre 6 rfl)) (cC (hReg407.get 9 rfl (hpre 11 rfl)) cN))
 exact q_max z z<|nl ⟨z, (.inr (.inr (.inl ⟨hd1, hd2, g380, A383, c384, _, hG405, hl389, hD390, ho388, (Regs.step hReg407 hDi z z z z), hI406⟩)))⟩
 obtain ⟨r0, rfl⟩ := Has.ex (cC (hReg407.get 4 rfl (hpre 6 rfl)) (cC (hReg407.get 9 rfl (hpre 11 rfl)) cN))
 exact q_max z z<|nl ⟨z, (.inr (.inr (.inr (.inl ⟨hd1, hd2, g380, A383, c384, _, hG405, hl389, hD390, ho388, (Regs.step hReg407 hDi z z z z), hI406⟩))))⟩
 cases (hpost 20 rfl).symm.trans hd1
 rintro D r wd408 (⟨hd2, G404, hG405, hReg407, hI406⟩ | ⟨hd1, hd2, g380, G404, hG405, hReg407, hI406⟩ | ⟨hd1, hd2, g380, A383, c384, G404, hG405, hl389, hD390, ho388, hReg407, hI406⟩ | ⟨hd1, hd2, g380, A383, c384, G404, hG405, hl389, hD390, ho388, hReg407, hI406⟩ | ⟨hd1, g380, A383, c384, G404, hG405, hl389, hD390, ho388, hReg407, hI406⟩) hDi hpre hpost
 obtain ⟨r0, rfl⟩ := Has.ex (cC (hReg407.ins.get 1 rfl) cN)
 exact ld hI406 3 ag25 z z z<|nl ⟨z, (.inl ⟨hd2, _, hG405, (Regs.step hReg407 hDi z z z z), hI406⟩)⟩
 obtain ⟨r0, rfl⟩ := Has.ex (cC (hReg407.ins.get 1 rfl) cN)
 exact ld hI406 4 ag25 z z z<|nl ⟨z, (.inr (.inl ⟨hd1, hd2, g380, _, hG405, (Regs.step hReg407 hDi z z z z), hI406⟩))⟩
 obtain ⟨r0, rfl⟩ := Has.ex (cC (hReg407.ins.get 1 rfl) cN)
 exact ld hI406 4 ag25 z z z<|nl ⟨z, (.inr (.inr (.inl ⟨hd1, hd2, g380, A383, c384, _, hG405, hl389, hD390, ho388, (Regs.step hReg407 hDi z z z z), hI406⟩)))⟩
 obtain ⟨r0, rfl⟩ := Has.ex (cC (hReg407.ins.get 1 rfl) cN)
 exact ld hI406 4 ag25 z z z<|nl ⟨z, (.inr (.inr (.inr (.inl ⟨hd1, hd2, g380, A383, c384, _, hG405, hl389, hD390, ho388, (Regs.step hReg407 hDi z z z z), hI406⟩))))⟩
 obtain ⟨r0, rfl⟩ := Has.ex (cC (hReg407.ins.get 1 rfl) cN)
 exact ld hI406 4 ag25 z z z<|nl ⟨z, (.inr (.inr (.inr (.inr ⟨hd1, g380, A383, c384, _, hG405, hl389, hD390, ho388, (Regs.step hReg407 hDi z z z z), hI406⟩))))⟩
 rintro D r wd408 (⟨hd2, G404, hG405, hReg407, hI406⟩ | ⟨hd1, hd2, g380, G404, hG405, hReg407, hI406⟩ | ⟨hd1, hd2, g380, A383, c384, G404, hG405, hl389, hD390, ho388, hReg407, hI406⟩ | ⟨hd1, hd2, g380, A383, c384, G404, hG405, hl389, hD390, ho388, hReg407, hI406⟩ | ⟨hd1, g380, A383, c384, G404, hG405, hl389, hD390, ho388, hReg407, hI406⟩) hDi hpre hpost
 obtain ⟨r0, rfl⟩ := Has.ex (cC (hReg407.ins.get 3 rfl) cN)
 exact mv z<|nl ⟨z, (.inl ⟨hd2, _, hG405, (Regs.step hReg407 hDi z z z z), hI406⟩)⟩
 obtain ⟨r0, rfl⟩ := Has.ex (cC (hReg407.ins.get 3 rfl) cN)
 exact mv z<|nl ⟨z, (.inr (.inl ⟨hd1, hd2, g380, _, hG405, (Regs.step hReg407 hDi z z z z), hI406⟩))⟩
 obtain ⟨r0, rfl⟩ := Has.ex (cC (hReg407.ins.get 3 rfl) cN)
 exact mv z<|nl ⟨z, (.inr (.inr (.inl ⟨hd1, hd2, g380, A383, c384, _, hG405, hl389, hD390, ho388, (Regs.step hReg407 hDi z z z z), hI406⟩)))⟩
 obtain ⟨r0, rfl⟩ := Has.ex (cC (hReg407.ins.get 3 rfl) cN)
 exact mv z<|nl ⟨z, (.inr (.inr (.inr (.inl ⟨hd1, hd2, g380, A383, c384, _, hG405, hl389, hD390, ho388, (Regs.step hReg407 hDi z z z z), hI406⟩))))⟩
 obtain ⟨r0, rfl⟩ := Has.ex (cC (hReg407.ins.get 3 rfl) cN)
 exact mv z<|nl ⟨z, (.inr (.inr (.inr (.inr ⟨hd1, g380, A383, c384, _, hG405, hl389, hD390, ho388, (Regs.step hReg407 hDi z z z z), hI406⟩))))⟩
 rintro D r wd408 (⟨hd2, G404, hG405, hReg407, hI406⟩ | ⟨hd1, hd2, g380, G404, hG405, hReg407, hI406⟩ | ⟨hd1, hd2, g380, A383, c384, G404, hG405, hl389, hD390, ho388, hReg407, hI406⟩ | ⟨hd1, hd2, g380, A383, c384, G404, hG405, hl389, hD390, ho388, hReg407, hI406⟩ | ⟨hd1, g380, A383, c384, G404, hG405, hl389, hD390, ho388, hReg407, hI406⟩) hDi hpre hpost
 obtain ⟨r0, rfl⟩ := Has.ex (cC (hReg407.get 11 rfl (hpre 13 rfl)) (cC (hReg407.get 12 rfl (hpre 14 rfl)) cN))
 exact q_ia el25 z hA396 z h393 h393'<|nl ⟨z, (.inl ⟨hd2, _, hG405, (Regs.step hReg407 hDi z z z z), hI406⟩)⟩
 obtain ⟨r0, rfl⟩ := Has.ex (cC (hReg407.get 11 rfl (hpre 13 rfl)) (cC (hReg407.get 12 rfl (hpre 14 rfl)) cN))
 exact q_ia el25 z hA396 z h393 h393'<|nl ⟨z, (.inr (.inl ⟨hd1, hd2, g380, _, hG405, (Regs.step hReg407 hDi z z z z), hI406⟩))⟩
 obtain ⟨r0, rfl⟩ := Has.ex (cC (hReg407.get 11 rfl (hpre 13 rfl)) (cC (hReg407.get 12 rfl (hpre 14 rfl)) cN))
 exact q_ia el25 z hA396 z h393 h393'<|nl ⟨z, (.inr (.inr (.inl ⟨hd1, hd2, g380, A383, c384, _, hG405, hl389, hD390, ho388, (Regs.step hReg407 hDi z z z z), hI406⟩)))⟩
 obtain ⟨r0, rfl⟩ := Has.ex (cC (hReg407.get 11 rfl (hpre 13 rfl)) (cC (hReg407.get 12 rfl (hpre 14 rfl)) cN))
 exact q_ia el25 z hA396 z h393 h393'<|nl ⟨z, (.inr (.inr (.inr (.inl ⟨hd1, hd2, g380, A383, c384, _, hG405, hl389, hD390, ho388, (Regs.step hReg407 hDi z z z z), hI406⟩))))⟩
 obtain ⟨r0, rfl⟩ := Has.ex (cC (hReg407.get 11 rfl (hpre 13 rfl)) (cC (hReg407.get 12 rfl (hpre 14 rfl)) cN))
 exact q_ia el25 z hA396 z h393 h393'<|nl ⟨z, (.inr (.inr (.inr (.inr ⟨hd1, g380, A383, c384, _, hG405, hl389, hD390, ho388, (Regs.step hReg407 hDi z z z z), hI406⟩))))⟩
 rintro D r wd408 (⟨hd2, G404, hG405, hReg407, hI406⟩ | ⟨hd1, hd2, g380, G404, hG405, hReg407, hI406⟩ | ⟨hd1, hd2, g380, A383, c384, G404, hG405, hl389, hD390, ho388, hReg407, hI406⟩ | ⟨hd1, hd2, g380, A383, c384, G404, hG405, hl389, hD390, ho388, hReg407, hI406⟩ | ⟨hd1, g380, A383, c384, G404, hG405, hl389, hD390, ho388, hReg407, hI406⟩) hDi hpre hpost
 obtain ⟨r0, rfl⟩ := Has.ex (cC (hReg407.get 13 rfl (hpre 15 rfl)) cN)
 exact q_lf hI406 ag4 z (hG405.cel _ _ (hc399 0 _ z))<|nl ⟨z, (.inl ⟨hd2, _, hG405, (Regs.step hReg407 hDi z z z z), hI406⟩)⟩
 obtain ⟨r0, rfl⟩ := Has.ex (cC (hReg407.get 13 rfl (hpre 15 rfl)) cN)
 exact q_lf hI406 ag4 z (hG405.cel _ _ (hc399 0 _ z))<|nl ⟨z, (.inr (.inl ⟨hd1, hd2, g380, _, hG405, (Regs.step hReg407 hDi z z z z), hI406⟩))⟩
 obtain ⟨r0, rfl⟩ := Has.ex (cC (hReg407.get 13 rfl (hpre 15 rfl)) cN)
 exact q_lf hI406 ag4 z (hG405.cel _ _ (hc399 0 _ z))<|nl ⟨z, (.inr (.inr (.inl ⟨hd1, hd2, g380, A383, c384, _, hG405, hl389, hD390, ho388, (Regs.step hReg407 hDi z z z z), hI406⟩)))⟩
 obtain ⟨r0, rfl⟩ := Has.ex (cC (hReg407.get 13 rfl (hpre 15 rfl)) cN)
 exact q_lf hI406 ag4 z (hG405.cel _ _ (hc399 0 _ z))<|nl ⟨z, (.inr (.inr (.inr (.inl ⟨hd1, hd2, g380, A383, c384, _, hG405, hl389, hD390, ho388, (Regs.step hReg407 hDi z z z z), hI406⟩))))⟩
 obtain ⟨r0, rfl⟩ := Has.ex (cC (hReg407.get 13 rfl (hpre 15 rfl)) cN)
 exact q_lf hI406 ag4 z (hG405.cel _ _ (hc399 0 _ z))<|nl ⟨z, (.inr (.inr (.inr (.inr ⟨hd1, g380, A383, c384, _, hG405, hl389, hD390, ho388, (Regs.step hReg407 hDi z z z z), hI406⟩))))⟩
 rintro D r wd408 (⟨hd2, G404, hG405, hReg407, hI406⟩ | ⟨hd1, hd2, g380, G404, hG405, hReg407, hI406⟩ | ⟨hd1, hd2, g380, A383, c384, G404, hG405, hl389, hD390, ho388, hReg407, hI406⟩ | ⟨hd1, hd2, g380, A383, c384, G404, hG405, hl389, hD390, ho388, hReg407, hI406⟩ | ⟨hd1, g380, A383, c384, G404, hG405, hl389, hD390, ho388, hReg407, hI406⟩) hDi hpre hpost
 cases (hpre 3 rfl).symm.trans hd2
 cases (hpre 4 rfl).symm.trans hd2
 obtain ⟨r0, rfl⟩ := Has.ex (cC (hReg407.ins.get 2 rfl) cN)
 exact fa fl64_0 z<|nl ⟨z, (.inr (.inr (.inl ⟨hd1, hd2, g380, A383, c384, _, hG405, hl389, hD390, ho388, (Regs.step hReg407 hDi z z z z), hI406⟩)))⟩
 cases (hpost 18 rfl).symm.trans hd1
 cases (hpost 20 rfl).symm.trans hd1
 rintro D r wd408 (⟨hd2, G404, hG405, hReg407, hI406⟩ | ⟨hd1, hd2, g380, G404, hG405, hReg407, hI406⟩ | ⟨hd1, hd2, g380, A383, c384, G404, hG405, hl389, hD390, ho388, hReg407, hI406⟩ | ⟨hd1, hd2, g380, A383, c384, G404, hG405, hl389, hD390, ho388, hReg407, hI406⟩ | ⟨hd1, g380, A383, c384, G404, hG405, hl389, hD390, ho388, hReg407, hI406⟩) hDi hpre hpost
 cases (hpre 3 rfl).symm.trans hd2
 cases (hpre 4 rfl).symm.trans hd2
 obtain ⟨r0, rfl⟩ := Has.ex (cC (hReg407.get 16 rfl (hpre 4 rfl)) (cC (hReg407.get 17 rfl (hpre 17 rfl)) cN))
 exact stk hI406 2 ag24 z z z z z z z fun wd400 hI401=>nl ⟨z, (.inr (.inr (.inr (.inl ⟨z, (hpost 20 z), g380, A383, c384, _, hG405, hl389, hD390, ho388, (Regs.stepN (Regs.more (new := [(19, 68, pointer (some ⟨g18, 2, none⟩))]) hReg407 (List.forall_mem_cons.2 ⟨hpost 19 z, (fun _ h => nomatch h)⟩)) z z), hI401⟩))))⟩
 cases hDi.symm.trans hd1
 cases (hpost 20 rfl).symm.trans hd1
 rintro D r wd408 (⟨hd2, G404, hG405, hReg407, hI406⟩ | ⟨hd1, hd2, g380, G404, hG405, hReg407, hI406⟩ | ⟨hd1, hd2, g380, A383, c384, G404, hG405, hl389, hD390, ho388, hReg407, hI406⟩ | ⟨hd1, hd2, g380, A383, c384, G404, hG405, hl389, hD390, ho388, hReg407, hI406⟩ | ⟨hd1, g380, A383, c384, G404, hG405, hl389, hD390, ho388, hReg407, hI406⟩) hDi hpre hpost
 cases (hpre 3 rfl).symm.trans hd2
 cases (hpre 4 rfl).symm.trans hd2
 cases (hpre 18 rfl).symm.trans hd2
 obtain ⟨r0, rfl⟩ := Has.ex (cC (hReg407.ins.get 2 rfl) cN)
 exact fa fl64_2 z<|nl ⟨z, (.inr (.inr (.inr (.inl ⟨hd1, hd2, g380, A383, c384, _, hG405, hl389, hD390, ho388, (Regs.step hReg407 hDi z z z z), hI406⟩))))⟩
 cases (hpost 20 rfl).symm.trans hd1
 rintro D r wd408 (⟨hd2, G404, hG405, hReg407, hI406⟩ | ⟨hd1, hd2, g380, G404, hG405, hReg407, hI406⟩ | ⟨hd1, hd2, g380, A383, c384, G404, hG405, hl389, hD390, ho388, hReg407, hI406⟩ | ⟨hd1, hd2, g380, A383, c384, G404, hG405, hl389, hD390, ho388, hReg407, hI406⟩ | ⟨hd1, g380, A383, c384, G404, hG405, hl389, hD390, ho388, hReg407, hI406⟩) hDi hpre hpost
 cases (hpre 3 rfl).symm.trans hd2
 cases (hpre 4 rfl).symm.trans hd2
 cases (hpre 18 rfl).symm.trans hd2
 obtain ⟨r0, rfl⟩ := Has.ex (cC (hReg407.get 10 rfl (hpre 12 rfl)) (cC (hReg407.get 18 rfl (hpre 19 rfl)) cN))
 exact stk hI406 2 ag3 z z z z z z z fun wd402 hI403=>nl ⟨z, (.inr (.inr (.inr (.inr ⟨z, g380, A383, c384, _, hG405, hl389, hD390, ho388, (Regs.stepN (Regs.more (new := [(21, 5, bool (a10.getD (Int.toNat v32) false))]) hReg407 (List.forall_mem_cons.2 ⟨hpost 21 z, (fun _ h => nomatch h)⟩)) z z), hI403⟩))))⟩
 cases hDi.symm.trans hd1
 rintro D r wd408 (⟨hd2, G404, hG405, hReg407, hI406⟩ | ⟨hd1, hd2, g380, G404, hG405, hReg407, hI406⟩ | ⟨hd1, hd2, g380, A383, c384, G404, hG405, hl389, hD390, ho388, hReg407, hI406⟩ | ⟨hd1, hd2, g380, A383, c384, G404, hG405, hl389, hD390, ho388, hReg407, hI406⟩ | ⟨hd1, g380, A383, c384, G404, hG405, hl389, hD390, ho388, hReg407, hI406⟩) hDi hpre hpost
 cases (hpre 3 rfl).symm.trans hd2
 cases (hpre 4 rfl).symm.trans hd2
 cases (hpre 18 rfl).symm.trans hd2
 cases (hpre 20 rfl).symm.trans hd2
 obtain ⟨r0, rfl⟩ := Has.ex (cC (hReg407.get 14 rfl (hpre 16 rfl)) cN)
 exact asn z<|nl ⟨z, (.inr (.inr (.inr (.inr ⟨hd1, g380, A383, c384, _, hG405, hl389, hD390, ho388, (Regs.step hReg407 hDi z z z z), hI406⟩))))⟩
 intro D r wd408 hall hR
 rcases hR with ⟨hd2, G404, hG405, hReg407, hI406⟩ | ⟨hd1, hd2, g380, G404, hG405, hReg407, hI406⟩ | ⟨hd1, hd2, g380, A383, c384, G404, hG405, hl389, hD390, ho388, hReg407, hI406⟩ | ⟨hd1, hd2, g380, A383, c384, G404, hG405, hl389, hD390, ho388, hReg407, hI406⟩ | ⟨hd1, g380, A383, c384, G404, hG405, hl389, hD390, ho388, hReg407, hI406⟩
 cases (hall 3 (Nat.le_of_ble_eq_true rfl)).symm.trans hd2
 cases (hall 4 (Nat.le_of_ble_eq_true rfl)).symm.trans hd2
 cases (hall 18 (Nat.le_of_ble_eq_true rfl)).symm.trans hd2
 cases (hall 20 (Nat.le_of_ble_eq_true rfl)).symm.trans hd2
 obtain ⟨r0, rfl⟩ := Has.ex (cC (hReg407.ins.get 0 rfl) (cC (hReg407.ins.get 1 rfl) (cC (hReg407.ins.get 2 rfl) (cC (hReg407.get 19 rfl (hall 21 (Nat.le_of_ble_eq_true rfl))) (cC (hReg407.ins.get 5 rfl) (cC (hReg407.ins.get 6 rfl) (cC (hReg407.ins.get 7 rfl) cN)))))))
 refine have hI414:=Hp.pick 7 [2, 3, 4, 5, 6] hI406 z;?_
 cases H
 exact ⟨z, T48, A383, c384, A41, c42, _, z, hG405, ⟨z, z, z, z, z, z, z, tv⟩, hI414, hl389, hD390, ho388, hl43, (Dat.mono hG405 hD44), ho45, (hy.mono hG405 hS50), tv⟩
 refine nK h363 H fun H=>wf (bN h363)<|ws<|hK360 _ _ _<|iK H fun h441 H=>iK H fun⟨h442, h442'⟩H=>?_
 obtain ⟨ad443, cs444, hA445, hK446, hn447, hc448⟩ := Dat.get (Dat.mono hG122 hD14) false (v32) h442 h442'
 obtain rfl := hK446
 refine wpc_drawL [0, 1, 0, 4, 15, 0, 32, 0, 128, 0, 512, 1920, 4064, 0, 0, 24576, 57344, 127, 131199, 401407, 925695, 2097151] (fun D r w => (D 3 = false ∧ ∃ (G' : Gh), G121 ≤ G' ∧ Regs [(0, func (.yield yl) #[] #[]), (2, pointer (some ⟨g9, 0, none⟩)), (4, pointer (some ⟨g18, 0, none⟩)), (6, int .i64 v32), (7, pointer (some ⟨g173, 0, none⟩)), (8, slice A4 a3.length c5), (9, int .i64 (a3.length : Int)), (10, int .i64 v32)] [] [(0, 50, pointer (some ⟨g18, 0, none⟩)), (1, 51, slice A34 v33.length c35), (2, 52, agg [int .i64 ((a3.getD (Int.toNat v32) z_api_Slice).Node), int .i64 ((a3.getD (Int.toNat v32) z_api_Slice).Table), int .i64 ((a3.getD (Int.toNat v32) z_api_Slice).X), int .i64 ((a3.getD (Int.toNat v32) z_api_Slice).Y), int .i64 ((a3.getD (Int.toNat v32) z_api_Slice).H), string ((a3.getD (Int.toNat v32) z_api_Slice).Text), bool ((a3.getD (Int.toNat v32) z_api_Slice).Head), bool ((a3.getD (Int.toNat v32) z_api_Slice).Note)].toArray), (5, 55, pointer (some ⟨g18, 2, none⟩)), (6, 56, int .i64 v47), (7, 57, pointer (some ⟨g173, 3, none⟩)), (8, 58, int .i64 ((a3.getD (Int.toNat v32) z_api_Slice).Y)), (9, 59, pointer (some ⟨g173, 4, none⟩)), (10, 60, int .i64 ((a3.getD (Int.toNat v32) z_api_Slice).H)), (11, 61, int .i64 (w64 (((a3.getD (Int.toNat v32) z_api_Slice).Y) + ((a3.getD (Int.toNat v32) z_api_Slice).H)))), (12, 62, int .i64 (max v47 (w64 (((a3.getD (Int.toNat v32) z_api_Slice).Y) + ((a3.getD (Int.toNat v32) z_api_Slice).H))))), (13, 63, slice A11 a10.length c12), (14, 64, int .i64 v32), (15, 65, pointer (some (ad443.add (Int.toNat v32 * 1)))), (16, 66, bool (a10.getD (Int.toNat v32) false))] D r ∧ Hp G' (bx g173 [int .i64 ((a3.getD (Int.toNat v32) z_api_Slice).Node), int .i64 ((a3.getD (Int.toNat v32) z_api_Slice).Table), int .i64 ((a3.getD (Int.toNat v32) z_api_Slice).X), int .i64 ((a3.getD (Int.toNat v32) z_api_Slice).Y), int .i64 ((a3.getD (Int.toNat v32) z_api_Slice).H), string ((a3.getD (Int.toNat v32) z_api_Slice).Text), bool ((a3.getD (Int.toNat v32) z_api_Slice).Head), bool ((a3.getD (Int.toNat v32) z_api_Slice).Note)] 36 :: bx g18 [slice A34 v33.length c35, slice A41 v40.length c42, int .i64 v47] 64 :: bx g2 [slice A4 a3.length c5] 24 :: bx g9 [slice A11 a10.length c12] 25 :: tk (slice A34 v33.length c35) 8 36 :: tk (slice A41 v40.length c42) 8 36 :: T48) w) ∨ (D 3 = true ∧ D 4 = false ∧ ∃ (g429 : Nat) (G' : Gh), G121 ≤ G' ∧ Regs [(0, func (.yield yl) #[] #[]), (2, pointer (some ⟨g9, 0, none⟩)), (4, pointer (some ⟨g18, 0, none⟩)), (6, int .i64 v32), (7, pointer (some ⟨g173, 0, none⟩)), (8, slice A4 a3.length c5), (9, int .i64 (a3.length : Int)), (10, int .i64 v32)] [] [(0, 50, pointer (some ⟨g18, 0, none⟩)), (1, 51, slice A34 v33.length c35), (2, 52, agg [int .i64 ((a3.getD (Int.toNat v32) z_api_Slice).Node), int .i64 ((a3.getD (Int.toNat v32) z_api_Slice).Table), int .i64 ((a3.getD (Int.toNat v32) z_api_Slice).X), int .i64 ((a3.getD (Int.toNat v32) z_api_Slice).Y), int .i64 ((a3.getD (Int.toNat v32) z_api_Slice).H), string ((a3.getD (Int.toNat v32) z_api_Slice).Text), bool ((a3.getD (Int.toNat v32) z_api_Slice).Head), bool ((a3.getD (Int.toNat v32) z_api_Slice).Note)].toArray), (5, 55, pointer (some ⟨g18, 2, none⟩)), (6, 56, int .i64 v47), (7, 57, pointer (some ⟨g173, 3, none⟩)), (8, 58, int .i64 ((a3.getD (Int.toNat v32) z_api_Slice).Y)), (9, 59, pointer (some ⟨g173, 4, none⟩)), (10, 60, int .i64 ((a3.getD (Int.toNat v32) z_api_Slice).H)), (11, 61, int .i64 (w64 (((a3.getD (Int.toNat v32) z_api_Slice).Y) + ((a3.getD (Int.toNat v32) z_api_Slice).H)))), (12, 62, int .i64 (max v47 (w64 (((a3.getD (Int.toNat v32) z_api_Slice).Y) + ((a3.getD (Int.toNat v32) z_api_Slice).H))))), (13, 63, slice A11 a10.length c12), (14, 64, int .i64 v32), (15, 65, pointer (some (ad443.add (Int.toNat v32 * 1)))), (16, 66, bool (a10.getD (Int.toNat v32) false)), (3, 53, slice (some ⟨g429, 0, none⟩) 1 1)] D r ∧ Hp G' (bx g429 [int .i64 ((a3.getD (Int.toNat v32) z_api_Slice).Node), int .i64 ((a3.getD (Int.toNat v32) z_api_Slice).Table), int .i64 ((a3.getD (Int.toNat v32) z_api_Slice).X), int .i64 ((a3.getD (Int.toNat v32) z_api_Slice).Y), int .i64 ((a3.getD (Int.toNat v32) z_api_Slice).H), string ((a3.getD (Int.toNat v32) z_api_Slice).Text), bool ((a3.getD (Int.toNat v32) z_api_Slice).Head), bool ((a3.getD (Int.toNat v32) z_api_Slice).Note)] 36 :: bx g173 [int .i64 ((a3.getD (Int.toNat v32) z_api_Slice).Node), int .i64 ((a3.getD (Int.toNat v32) z_api_Slice).Table), int .i64 ((a3.getD (Int.toNat v32) z_api_Slice).X), int .i64 ((a3.getD (Int.toNat v32) z_api_Slice).Y), int .i64 ((a3.getD (Int.toNat v32) z_api_Slice).H), string ((a3.getD (Int.toNat v32) z_api_Slice).Text), bool ((a3.getD (Int.toNat v32) z_api_Slice).Head), bool ((a3.getD (Int.toNat v32) z_api_Slice).Note)] 36 :: bx g18 [slice A34 v33.length c35, slice A41 v40.length c42, int .i64 v47] 64 :: bx g2 [slice A4 a3.length c5] 24 :: bx g9 [slice A11 a10.length c12] 25 :: tk (slice A34 v33.length c35) 8 36 :: tk (slice A41 v40.length c42) 8 36 :: T48) w) ∨ (D 4 = true ∧ D 18 = false ∧ ∃ (g429 : Nat) (A432 : Option Addr) (c433 : Nat) (G' : Gh), G121 ≤ G' ∧ (v33 ++ [(a3.getD (Int.toNat v32) z_api_Slice)]).length ≤ c433 ∧ Dat k_api_Slice G' A432 (v33 ++ [(a3.getD (Int.toNat v32) z_api_Slice)]) ∧ Own A432 c433 ∧ Regs [(0, func (.yield yl) #[] #[]), (2, pointer (some ⟨g9, 0, none⟩)), (4, pointer (some ⟨g18, 0, none⟩)), (6, int .i64 v32), (7, pointer (some ⟨g173, 0, none⟩)), (8, slice A4 a3.length c5), (9, int .i64 (a3.length : Int)), (10, int .i64 v32)] [] [(0, 50, pointer (some ⟨g18, 0, none⟩)), (1, 51, slice A34 v33.length c35), (2, 52, agg [int .i64 ((a3.getD (Int.toNat v32) z_api_Slice).Node), int .i64 ((a3.getD (Int.toNat v32) z_api_Slice).Table), int .i64 ((a3.getD (Int.toNat v32) z_api_Slice).X), int .i64 ((a3.getD (Int.toNat v32) z_api_Slice).Y), int .i64 ((a3.getD (Int.toNat v32) z_api_Slice).H), string ((a3.getD (Int.toNat v32) z_api_Slice).Text), bool ((a3.getD (Int.toNat v32) z_api_Slice).Head), bool ((a3.getD (Int.toNat v32) z_api_Slice).Note)].toArray), (5, 55, pointer (some ⟨g18, 2, none⟩)), (6, 56, int .i64 v47), (7, 57, pointer (some ⟨g173, 3, none⟩)), (8, 58, int .i64 ((a3.getD (Int.toNat v32) z_api_Slice).Y)), (9, 59, pointer (some ⟨g173, 4, none⟩)), (10, 60, int .i64 ((a3.getD (Int.toNat v32) z_api_Slice).H)), (11, 61, int .i64 (w64 (((a3.getD (Int.toNat v32) z_api_Slice).Y) + ((a3.getD (Int.toNat v32) z_api_Slice).H)))), (12, 62, int .i64 (max v47 (w64 (((a3.getD (Int.toNat v32) z_api_Slice).Y) + ((a3.getD (Int.toNat v32) z_api_Slice).H))))), (13, 63, slice A11 a10.length c12), (14, 64, int .i64 v32), (15, 65, pointer (some (ad443.add (Int.toNat v32 * 1)))), (16, 66, bool (a10.getD (Int.toNat v32) false)), (3, 53, slice (some ⟨g429, 0, none⟩) 1 1), (4, 54, slice A432 (v33 ++ [(a3.getD (Int.toNat v32) z_api_Slice)]).length c433), (17, 67, pointer (some ⟨g18, 0, none⟩))] D r ∧ Hp G' (bx g429 [int .i64 ((a3.getD (Int.toNat v32) z_api_Slice).Node), int .i64 ((a3.getD (Int.toNat v32) z_api_Slice).Table), int .i64 ((a3.getD (Int.toNat v32) z_api_Slice).X), int .i64 ((a3.getD (Int.toNat v32) z_api_Slice).Y), int .i64 ((a3.getD (Int.toNat v32) z_api_Slice).H), string ((a3.getD (Int.toNat v32) z_api_Slice).Text), bool ((a3.getD (Int.toNat v32) z_api_Slice).Head), bool ((a3.getD (Int.toNat v32) z_api_Slice).Note)] 36 :: bx g173 [int .i64 ((a3.getD (Int.toNat v32) z_api_Slice).Node), int .i64 ((a3.getD (Int.toNat v32) z_api_Slice).Table), int .i64 ((a3.getD (Int.toNat v32) z_api_Slice).X), int .i64 ((a3.getD (Int.toNat v32) z_api_Slice).Y), int .i64 ((a3.getD (Int.toNat v32) z_api_Slice).H), string ((a3.getD (Int.toNat v32) z_api_Slice).Text), bool ((a3.getD (Int.toNat v32) z_api_Slice).Head), bool ((a3.getD (Int.toNat v32) z_api_Slice).Note)] 36 :: bx g18 [slice A34 v33.length c35, slice A41 v40.length c42, int .i64 v47] 64 :: bx g2 [slice A4 a3.length c5] 24 :: bx g9 [slice A11 a10.length c12] 25 :: tk (slice A432 (v33 ++ [(a3.getD (Int.toNat v32) z_api_Slice)]).length c433) 8 36 :: tk (slice A41 v40.length c42) 8 36 :: T48) w) ∨ (D 18 = true ∧ D 20 = false ∧ ∃ (g429 : Nat) (A432 : Option Addr) (c433 : Nat) (G' : Gh), G121 ≤ G' ∧ (v33 ++ [(a3.getD (Int.toNat v32) z_api_Slice)]).length ≤ c433 ∧ Dat k_api_Slice G' A432 (v33 ++ [(a3.getD (Int.toNat v32) z_api_Slice)]) ∧ Own A432 c433 ∧ Regs [(0, func (.yield yl) #[] #[]), (2, pointer (some ⟨g9, 0, none⟩)), (4, pointer (some ⟨g18, 0, none⟩)), (6, int .i64 v32), (7, pointer (some ⟨g173, 0, none⟩)), (8, slice A4 a3.length c5), (9, int .i64 (a3.length : Int)), (10, int .i64 v32)] [] [(0, 50, pointer (some ⟨g18, 0, none⟩)), (1, 51, slice A34 v33.length c35), (2, 52, agg [int .i64 ((a3.getD (Int.toNat v32) z_api_Slice).Node), int .i64 ((a3.getD (Int.toNat v32) z_api_Slice).Table), int .i64 ((a3.getD (Int.toNat v32) z_api_Slice).X), int .i64 ((a3.getD (Int.toNat v32) z_api_Slice).Y), int .i64 ((a3.getD (Int.toNat v32) z_api_Slice).H), string ((a3.getD (Int.toNat v32) z_api_Slice).Text), bool ((a3.getD (Int.toNat v32) z_api_Slice).Head), bool ((a3.getD (Int.toNat v32) z_api_Slice).Note)].toArray), (5, 55, pointer (some ⟨g18, 2, none⟩)), (6, 56, int .i64 v47), (7, 57, pointer (some ⟨g173, 3, none⟩)), (8, 58, int .i64 ((a3.getD (Int.toNat v32) z_api_Slice).Y)), (9, 59, pointer (some ⟨g173, 4, none⟩)), (10, 60, int .i64 ((a3.getD (Int.toNat v32) z_api_Slice).H)), (11, 61, int .i64 (w64 (((a3.getD (Int.toNat v32) z_api_Slice).Y) + ((a3.getD (Int.toNat v32) z_api_Slice).H)))), (12, 62, int .i64 (max v47 (w64 (((a3.getD (Int.toNat v32) z_api_Slice).Y) + ((a3.getD (Int.toNat v32) z_api_Slice).H))))), (13, 63, slice A11 a10.length c12), (14, 64, int .i64 v32), (15, 65, pointer (some (ad443.add (Int.toNat v32 * 1)))), (16, 66, bool (a10.getD (Int.toNat v32) false)), (3, 53, slice (some ⟨g429, 0, none⟩) 1 1), (4, 54, slice A432 (v33 ++ [(a3.getD (Int.toNat v32) z_api_Slice)]).length c433), (17, 67, pointer (some ⟨g18, 0, none⟩)), (19, 68, pointer (some ⟨g18, 2, none⟩))] D r ∧ Hp G' (bx g429 [int .i64 ((a3.getD (Int.toNat v32) z_api_Slice).Node), int .i64 ((a3.getD (Int.toNat v32) z_api_Slice).Table), int .i64 ((a3.getD (Int.toNat v32) z_api_Slice).X), int .i64 ((a3.getD (Int.toNat v32) z_api_Slice).Y), int .i64 ((a3.getD (Int.toNat v32) z_api_Slice).H), string ((a3.getD (Int.toNat v32) z_api_Slice).Text), bool ((a3.getD (Int.toNat v32) z_api_Slice).Head), bool ((a3.getD (Int.toNat v32) z_api_Slice).Note)] 36 :: bx g173 [int .i64 ((a3.getD (Int.toNat v32) z_api_Slice).Node), int .i64 ((a3.getD (Int.toNat v32) z_api_Slice).Table), int .i64 ((a3.getD (Int.toNat v32) z_api_Slice).X), int .i64 ((a3.getD (Int.toNat v32) z_api_Slice).Y), int .i64 ((a3.getD (Int.toNat v32) z_api_Slice).H), string ((a3.getD (Int.toNat v32) z_api_Slice).Text), bool ((a3.getD (Int.toNat v32) z_api_Slice).Head), bool ((a3.getD (Int.toNat v32) z_api_Slice).Note)] 36 :: bx g18 [slice A432 (v33 ++ [(a3.getD (Int.toNat v32) z_api_Slice)]).length c433, slice A41 v40.length c42, int .i64 v47] 64 :: bx g2 [slice A4 a3.length c5] 24 :: bx g9 [slice A11 a10.length c12] 25 :: tk (slice A432 (v33 ++ [(a3.getD (Int.toNat v32) z_api_Slice)]).length c433) 8 36 :: tk (slice A41 v40.length c42) 8 36 :: T48) w) ∨ (D 20 = true ∧ ∃ (g429 : Nat) (A432 : Option Addr) (c433 : Nat) (G' : Gh), G121 ≤ G' ∧ (v33 ++ [(a3.getD (Int.toNat v32) z_api_Slice)]).length ≤ c433 ∧ Dat k_api_Slice G' A432 (v33 ++ [(a3.getD (Int.toNat v32) z_api_Slice)]) ∧ Own A432 c433 ∧ Regs [(0, func (.yield yl) #[] #[]), (2, pointer (some ⟨g9, 0, none⟩)), (4, pointer (some ⟨g18, 0, none⟩)), (6, int .i64 v32), (7, pointer (some ⟨g173, 0, none⟩)), (8, slice A4 a3.length c5), (9, int .i64 (a3.length : Int)), (10, int .i64 v32)] [] [(0, 50, pointer (some ⟨g18, 0, none⟩)), (1, 51, slice A34 v33.length c35), (2, 52, agg [int .i64 ((a3.getD (Int.toNat v32) z_api_Slice).Node), int .i64 ((a3.getD (Int.toNat v32) z_api_Slice).Table), int .i64 ((a3.getD (Int.toNat v32) z_api_Slice).X), int .i64 ((a3.getD (Int.toNat v32) z_api_Slice).Y), int .i64 ((a3.getD (Int.toNat v32) z_api_Slice).H), string ((a3.getD (Int.toNat v32) z_api_Slice).Text), bool ((a3.getD (Int.toNat v32) z_api_Slice).Head), bool ((a3.getD (Int.toNat v32) z_api_Slice).Note)].toArray), (5, 55, pointer (some ⟨g18, 2, none⟩)), (6, 56, int .i64 v47), (7, 57, pointer (some ⟨g173, 3, none⟩)), (8, 58, int .i64 ((a3.getD (Int.toNat v32) z_api_Slice).Y)), (9, 59, pointer (some ⟨g173, 4, none⟩)), (10, 60, int .i64 ((a3.getD (Int.toNat v32) z_api_Slice).H)), (11, 61, int .i64 (w64 (((a3.getD (Int.toNat v32) z_api_Slice).Y) + ((a3.getD (Int.toNat v32) z_api_Slice).H)))), (12, 62, int .i64 (max v47 (w64 (((a3.getD (Int.toNat v32) z_api_Slice).Y) + ((a3.getD (Int.toNat v32) z_api_Slice).H))))), (13, 63, slice A11 a10.length c12), (14, 64, int .i64 v32), (15, 65, pointer (some (ad443.add (Int.toNat v32 * 1)))), (16, 66, bool (a10.getD (Int.toNat v32) false)), (3, 53, slice (some ⟨g429, 0, none⟩) 1 1), (4, 54, slice A432 (v33 ++ [(a3.getD (Int.toNat v32) z_api_Slice)]).length c433), (17, 67, pointer (some ⟨g18, 0, none⟩)), (19, 68, pointer (some ⟨g18, 2, none⟩)), (21, 5, bool (a10.getD (Int.toNat v32) false))] D r ∧ Hp G' (bx g429 [int .i64 ((a3.getD (Int.toNat v32) z_api_Slice).Node), int .i64 ((a3.getD (Int.toNat v32) z_api_Slice).Table), int .i64 ((a3.getD (Int.toNat v32) z_api_Slice).X), int .i64 ((a3.getD (Int.toNat v32) z_api_Slice).Y), int .i64 ((a3.getD (Int.toNat v32) z_api_Slice).H), string ((a3.getD (Int.toNat v32) z_api_Slice).Text), bool ((a3.getD (Int.toNat v32) z_api_Slice).Head), bool ((a3.getD (Int.toNat v32) z_api_Slice).Note)] 36 :: bx g173 [int .i64 ((a3.getD (Int.toNat v32) z_api_Slice).Node), int .i64 ((a3.getD (Int.toNat v32) z_api_Slice).Table), int .i64 ((a3.getD (Int.toNat v32) z_api_Slice).X), int .i64 ((a3.getD (Int.toNat v32) z_api_Slice).Y), int .i64 ((a3.getD (Int.toNat v32) z_api_Slice).H), string ((a3.getD (Int.toNat v32) z_api_Slice).Text), bool ((a3.getD (Int.toNat v32) z_api_Slice).Head), bool ((a3.getD (Int.toNat v32) z_api_Slice).Note)] 36 :: bx g18 [slice A432 (v33 ++ [(a3.getD (Int.toNat v32) z_api_Slice)]).length c433, slice A41 v40.length c42, int .i64 (max v47 (w64 (((a3.getD (Int.toNat v32) z_api_Slice).Y) + ((a3.getD (Int.toNat v32) z_api_Slice).H))))] 64 :: bx g2 [slice A4 a3.length c5] 24 :: bx g9 [slice A11 a10.length c12] 25 :: tk (slice A432 (v33 ++ [(a3.getD (Int.toNat v32) z_api_Slice)]).length c433) 8 36 :: tk (slice A41 v40.length c42) 8 36 :: T48) w)) mixo z z ?_ ?_ ?_
 exact (.inl ⟨z, _, Gh.le_refl _, Regs.start ⟨z, z, z, z, z, z, z, z, tv⟩ trivial, hI222.drew⟩)
 refine ⟨?_, ?_, ?_, ?_, ?_, ?_, ?_, ?_, ?_, ?_, ?_, ?_, ?_, ?_, ?_, ?_, ?_, ?_, ?_, ?_, ?_, ?_, tv⟩
 rintro D r wd457 (⟨hd2, G453, hG454, hReg456, hI455⟩ | ⟨hd1, hd2, g429, G453, hG454, hReg456, hI455⟩ | ⟨hd1, hd2, g429, A432, c433, G453, hG454, hl438, hD439, ho437, hReg456, hI455⟩ | ⟨hd1, hd2, g429, A432, c433, G453, hG454, hl438, hD439, ho437, hReg456, hI455⟩ | ⟨hd1, g429, A432, c433, G453, hG454, hl438, hD439, ho437, hReg456, hI455⟩) hDi hpre hpost
 obtain ⟨r0, rfl⟩ := Has.ex (cC (hReg456.ins.get 2 rfl) cN)
 exact fa fl64_0 z<|nl ⟨z, (.inl ⟨hd2, _, hG454, (Regs.step hReg456 hDi z z z z), hI455⟩)⟩
 obtain ⟨r0, rfl⟩ := Has.ex (cC (hReg456.ins.get 2 rfl) cN)
 exact fa fl64_0 z<|nl ⟨z, (.inr (.inl ⟨hd1, hd2, g429, _, hG454, (Regs.step hReg456 hDi z z z z), hI455⟩))⟩
 cases (hpost 4 rfl).symm.trans hd1
 cases (hpost 18 rfl).symm.trans hd1
 cases (hpost 20 rfl).symm.trans hd1
 rintro D r wd457 (⟨hd2, G453, hG454, hReg456, hI455⟩ | ⟨hd1, hd2, g429, G453, hG454, hReg456, hI455⟩ | ⟨hd1, hd2, g429, A432, c433, G453, hG454, hl438, hD439, ho437, hReg456, hI455⟩ | ⟨hd1, hd2, g429, A432, c433, G453, hG454, hl438, hD439, ho437, hReg456, hI455⟩ | ⟨hd1, g429, A432, c433, G453, hG454, hl438, hD439, ho437, hReg456, hI455⟩) hDi hpre hpost
 obtain ⟨r0, rfl⟩ := Has.ex (cC (hReg456.get 0 rfl (hpre 0 rfl)) cN)
 exact ld hI455 1 ag24 z z z<|nl ⟨z, (.inl ⟨hd2, _, hG454, (Regs.step hReg456 hDi z z z z), hI455⟩)⟩
 obtain ⟨r0, rfl⟩ := Has.ex (cC (hReg456.get 0 rfl (hpre 0 rfl)) cN)
 exact ld hI455 2 ag24 z z z<|nl ⟨z, (.inr (.inl ⟨hd1, hd2, g429, _, hG454, (Regs.step hReg456 hDi z z z z), hI455⟩))⟩
 cases (hpost 4 rfl).symm.trans hd1
 cases (hpost 18 rfl).symm.trans hd1
 cases (hpost 20 rfl).symm.trans hd1
 rintro D r wd457 (⟨hd2, G453, hG454, hReg456, hI455⟩ | ⟨hd1, hd2, g429, G453, hG454, hReg456, hI455⟩ | ⟨hd1, hd2, g429, A432, c433, G453, hG454, hl438, hD439, ho437, hReg456, hI455⟩ | ⟨hd1, hd2, g429, A432, c433, G453, hG454, hl438, hD439, ho437, hReg456, hI455⟩ | ⟨hd1, g429, A432, c433, G453, hG454, hl438, hD439, ho437, hReg456, hI455⟩) hDi hpre hpost
 obtain ⟨r0, rfl⟩ := Has.ex (cC (hReg456.ins.get 4 rfl) cN)
 exact lda hI455 0 ag36 z z z z<|nl ⟨z, (.inl ⟨hd2, _, hG454, (Regs.step hReg456 hDi z z z z), hI455⟩)⟩
 cases (hpost 3 rfl).symm.trans hd1
 cases (hpost 4 rfl).symm.trans hd1
 cases (hpost 18 rfl).symm.trans hd1
 cases (hpost 20 rfl).symm.trans hd1
 rintro D r wd457 (⟨hd2, G453, hG454, hReg456, hI455⟩ | ⟨hd1, hd2, g429, G453, hG454, hReg456, hI455⟩ | ⟨hd1, hd2, g429, A432, c433, G453, hG454, hl438, hD439, ho437, hReg456, hI455⟩ | ⟨hd1, hd2, g429, A432, c433, G453, hG454, hl438, hD439, ho437, hReg456, hI455⟩ | ⟨hd1, g429, A432, c433, G453, hG454, hl438, hD439, ho437, hReg456, hI455⟩) hDi hpre hpost
 obtain ⟨r0, rfl⟩ := Has.ex (cC (hReg456.get 2 rfl (hpre 2 rfl)) cN)
 refine q_bs hI455 (vs := [(0, agg [int .i64 ((a3.getD (Int.toNat v32) z_api_Slice).Node), int .i64 ((a3.getD (Int.toNat v32) z_api_Slice).Table), int .i64 ((a3.getD (Int.toNat v32) z_api_Slice).X), int .i64 ((a3.getD (Int.toNat v32) z_api_Slice).Y), int .i64 ((a3.getD (Int.toNat v32) z_api_Slice).H), string ((a3.getD (Int.toNat v32) z_api_Slice).Text), bool ((a3.getD (Int.toNat v32) z_api_Slice).Head), bool ((a3.getD (Int.toNat v32) z_api_Slice).Note)].toArray)]) (cs := [int .i64 ((a3.getD (Int.toNat v32) z_api_Slice).Node), int .i64 ((a3.getD (Int.toNat v32) z_api_Slice).Table), int .i64 ((a3.getD (Int.toNat v32) z_api_Slice).X), int .i64 ((a3.getD (Int.toNat v32) z_api_Slice).Y), int .i64 ((a3.getD (Int.toNat v32) z_api_Slice).H), string ((a3.getD (Int.toNat v32) z_api_Slice).Text), bool ((a3.getD (Int.toNat v32) z_api_Slice).Head), bool ((a3.getD (Int.toNat v32) z_api_Slice).Note)]) el24 ze36 rfl (by decide) rfl (by kernel_rfl) (fun g429 wd430 hI431 => ?_)
 exact nl ⟨z, (.inr (.inl ⟨z, (hpost 4 z), g429, _, hG454, (Regs.step (Regs.more (new := [(3, 53, slice (some ⟨g429, 0, none⟩) 1 1)]) hReg456 (List.forall_mem_cons.2 ⟨hDi, (fun _ h => nomatch h)⟩)) hDi z z z z), hI431⟩))⟩
 cases hDi.symm.trans hd1
 cases (hpost 4 rfl).symm.trans hd1
 cases (hpost 18 rfl).symm.trans hd1
 cases (hpost 20 rfl).symm.trans hd1
 rintro D r wd457 (⟨hd2, G453, hG454, hReg456, hI455⟩ | ⟨hd1, hd2, g429, G453, hG454, hReg456, hI455⟩ | ⟨hd1, hd2, g429, A432, c433, G453, hG454, hl438, hD439, ho437, hReg456, hI455⟩ | ⟨hd1, hd2, g429, A432, c433, G453, hG454, hl438, hD439, ho437, hReg456, hI455⟩ | ⟨hd1, g429, A432, c433, G453, hG454, hl438, hD439, ho437, hReg456, hI455⟩) hDi hpre hpost
 cases (hpre 3 rfl).symm.trans hd2
 obtain ⟨r0, rfl⟩ := Has.ex (cC (hReg456.get 1 rfl (hpre 1 rfl)) (cC (hReg456.get 15 rfl (hpre 3 rfl)) cN))
 refine q_app (xs := v33) (ys := [(a3.getD (Int.toNat v32) z_api_Slice)]) k_api_Slice hI455 5 el24 ze36 rfl rfl rfl rfl ho38 hl36 (Dat.mono hG454 hD37) (src_bx hI455 0 so24 rfl rfl) ⟨[int .i64 ((a3.getD (Int.toNat v32) z_api_Slice).Node), int .i64 ((a3.getD (Int.toNat v32) z_api_Slice).Table), int .i64 ((a3.getD (Int.toNat v32) z_api_Slice).X), int .i64 ((a3.getD (Int.toNat v32) z_api_Slice).Y), int .i64 ((a3.getD (Int.toNat v32) z_api_Slice).H), string ((a3.getD (Int.toNat v32) z_api_Slice).Text), bool ((a3.getD (Int.toNat v32) z_api_Slice).Head), bool ((a3.getD (Int.toNat v32) z_api_Slice).Note)], _, rfl, (mk_api_Slice (x := (a3.getD (Int.toNat v32) z_api_Slice))), rfl⟩ rfl (by simp only [List.length_cons, List.length_nil]; omega) (by simp only [List.length_cons, List.length_nil]; omega) (fun A432 c433 G434 wd435 hG436 ho437 hl438 hD439 hI440 => ?_)
 exact nl ⟨z, (.inr (.inr (.inl ⟨z, (hpost 18 z), g429, A432, c433, _, (gT hG454 hG436), hl438, hD439, ho437, (Regs.step (Regs.more (new := [(4, 54, slice A432 (v33 ++ [(a3.getD (Int.toNat v32) z_api_Slice)]).length c433), (17, 67, pointer (some ⟨g18, 0, none⟩))]) hReg456 (List.forall_mem_cons.2 ⟨hDi, (List.forall_mem_cons.2 ⟨hpost 17 z, (fun _ h => nomatch h)⟩)⟩)) hDi z z z z), hI440⟩)))⟩
 cases hDi.symm.trans hd1
 cases (hpost 18 rfl).symm.trans hd1
 cases (hpost 20 rfl).symm.trans hd1
 rintro D r wd457 (⟨hd2, G453, hG454, hReg456, hI455⟩ | ⟨hd1, hd2, g429, G453, hG454, hReg456, hI455⟩ | ⟨hd1, hd2, g429, A432, c433, G453, hG454, hl438, hD439, ho437, hReg456, hI455⟩ | ⟨hd1, hd2, g429, A432, c433, G453, hG454, hl438, hD439, ho437, hReg456, hI455⟩ | ⟨hd1, g429, A432, c433, G453, hG454, hl438, hD439, ho437, hReg456, hI455⟩) hDi hpre hpost
 obtain ⟨r0, rfl⟩ := Has.ex (cC (hReg456.ins.get 2 rfl) cN)
 exact fa fl64_2 z<|nl ⟨z, (.inl ⟨hd2, _, hG454, (Regs.step hReg456 hDi z z z z), hI455⟩)⟩
 obtain ⟨r0, rfl⟩ := Has.ex (cC (hReg456.ins.get 2 rfl) cN)
 exact fa fl64_2 z<|nl ⟨z, (.inr (.inl ⟨hd1, hd2, g429, _, hG454, (Regs.step hReg456 hDi z z z z), hI455⟩))⟩
 obtain ⟨r0, rfl⟩ := Has.ex (cC (hReg456.ins.get 2 rfl) cN)
 exact fa fl64_2 z<|nl ⟨z, (.inr (.inr (.inl ⟨hd1, hd2, g429, A432, c433, _, hG454, hl438, hD439, ho437, (Regs.step hReg456 hDi z z z z), hI455⟩)))⟩
 cases (hpost 18 rfl).symm.trans hd1
 cases (hpost 20 rfl).symm.trans hd1
 rintro D r wd457 (⟨hd2, G453, hG454, hReg456, hI455⟩ | ⟨hd1, hd2, g429, G453, hG454, hReg456, hI455⟩ | ⟨hd1, hd2, g429, A432, c433, G453, hG454, hl438, hD439, ho437, hReg456, hI455⟩ | ⟨hd1, hd2, g429, A432, c433, G453, hG454, hl438, hD439, ho437, hReg456, hI455⟩ | ⟨hd1, g429, A432, c433, G453, hG454, hl438, hD439, ho437, hReg456, hI455⟩) hDi hpre hpost
 obtain ⟨r0, rfl⟩ := Has.ex (cC (hReg456.get 3 rfl (hpre 5 rfl)) cN)
 exact ld hI455 1 ag3 z z z<|nl ⟨z, (.inl ⟨hd2, _, hG454, (Regs.step hReg456 hDi z z z z), hI455⟩)⟩
 obtain ⟨r0, rfl⟩ := Has.ex (cC (hReg456.get 3 rfl (hpre 5 rfl)) cN)
 exact ld hI455 2 ag3 z z z<|nl ⟨z, (.inr (.inl ⟨hd1, hd2, g429, _, hG454, (Regs.step hReg456 hDi z z z z), hI455⟩))⟩
 obtain ⟨r0, rfl⟩ := Has.ex (cC (hReg456.get 3 rfl (hpre 5 rfl)) cN)
 exact ld hI455 2 ag3 z z z<|nl ⟨z, (.inr (.inr (.inl ⟨hd1, hd2, g429, A432, c433, _, hG454, hl438, hD439, ho437, (Regs.step hReg456 hDi z z z z), hI455⟩)))⟩
 cases (hpost 18 rfl).symm.trans hd1
 cases (hpost 20 rfl).symm.trans hd1
 rintro D r wd457 (⟨hd2, G453, hG454, hReg456, hI455⟩ | ⟨hd1, hd2, g429, G453, hG454, hReg456, hI455⟩ | ⟨hd1, hd2, g429, A432, c433, G453, hG454, hl438, hD439, ho437, hReg456, hI455⟩ | ⟨hd1, hd2, g429, A432, c433, G453, hG454, hl438, hD439, ho437, hReg456, hI455⟩ | ⟨hd1, g429, A432, c433, G453, hG454, hl438, hD439, ho437, hReg456, hI455⟩) hDi hpre hpost
 obtain ⟨r0, rfl⟩ := Has.ex (cC (hReg456.ins.get 4 rfl) cN)
 exact fa fl36_3 z<|nl ⟨z, (.inl ⟨hd2, _, hG454, (Regs.step hReg456 hDi z z z z), hI455⟩)⟩
 obtain ⟨r0, rfl⟩ := Has.ex (cC (hReg456.ins.get 4 rfl) cN)
 exact fa fl36_3 z<|nl ⟨z, (.inr (.inl ⟨hd1, hd2, g429, _, hG454, (Regs.step hReg456 hDi z z z z), hI455⟩))⟩
 obtain ⟨r0, rfl⟩ := Has.ex (cC (hReg456.ins.get 4 rfl) cN)
 exact fa fl36_3 z<|nl ⟨z, (.inr (.inr (.inl ⟨hd1, hd2, g429, A432, c433, _, hG454, hl438, hD439, ho437, (Regs.step hReg456 hDi z z z z), hI455⟩)))⟩
 obtain ⟨r0, rfl⟩ := Has.ex (cC (hReg456.ins.get 4 rfl) cN)
 exact fa fl36_3 z<|nl ⟨z, (.inr (.inr (.inr (.inl ⟨hd1, hd2, g429, A432, c433, _, hG454, hl438, hD439, ho437, (Regs.step hReg456 hDi z z z z), hI455⟩))))⟩
 cases (hpost 20 rfl).symm.trans hd1
 rintro D r wd457 (⟨hd2, G453, hG454, hReg456, hI455⟩ | ⟨hd1, hd2, g429, G453, hG454, hReg456, hI455⟩ | ⟨hd1, hd2, g429, A432, c433, G453, hG454, hl438, hD439, ho437, hReg456, hI455⟩ | ⟨hd1, hd2, g429, A432, c433, G453, hG454, hl438, hD439, ho437, hReg456, hI455⟩ | ⟨hd1, g429, A432, c433, G453, hG454, hl438, hD439, ho437, hReg456, hI455⟩) hDi hpre hpost
 obtain ⟨r0, rfl⟩ := Has.ex (cC (hReg456.get 5 rfl (hpre 7 rfl)) cN)
 exact ld hI455 0 ag3 z z z<|nl ⟨z, (.inl ⟨hd2, _, hG454, (Regs.step hReg456 hDi z z z z), hI455⟩)⟩
 obtain ⟨r0, rfl⟩ := Has.ex (cC (hReg456.get 5 rfl (hpre 7 rfl)) cN)
 exact ld hI455 1 ag3 z z z<|nl ⟨z, (.inr (.inl ⟨hd1, hd2, g429, _, hG454, (Regs.step hReg456 hDi z z z z), hI455⟩))⟩
 obtain ⟨r0, rfl⟩ := Has.ex (cC (hReg456.get 5 rfl (hpre 7 rfl)) cN)
 exact ld hI455 1 ag3 z z z<|nl ⟨z, (.inr (.inr (.inl ⟨hd1, hd2, g429, A432, c433, _, hG454, hl438, hD439, ho437, (Regs.step hReg456 hDi z z z z), hI455⟩)))⟩
 obtain ⟨r0, rfl⟩ := Has.ex (cC (hReg456.get 5 rfl (hpre 7 rfl)) cN)
 exact ld hI455 1 ag3 z z z<|nl ⟨z, (.inr (.inr (.inr (.inl ⟨hd1, hd2, g429, A432, c433, _, hG454, hl438, hD439, ho437, (Regs.step hReg456 hDi z z z z), hI455⟩))))⟩
 cases (hpost 20 rfl).symm.trans hd1
 rintro D r wd457 (⟨hd2, G453, hG454, hReg456, hI455⟩ | ⟨hd1, hd2, g429, G453, hG454, hReg456, hI455⟩ | ⟨hd1, hd2, g429, A432, c433, G453, hG454, hl438, hD439, ho437, hReg456, hI455⟩ | ⟨hd1, hd2, g429, A432, c433, G453, hG454, hl438, hD439, ho437, hReg456, hI455⟩ | ⟨hd1, g429, A432, c433, G453, hG454, hl438, hD439, ho437, hReg456, hI455⟩) hDi hpre hpost
 obtain ⟨r0, rfl⟩ := Has.ex (cC (hReg456.ins.get 4 rfl) cN)
 exact fa fl36_4 z<|nl ⟨z, (.inl ⟨hd2, _, hG454, (Regs.step hReg456 hDi z z z z), hI455⟩)⟩
 obtain ⟨r0, rfl⟩ := Has.ex (cC (hReg456.ins.get 4 rfl) cN)
 exact fa fl36_4 z<|nl ⟨z, (.inr (.inl ⟨hd1, hd2, g429, _, hG454, (Regs.step hReg456 hDi z z z z), hI455⟩))⟩
 obtain ⟨r0, rfl⟩ := Has.ex (cC (hReg456.ins.get 4 rfl) cN)
 exact fa fl36_4 z<|nl ⟨z, (.inr (.inr (.inl ⟨hd1, hd2, g429, A432, c433, _, hG454, hl438, hD439, ho437, (Regs.step hReg456 hDi z z z z), hI455⟩)))⟩
 obtain ⟨r0, rfl⟩ := Has.ex (cC (hReg456.ins.get 4 rfl) cN)
 exact fa fl36_4 z<|nl ⟨z, (.inr (.inr (.inr (.inl ⟨hd1, hd2, g429, A432, c433, _, hG454, hl438, hD439, ho437, (Regs.step hReg456 hDi z z z z), hI455⟩))))⟩
 cases (hpost 20 rfl).symm.trans hd1
 rintro D r wd457 (⟨hd2, G453, hG454, hReg456, hI455⟩ | ⟨hd1, hd2, g429, G453, hG454, hReg456, hI455⟩ | ⟨hd1, hd2, g429, A432, c433, G453, hG454, hl438, hD439, ho437, hReg456, hI455⟩ | ⟨hd1, hd2, g429, A432, c433, G453, hG454, hl438, hD439, ho437, hReg456, hI455⟩ | ⟨hd1, g429, A432, c433, G453, hG454, hl438, hD439, ho437, hReg456, hI455⟩) hDi hpre hpost
 obtain ⟨r0, rfl⟩ := Has.ex (cC (hReg456.get 7 rfl (hpre 9 rfl)) cN)
 exact ld hI455 0 ag3 z z z<|nl ⟨z, (.inl ⟨hd2, _, hG454, (Regs.step hReg456 hDi z z z z), hI455⟩)⟩
 obtain ⟨r0, rfl⟩ := Has.ex (cC (hReg456.get 7 rfl (hpre 9 rfl)) cN)
 exact ld hI455 1 ag3 z z z<|nl ⟨z, (.inr (.inl ⟨hd1, hd2, g429, _, hG454, (Regs.step hReg456 hDi z z z z), hI455⟩))⟩
 obtain ⟨r0, rfl⟩ := Has.ex (cC (hReg456.get 7 rfl (hpre 9 rfl)) cN)
 exact ld hI455 1 ag3 z z z<|nl ⟨z, (.inr (.inr (.inl ⟨hd1, hd2, g429, A432, c433, _, hG454, hl438, hD439, ho437, (Regs.step hReg456 hDi z z z z), hI455⟩)))⟩
 obtain ⟨r0, rfl⟩ := Has.ex (cC (hReg456.get 7 rfl (hpre 9 rfl)) cN)
 exact ld hI455 1 ag3 z z z<|nl ⟨z, (.inr (.inr (.inr (.inl ⟨hd1, hd2, g429, A432, c433, _, hG454, hl438, hD439, ho437, (Regs.step hReg456 hDi z z z z), hI455⟩))))⟩
 cases (hpost 20 rfl).symm.trans hd1
 rintro D r wd457 (⟨hd2, G453, hG454, hReg456, hI455⟩ | ⟨hd1, hd2, g429, G453, hG454, hReg456, hI455⟩ | ⟨hd1, hd2, g429, A432, c433, G453, hG454, hl438, hD439, ho437, hReg456, hI455⟩ | ⟨hd1, hd2, g429, A432, c433, G453, hG454, hl438, hD439, ho437, hReg456, hI455⟩ | ⟨hd1, g429, A432, c433, G453, hG454, hl438, hD439, ho437, hReg456, hI455⟩) hDi hpre hpost
 obtain ⟨r0, rfl⟩ := Has.ex (cC (hReg456.get 6 rfl (hpre 8 rfl)) (cC (hReg456.get 8 rfl (hpre 10 rfl)) cN))
 exact q_add z z<|nl ⟨z, (.inl ⟨hd2, _, hG454, (Regs.step hReg456 hDi z z z z), hI455⟩)⟩
 obtain ⟨r0, rfl⟩ := Has.ex (cC (hReg456.get 6 rfl (hpre 8 rfl)) (cC (hReg456.get 8 rfl (hpre 10 rfl)) cN))
 exact q_add z z<|nl ⟨z, (.inr (.inl ⟨hd1, hd2, g429, _, hG454, (Regs.step hReg456 hDi z z z z), hI455⟩))⟩
 obtain ⟨r0, rfl⟩ := Has.ex (cC (hReg456.get 6 rfl (hpre 8 rfl)) (cC (hReg456.get 8 rfl (hpre 10 rfl)) cN))
 exact q_add z z<|nl ⟨z, (.inr (.inr (.inl ⟨hd1, hd2, g429, A432, c433, _, hG454, hl438, hD439, ho437, (Regs.step hReg456 hDi z z z z), hI455⟩)))⟩
 obtain ⟨r0, rfl⟩ := Has.ex (cC (hReg456.get 6 rfl (hpre 8 rfl)) (cC (hReg456.get 8 rfl (hpre 10 rfl)) cN))
 exact q_add z z<|nl ⟨z, (.inr (.inr (.inr (.inl ⟨hd1, hd2, g429, A432, c433, _, hG454, hl438, hD439, ho437, (Regs.step hReg456 hDi z z z z), hI455⟩))))⟩
 cases (hpost 20 rfl).symm.trans hd1
 rintro D r wd457 (⟨hd2, G453, hG454, hReg456, hI455⟩ | ⟨hd1, hd2, g429, G453, hG454, hReg456, hI455⟩ | ⟨hd1, hd2, g429, A432, c433, G453, hG454, hl438, hD439, ho437, hReg456, hI455⟩ | ⟨hd1, hd2, g429, A432, c433, G453, hG454, hl438, hD439, ho437, hReg456, hI455⟩ | ⟨hd1, g429, A432, c433, G453, hG454, hl438, hD439, ho437, hReg456, hI455⟩) hDi hpre hpost
 obtain ⟨r0, rfl⟩ := Has.ex (cC (hReg456.get 4 rfl (hpre 6 rfl)) (cC (hReg456.get 9 rfl (hpre 11 rfl)) cN))
 exact q_max z z<|nl ⟨z, (.inl ⟨hd2, _, hG454, (Regs.step hReg456 hDi z z z z), hI455⟩)⟩
 obtain ⟨r0, rfl⟩ := Has.ex (cC (hReg456.get 4 rfl (hpre 6 rfl)) (cC (hReg456.get 9 rfl (hpre 11 rfl)) cN))
 exact q_max z z<|nl ⟨z, (.inr (.inl ⟨hd1, hd2, g429, _, hG454, (Regs.step hReg456 hDi z z z z), hI455⟩))⟩
 obtain ⟨r0, rfl⟩ := Has.ex (cC (hReg456.get 4 rfl (hpre 6 rfl)) (cC (hReg456.get 9 rfl (hpre 11 rfl)) cN))
 exact q_max z z<|nl ⟨z, (.inr (.inr (.inl ⟨hd1, hd2, g429, A432, c433, _, hG454, hl438, hD439, ho437, (Regs.step hReg456 hDi z z z z), hI455⟩)))⟩
 obtain ⟨r0, rfl⟩ := Has.ex (cC (hReg456.get 4 rfl (hpre 6 rfl)) (cC (hReg456.get 9 rfl (hpre 11 rfl)) cN))
 exact q_max z z<|nl ⟨z, (.inr (.inr (.inr (.inl ⟨hd1, hd2, g429, A432, c433, _, hG454, hl438, hD439, ho437, (Regs.step hReg456 hDi z z z z), hI455⟩))))⟩
 cases (hpost 20 rfl).symm.trans hd1
 rintro D r wd457 (⟨hd2, G453, hG454, hReg456, hI455⟩ | ⟨hd1, hd2, g429, G453, hG454, hReg456, hI455⟩ | ⟨hd1, hd2, g429, A432, c433, G453, hG454, hl438, hD439, ho437, hReg456, hI455⟩ | ⟨hd1, hd2, g429, A432, c433, G453, hG454, hl438, hD439, ho437, hReg456, hI455⟩ | ⟨hd1, g429, A432, c433, G453, hG454, hl438, hD439, ho437, hReg456, hI455⟩) hDi hpre hpost
 obtain ⟨r0, rfl⟩ := Has.ex (cC (hReg456.ins.get 1 rfl) cN)
 exact ld hI455 3 ag25 z z z<|nl ⟨z, (.inl ⟨hd2, _, hG454, (Regs.step hReg456 hDi z z z z), hI455⟩)⟩
 obtain ⟨r0, rfl⟩ := Has.ex (cC (hReg456.ins.get 1 rfl) cN)
 exact ld hI455 4 ag25 z z z<|nl ⟨z, (.inr (.inl ⟨hd1, hd2, g429, _, hG454, (Regs.step hReg456 hDi z z z z), hI455⟩))⟩
 obtain ⟨r0, rfl⟩ := Has.ex (cC (hReg456.ins.get 1 rfl) cN)
 exact ld hI455 4 ag25 z z z<|nl ⟨z, (.inr (.inr (.inl ⟨hd1, hd2, g429, A432, c433, _, hG454, hl438, hD439, ho437, (Regs.step hReg456 hDi z z z z), hI455⟩)))⟩
 obtain ⟨r0, rfl⟩ := Has.ex (cC (hReg456.ins.get 1 rfl) cN)
 exact ld hI455 4 ag25 z z z<|nl ⟨z, (.inr (.inr (.inr (.inl ⟨hd1, hd2, g429, A432, c433, _, hG454, hl438, hD439, ho437, (Regs.step hReg456 hDi z z z z), hI455⟩))))⟩
 obtain ⟨r0, rfl⟩ := Has.ex (cC (hReg456.ins.get 1 rfl) cN)
 exact ld hI455 4 ag25 z z z<|nl ⟨z, (.inr (.inr (.inr (.inr ⟨hd1, g429, A432, c433, _, hG454, hl438, hD439, ho437, (Regs.step hReg456 hDi z z z z), hI455⟩))))⟩
 rintro D r wd457 (⟨hd2, G453, hG454, hReg456, hI455⟩ | ⟨hd1, hd2, g429, G453, hG454, hReg456, hI455⟩ | ⟨hd1, hd2, g429, A432, c433, G453, hG454, hl438, hD439, ho437, hReg456, hI455⟩ | ⟨hd1, hd2, g429, A432, c433, G453, hG454, hl438, hD439, ho437, hReg456, hI455⟩ | ⟨hd1, g429, A432, c433, G453, hG454, hl438, hD439, ho437, hReg456, hI455⟩) hDi hpre hpost
 obtain ⟨r0, rfl⟩ := Has.ex (cC (hReg456.ins.get 3 rfl) cN)
 exact mv z<|nl ⟨z, (.inl ⟨hd2, _, hG454, (Regs.step hReg456 hDi z z z z), hI455⟩)⟩
 obtain ⟨r0, rfl⟩ := Has.ex (cC (hReg456.ins.get 3 rfl) cN)
 exact mv z<|nl ⟨z, (.inr (.inl ⟨hd1, hd2, g429, _, hG454, (Regs.step hReg456 hDi z z z z), hI455⟩))⟩
 obtain ⟨r0, rfl⟩ := Has.ex (cC (hReg456.ins.get 3 rfl) cN)
 exact mv z<|nl ⟨z, (.inr (.inr (.inl ⟨hd1, hd2, g429, A432, c433, _, hG454, hl438, hD439, ho437, (Regs.step hReg456 hDi z z z z), hI455⟩)))⟩
 obtain ⟨r0, rfl⟩ := Has.ex (cC (hReg456.ins.get 3 rfl) cN)
 exact mv z<|nl ⟨z, (.inr (.inr (.inr (.inl ⟨hd1, hd2, g429, A432, c433, _, hG454, hl438, hD439, ho437, (Regs.step hReg456 hDi z z z z), hI455⟩))))⟩
 obtain ⟨r0, rfl⟩ := Has.ex (cC (hReg456.ins.get 3 rfl) cN)
 exact mv z<|nl ⟨z, (.inr (.inr (.inr (.inr ⟨hd1, g429, A432, c433, _, hG454, hl438, hD439, ho437, (Regs.step hReg456 hDi z z z z), hI455⟩))))⟩
 rintro D r wd457 (⟨hd2, G453, hG454, hReg456, hI455⟩ | ⟨hd1, hd2, g429, G453, hG454, hReg456, hI455⟩ | ⟨hd1, hd2, g429, A432, c433, G453, hG454, hl438, hD439, ho437, hReg456, hI455⟩ | ⟨hd1, hd2, g429, A432, c433, G453, hG454, hl438, hD439, ho437, hReg456, hI455⟩ | ⟨hd1, g429, A432, c433, G453, hG454, hl438, hD439, ho437, hReg456, hI455⟩) hDi hpre hpost
 obtain ⟨r0, rfl⟩ := Has.ex (cC (hReg456.get 11 rfl (hpre 13 rfl)) (cC (hReg456.get 12 rfl (hpre 14 rfl)) cN))
 exact q_ia el25 z hA445 z h442 h442'<|nl ⟨z, (.inl ⟨hd2, _, hG454, (Regs.step hReg456 hDi z z z z), hI455⟩)⟩
 obtain ⟨r0, rfl⟩ := Has.ex (cC (hReg456.get 11 rfl (hpre 13 rfl)) (cC (hReg456.get 12 rfl (hpre 14 rfl)) cN))
 exact q_ia el25 z hA445 z h442 h442'<|nl ⟨z, (.inr (.inl ⟨hd1, hd2, g429, _, hG454, (Regs.step hReg456 hDi z z z z), hI455⟩))⟩
 obtain ⟨r0, rfl⟩ := Has.ex (cC (hReg456.get 11 rfl (hpre 13 rfl)) (cC (hReg456.get 12 rfl (hpre 14 rfl)) cN))
 exact q_ia el25 z hA445 z h442 h442'<|nl ⟨z, (.inr (.inr (.inl ⟨hd1, hd2, g429, A432, c433, _, hG454, hl438, hD439, ho437, (Regs.step hReg456 hDi z z z z), hI455⟩)))⟩
 obtain ⟨r0, rfl⟩ := Has.ex (cC (hReg456.get 11 rfl (hpre 13 rfl)) (cC (hReg456.get 12 rfl (hpre 14 rfl)) cN))
 exact q_ia el25 z hA445 z h442 h442'<|nl ⟨z, (.inr (.inr (.inr (.inl ⟨hd1, hd2, g429, A432, c433, _, hG454, hl438, hD439, ho437, (Regs.step hReg456 hDi z z z z), hI455⟩))))⟩
 obtain ⟨r0, rfl⟩ := Has.ex (cC (hReg456.get 11 rfl (hpre 13 rfl)) (cC (hReg456.get 12 rfl (hpre 14 rfl)) cN))
 exact q_ia el25 z hA445 z h442 h442'<|nl ⟨z, (.inr (.inr (.inr (.inr ⟨hd1, g429, A432, c433, _, hG454, hl438, hD439, ho437, (Regs.step hReg456 hDi z z z z), hI455⟩))))⟩
 rintro D r wd457 (⟨hd2, G453, hG454, hReg456, hI455⟩ | ⟨hd1, hd2, g429, G453, hG454, hReg456, hI455⟩ | ⟨hd1, hd2, g429, A432, c433, G453, hG454, hl438, hD439, ho437, hReg456, hI455⟩ | ⟨hd1, hd2, g429, A432, c433, G453, hG454, hl438, hD439, ho437, hReg456, hI455⟩ | ⟨hd1, g429, A432, c433, G453, hG454, hl438, hD439, ho437, hReg456, hI455⟩) hDi hpre hpost
 obtain ⟨r0, rfl⟩ := Has.ex (cC (hReg456.get 13 rfl (hpre 15 rfl)) cN)
 exact q_lf hI455 ag4 z (hG454.cel _ _ (hc448 0 _ z))<|nl ⟨z, (.inl ⟨hd2, _, hG454, (Regs.step hReg456 hDi z z z z), hI455⟩)⟩
 obtain ⟨r0, rfl⟩ := Has.ex (cC (hReg456.get 13 rfl (hpre 15 rfl)) cN)
 exact q_lf hI455 ag4 z (hG454.cel _ _ (hc448 0 _ z))<|nl ⟨z, (.inr (.inl ⟨hd1, hd2, g429, _, hG454, (Regs.step hReg456 hDi z z z z), hI455⟩))⟩
 obtain ⟨r0, rfl⟩ := Has.ex (cC (hReg456.get 13 rfl (hpre 15 rfl)) cN)
 exact q_lf hI455 ag4 z (hG454.cel _ _ (hc448 0 _ z))<|nl ⟨z, (.inr (.inr (.inl ⟨hd1, hd2, g429, A432, c433, _, hG454, hl438, hD439, ho437, (Regs.step hReg456 hDi z z z z), hI455⟩)))⟩
 obtain ⟨r0, rfl⟩ := Has.ex (cC (hReg456.get 13 rfl (hpre 15 rfl)) cN)
 exact q_lf hI455 ag4 z (hG454.cel _ _ (hc448 0 _ z))<|nl ⟨z, (.inr (.inr (.inr (.inl ⟨hd1, hd2, g429, A432, c433, _, hG454, hl438, hD439, ho437, (Regs.step hReg456 hDi z z z z), hI455⟩))))⟩
 obtain ⟨r0, rfl⟩ := Has.ex (cC (hReg456.get 13 rfl (hpre 15 rfl)) cN)
 exact q_lf hI455 ag4 z (hG454.cel _ _ (hc448 0 _ z))<|nl ⟨z, (.inr (.inr (.inr (.inr ⟨hd1, g429, A432, c433, _, hG454, hl438, hD439, ho437, (Regs.step hReg456 hDi z z z z), hI455⟩))))⟩
 rintro D r wd457 (⟨hd2, G453, hG454, hReg456, hI455⟩ | ⟨hd1, hd2, g429, G453, hG454, hReg456, hI455⟩ | ⟨hd1, hd2, g429, A432, c433, G453, hG454, hl438, hD439, ho437, hReg456, hI455⟩ | ⟨hd1, hd2, g429, A432, c433, G453, hG454, hl438, hD439, ho437, hReg456, hI455⟩ | ⟨hd1, g429, A432, c433, G453, hG454, hl438, hD439, ho437, hReg456, hI455⟩) hDi hpre hpost
 cases (hpre 3 rfl).symm.trans hd2
 cases (hpre 4 rfl).symm.trans hd2
 obtain ⟨r0, rfl⟩ := Has.ex (cC (hReg456.ins.get 2 rfl) cN)
 exact fa fl64_0 z<|nl ⟨z, (.inr (.inr (.inl ⟨hd1, hd2, g429, A432, c433, _, hG454, hl438, hD439, ho437, (Regs.step hReg456 hDi z z z z), hI455⟩)))⟩
 cases (hpost 18 rfl).symm.trans hd1
 cases (hpost 20 rfl).symm.trans hd1
 rintro D r wd457 (⟨hd2, G453, hG454, hReg456, hI455⟩ | ⟨hd1, hd2, g429, G453, hG454, hReg456, hI455⟩ | ⟨hd1, hd2, g429, A432, c433, G453, hG454, hl438, hD439, ho437, hReg456, hI455⟩ | ⟨hd1, hd2, g429, A432, c433, G453, hG454, hl438, hD439, ho437, hReg456, hI455⟩ | ⟨hd1, g429, A432, c433, G453, hG454, hl438, hD439, ho437, hReg456, hI455⟩) hDi hpre hpost
 cases (hpre 3 rfl).symm.trans hd2
 cases (hpre 4 rfl).symm.trans hd2
 obtain ⟨r0, rfl⟩ := Has.ex (cC (hReg456.get 16 rfl (hpre 4 rfl)) (cC (hReg456.get 17 rfl (hpre 17 rfl)) cN))
 exact stk hI455 2 ag24 z z z z z z z fun wd449 hI450=>nl ⟨z, (.inr (.inr (.inr (.inl ⟨z, (hpost 20 z), g429, A432, c433, _, hG454, hl438, hD439, ho437, (Regs.stepN (Regs.more (new := [(19, 68, pointer (some ⟨g18, 2, none⟩))]) hReg456 (List.forall_mem_cons.2 ⟨hpost 19 z, (fun _ h => nomatch h)⟩)) z z), hI450⟩))))⟩
 cases hDi.symm.trans hd1
 cases (hpost 20 rfl).symm.trans hd1
 rintro D r wd457 (⟨hd2, G453, hG454, hReg456, hI455⟩ | ⟨hd1, hd2, g429, G453, hG454, hReg456, hI455⟩ | ⟨hd1, hd2, g429, A432, c433, G453, hG454, hl438, hD439, ho437, hReg456, hI455⟩ | ⟨hd1, hd2, g429, A432, c433, G453, hG454, hl438, hD439, ho437, hReg456, hI455⟩ | ⟨hd1, g429, A432, c433, G453, hG454, hl438, hD439, ho437, hReg456, hI455⟩) hDi hpre hpost
 cases (hpre 3 rfl).symm.trans hd2
 cases (hpre 4 rfl).symm.trans hd2
 cases (hpre 18 rfl).symm.trans hd2
 obtain ⟨r0, rfl⟩ := Has.ex (cC (hReg456.ins.get 2 rfl) cN)
 exact fa fl64_2 z<|nl ⟨z, (.inr (.inr (.inr (.inl ⟨hd1, hd2, g429, A432, c433, _, hG454, hl438, hD439, ho437, (Regs.step hReg456 hDi z z z z), hI455⟩))))⟩
 cases (hpost 20 rfl).symm.trans hd1
 rintro D r wd457 (⟨hd2, G453, hG454, hReg456, hI455⟩ | ⟨hd1, hd2, g429, G453, hG454, hReg456, hI455⟩ | ⟨hd1, hd2, g429, A432, c433, G453, hG454, hl438, hD439, ho437, hReg456, hI455⟩ | ⟨hd1, hd2, g429, A432, c433, G453, hG454, hl438, hD439, ho437, hReg456, hI455⟩ | ⟨hd1, g429, A432, c433, G453, hG454, hl438, hD439, ho437, hReg456, hI455⟩) hDi hpre hpost
 cases (hpre 3 rfl).symm.trans hd2
 cases (hpre 4 rfl).symm.trans hd2
 cases (hpre 18 rfl).symm.trans hd2
 obtain ⟨r0, rfl⟩ := Has.ex (cC (hReg456.get 10 rfl (hpre 12 rfl)) (cC (hReg456.get 18 rfl (hpre 19 rfl)) cN))
 exact stk hI455 2 ag3 z z z z z z z fun wd451 hI452=>nl ⟨z, (.inr (.inr (.inr (.inr ⟨z, g429, A432, c433, _, hG454, hl438, hD439, ho437, (Regs.stepN (Regs.more (new := [(21, 5, bool (a10.getD (Int.toNat v32) false))]) hReg456 (List.forall_mem_cons.2 ⟨hpost 21 z, (fun _ h => nomatch h)⟩)) z z), hI452⟩))))⟩
 cases hDi.symm.trans hd1
 rintro D r wd457 (⟨hd2, G453, hG454, hReg456, hI455⟩ | ⟨hd1, hd2, g429, G453, hG454, hReg456, hI455⟩ | ⟨hd1, hd2, g429, A432, c433, G453, hG454, hl438, hD439, ho437, hReg456, hI455⟩ | ⟨hd1, hd2, g429, A432, c433, G453, hG454, hl438, hD439, ho437, hReg456, hI455⟩ | ⟨hd1, g429, A432, c433, G453, hG454, hl438, hD439, ho437, hReg456, hI455⟩) hDi hpre hpost
 cases (hpre 3 rfl).symm.trans hd2
 cases (hpre 4 rfl).symm.trans hd2
 cases (hpre 18 rfl).symm.trans hd2
 cases (hpre 20 rfl).symm.trans hd2
 obtain ⟨r0, rfl⟩ := Has.ex (cC (hReg456.get 14 rfl (hpre 16 rfl)) cN)
 exact asn z<|nl ⟨z, (.inr (.inr (.inr (.inr ⟨hd1, g429, A432, c433, _, hG454, hl438, hD439, ho437, (Regs.step hReg456 hDi z z z z), hI455⟩))))⟩
 intro D r wd457 hall hR
 rcases hR with ⟨hd2, G453, hG454, hReg456, hI455⟩ | ⟨hd1, hd2, g429, G453, hG454, hReg456, hI455⟩ | ⟨hd1, hd2, g429, A432, c433, G453, hG454, hl438, hD439, ho437, hReg456, hI455⟩ | ⟨hd1, hd2, g429, A432, c433, G453, hG454, hl438, hD439, ho437, hReg456, hI455⟩ | ⟨hd1, g429, A432, c433, G453, hG454, hl438, hD439, ho437, hReg456, hI455⟩
 cases (hall 3 (Nat.le_of_ble_eq_true rfl)).symm.trans hd2
 cases (hall 4 (Nat.le_of_ble_eq_true rfl)).symm.trans hd2
 cases (hall 18 (Nat.le_of_ble_eq_true rfl)).symm.trans hd2
 cases (hall 20 (Nat.le_of_ble_eq_true rfl)).symm.trans hd2
 obtain ⟨r0, rfl⟩ := Has.ex (cC (hReg456.ins.get 0 rfl) (cC (hReg456.ins.get 1 rfl) (cC (hReg456.ins.get 2 rfl) (cC (hReg456.get 19 rfl (hall 21 (Nat.le_of_ble_eq_true rfl))) (cC (hReg456.ins.get 5 rfl) (cC (hReg456.ins.get 6 rfl) (cC (hReg456.ins.get 7 rfl) cN)))))))
 refine have hI463:=Hp.pick 7 [2, 3, 4, 5, 6] hI455 z;?_
 cases H
 exact ⟨z, T48, A432, c433, A41, c42, _, z, hG454, ⟨z, z, z, z, z, z, z, tv⟩, hI463, hl438, hD439, ho437, hl43, (Dat.mono hG454 hD44), ho45, (hy.mono hG454 hS50), tv⟩
 rcases o162 with v133 | ⟨v135, v136, v143, v150, v152⟩
 rintro e r ds wd156 ⟨rfl, T132, G154, rfl, hG155, hHas, hI157, hS134, _⟩
 rw [hHas.eq]; clear hHas
 cases H
 exact ⟨z, T132, A34, c35, A41, c42, _, z, (gT hG122 hG155), trivial, hI157, hl36, (Dat.mono hG155 hD37), ho38, hl43, (Dat.mono hG155 hD44), ho45, hS134, tv⟩
 rintro e r ds wd160 ⟨rfl, T151, A137, c138, A144, c145, G158, rfl, hG159, hHas, hI161, hl139, hD140, ho141, hl146, hD147, ho148, hS153, _⟩
 rw [hHas.eq]; clear hHas
 exact hK131 _ _ _<|wpc_region<|q_add z z<|mv z<|nl<|ih _ _ _ _ _ _ _ H T151 A137 c138 A144 c145 _ _ _ (gT hG122 hG159) ⟨z, z, z, z, z, z, z, tv⟩ hI161 hl139 hD140 ho141 hl146 hD147 ho148 hS153 z
 refine nK h129 H fun H=>wf (bN h129)<|wx<|?_
 cases H
 exact ⟨z, T48, A34, c35, A41, c42, _, z, hG122, ⟨z, z, tv⟩, hI124, hl36, hD37, ho38, hl43, hD44, ho45, hS50, tv⟩
 rcases o120 with ⟨v76, v83, v90, v92⟩ | ⟨v94, v101, v108, v110⟩
 rintro e r ds wd114 ⟨rfl, T91, A77, c78, A84, c85, G112, rfl, hG113, hHas, hI115, hl79, hD80, ho81, hl86, hD87, ho88, hS93, _⟩
 rw [hHas.eq]; clear hHas
 refine have hI474:=Hp.pick 5 [1, 2] hI115 z;?_
 cases H
 exact ⟨.inr z, z, _, z, T91, _, hG113, hI474, hS93, z⟩
 rintro e r ds wd118 ⟨rfl, T109, A95, c96, A102, c103, G116, rfl, hG117, hHas, hI119, hl97, hD98, ho99, hl104, hD105, ho106, hS111, _⟩
 rw [hHas.eq]; clear hHas
 refine hK24 _ _ _<|sr fun K475 hK476=>fa fl64_0 z<|ld hI119 0 ag24 z z z<|q_len so24 z<|fa fl64_1 z<|ld hI119 0 ag24 z z z<|q_len so24 z<|q_add z z<|q_gtr z z<|nl<|hK476 _ _ _<|dC (0 < (w64 ((v94.length : Int) + (v101.length : Int)))) (fun h477=>?_) fun h477=>?_
 refine yK h477 H fun H=>wt (bY h477)<|wpc_region<|mv z<|lda hI119 0 ag64 z z z z<|bK2 H fun s478 b479 hx480 H=>q_yl hy [bx g18 [slice A95 v94.length c96, slice A102 v101.length c103, int .i64 v108] 64, bx g2 [slice A4 a3.length c5] 24, bx g9 [slice A11 a10.length c12] 25, tk (slice A95 v94.length c96) 8 36, tk (slice A102 v101.length c103) 8 36] hI119 hS111 z z ⟨_, z, (mk_pages_band (x := (⟨v94, v101, v108⟩ : pages_band)) hl97 hD98 hl104 hD105)⟩ hx480 fun wd481 G482 T483 hG484 hS485 hI486=>nl<|have hI489:=Hp.pick 5 [1, 2] hI486 z;?_
 cases H
 exact ⟨.inl z, z, _, z, T483, _, (gT hG117 hG484), hI489, hS485, z⟩
 refine nK h477 H fun H=>wf (bN h477)<|ws<|have hI492:=Hp.pick 5 [1, 2] hI119 z;?_
 cases H
 exact ⟨.inl z, z, _, z, T109, _, hG117, hI492, hS111, z⟩
theorem pages_open_high_k1_spec {a3 : pages_open} {g2 A4 c5 A8 c9 A20 n21 c22 r1026 G L w} (H : pages_open_high_k1 a3 = some r1026) (hI : Hp G (bx g2 [int .i64 a3.sheet.Paper.Width, int .i64 a3.sheet.Paper.Height, int .i64 a3.sheet.Paper.Columns, int .i64 a3.sheet.Paper.Gap, int .i64 a3.sheet.Paper.Scale, int .i64 a3.sheet.Paper.Lang, slice A4 a3.placed.length c5, slice A8 a3.notes.length c9, slice A20 n21 c22] 67 :: tk (slice A4 a3.placed.length c5) 8 36 :: tk (slice A8 a3.notes.length c9) 8 36 :: rwI G (Kd.int .i64) A20 [] a3.fills [] c22 3 :: L) w) (hl6 : a3.placed.length ≤ c5) (hD7 : Dat k_api_Slice G A4 a3.placed) (ho16 : Own A4 c5) (hl10 : a3.notes.length ≤ c9) (hD11 : Dat k_api_Slice G A8 a3.notes) (ho18 : Own A8 c9) (hn23 : a3.fills.length = n21) (hM24 : Mw A20 A20 ([] : List Int).length n21 c22 c22 1) :
    Calls Try.prog 42 [pointer (some ⟨g2, 0, none⟩)].toArray w fun e w' => ∃ (G' : Gh), G ≤ G' ∧ Hp G' (bx g2 [int .i64 a3.sheet.Paper.Width, int .i64 a3.sheet.Paper.Height, int .i64 a3.sheet.Paper.Columns, int .i64 a3.sheet.Paper.Gap, int .i64 a3.sheet.Paper.Scale, int .i64 a3.sheet.Paper.Lang, slice A4 a3.placed.length c5, slice A8 a3.notes.length c9, slice A20 n21 c22] 67 :: tk (slice A4 a3.placed.length c5) 8 36 :: tk (slice A8 a3.notes.length c9) 8 36 :: rwI G' (Kd.int .i64) A20 [] a3.fills [] c22 3 :: L) w' ∧ e = .returned (int .i64 r1026) := by
 refine calls_intro (N := 20) Try.func42 z z (Nat.le_of_ble_eq_true z)<|?_
 unfold pages_open_high_k1 at H
 refine sr fun K26 hK27=>asn z<|nl<|hK27 _ _ _<|sr fun K28 hK29=>asn z<|nl<|hK29 _ _ _<|sQ fun K30 hK31=>sr fun K32 hK33=>mv z<|q_nc z<|fa fl67_3 z<|ld hI 0 ag65 z z z<|?_
 refine q_lenm so65 z hn23<|mv z<|nl<|hK33 _ _ _<|wb<|bK H fun v47 hC H=>?_
 refine wpc_mono (Q := fun e r ds w => e = .exit 0 ∧ ds = [] ∧ Has [(3, int .i64 v47)] r ∧ Hp G (bx g2 [int .i64 a3.sheet.Paper.Width, int .i64 a3.sheet.Paper.Height, int .i64 a3.sheet.Paper.Columns, int .i64 a3.sheet.Paper.Gap, int .i64 a3.sheet.Paper.Scale, int .i64 a3.sheet.Paper.Lang, slice A4 a3.placed.length c5, slice A8 a3.notes.length c9, slice A20 n21 c22] 67 :: tk (slice A4 a3.placed.length c5) 8 36 :: tk (slice A8 a3.notes.length c9) 8 36 :: rwI G (Kd.int .i64) A20 [] a3.fills [] c22 3 :: L) w ∧ True) ?_ ?_
 refine wpc_loop fun I hLp=>?_
 refine pages_open_high_k1_l46.partial_correctness a3 (fun v38 v39 o => ∀ (r : Rg) (w : World), Has [(3, int .i64 v38), (9, slice A20 n21 c22), (10, int .i64 (a3.fills.length : Int)), (11, int .i64 v39)] r → Hp G (bx g2 [int .i64 a3.sheet.Paper.Width, int .i64 a3.sheet.Paper.Height, int .i64 a3.sheet.Paper.Columns, int .i64 a3.sheet.Paper.Gap, int .i64 a3.sheet.Paper.Scale, int .i64 a3.sheet.Paper.Lang, slice A4 a3.placed.length c5, slice A8 a3.notes.length c9, slice A20 n21 c22] 67 :: tk (slice A4 a3.placed.length c5) 8 36 :: tk (slice A8 a3.notes.length c9) 8 36 :: rwI G (Kd.int .i64) A20 [] a3.fills [] c22 3 :: L) w → o = v47 → I r [] w) ?_ 0 0 _ hC _ _ ⟨rfl, rfl, rfl, rfl, tv⟩ hI rfl
 intro _ ih v38 v39 o H r wd55 hHas hI56 ho
 rw [ho] at H; clear ho
 rw [hHas.eq]; clear hHas
 refine hLp _ _ _<|sr fun K57 hK58=>q_lss z z<|nl<|hK58 _ _ _<|sQ fun K59 hK60=>dC (v39 < (a3.fills.length : Int)) (fun h61=>?_) fun h61=>?_
 refine yK h61 H fun H=>wt (bY h61)<|ws<|hK60 _ _ _<|sQ fun K62 hK63=>wb<|sr fun K64 hK65=>iK H fun⟨h66, h66'⟩H=>have hb67:=lt_n hn23 h66';?_
 obtain ⟨ad68, hA69⟩ := Mw.ad hM24 h66 hb67
 refine q_ia el65 z hA69 z h66 hb67<|?_
 obtain ⟨_, rfl, _, hc71⟩ := Hp.rwGet hI56 3 rfl hM24 hn23 hA69 (0 : Int) h66 hb67
 refine q_load1 (v := int .i64 (a3.fills.getD (Int.toNat v39) (0 : Int))) ag3 z (cell0 (hc71 0 _ z))<|asn z<|nl<|hK65 _ _ _<|wpc_region<|mv z<|mv z<|q_max z z<|asn z<|nl<|hK63 _ _ _<|wpc_region<|q_add z z<|mv z<|?_
 exact nl<|ih _ _ _ H _ _ ⟨z, z, z, z, tv⟩ hI56 z
 refine nK h61 H fun H=>wf (bN h61)<|wx<|?_
 cases H
 exact ⟨z, z, ⟨z, tv⟩, hI56, tv⟩
 rintro e r ds wd50 ⟨rfl, rfl, hHas, hI51, _⟩
 rw [hHas.eq]; clear hHas
 refine hK31 _ _ _<|sr fun K72 hK73=>mv z<|asn z<|nl<|hK73 _ _ _<|wr<|?_
 cases H
 exact ⟨.inr z, z, _, ⟨_, _, z, z, z⟩, _, gR, hI51, z⟩
end Go.Proofs.Ytlcfemplcaejgaa.LG
