/-
  The walks: each function computes its plain function: printed by a program out of the translation.
-/
import Derived.Test.YtiahgcidgbalkaaDoorSc
set_option linter.unusedVariables false
set_option linter.unusedSimpArgs false
set_option maxRecDepth 100000
namespace Go.Proofs.YtiahgcidgbalkaaDoor.LG
open Go Go.LG Go.RowKit
open Go.Lib Go.Shelf Go.Proofs
set_option maxHeartbeats 1000000 in
theorem formelaw08_BreaksKeeps_spec {a1 : api_Breaks} {a6 : ByteArray} {A2 : Option Addr} {c3 : Nat} {r1400 : Bool} {G : Gh} {L : List Itm} {w : World} (hI : Hp G (L) w) (hl4 : a1.Keep.length ≤ c3) (hD5 : Dat Kd.str G A2 a1.Keep) (hgl : Gl G) (H : formelaw08_BreaksKeeps a1 a6 = some r1400) :
    Calls Tryd.prog 5 [Value.agg [Value.int .i64 a1.Before, Value.int .i64 a1.Behind, Value.slice A2 a1.Keep.length c3].toArray, Value.string a6].toArray w fun e w' => ∃ (G' : Gh), G ≤ G' ∧ Hp G' (L) w' ∧ e = .returned (Value.bool r1400) := by
  refine calls_intro (N := 141) Tryd.func5 rfl rfl (Nat.le_of_ble_eq_true rfl) ?_
  unfold formelaw08_BreaksKeeps at H
  refine wpc_seq_k fun K7 hK8 => ?_
  refine wpc_region ?_
  refine q_box hI (v := Value.agg [Value.int .i64 a1.Before, Value.int .i64 a1.Behind, Value.slice A2 a1.Keep.length c3].toArray) (vs := [Value.int .i64 a1.Before, Value.int .i64 a1.Behind, Value.slice A2 a1.Keep.length c3]) rfl rfl (fun g10 wd11 hI12 => ?_)
  refine q_as (v := Value.bool false) rfl ?_
  refine wpq_nil ?_
  refine hK8 _ _ _ ?_
  refine wpc_seq_k fun K13 hK14 => ?_
  refine wpc_region ?_
  obtain ⟨y20, hy15, H⟩ := bind_some H
  refine q_cv (vs := []) bo9 rfl rfl (formelaw08_head_spec hI12 (hgl.mono (Gh.le_refl _)) hy15) ?_
  rintro _ wd18 ⟨G16, hG17, hI19, rfl⟩
  refine ⟨_, rfl, ?_⟩
  refine q_as (v := Value.bool y20) rfl ?_
  refine wpq_nil ?_
  refine hK14 _ _ _ ?_
  refine wpc_seq_k fun K21 hK22 => ?_
  refine wpc_seq_k fun K23 hK24 => ?_
  refine wpc_region ?_
  refine q_ldA hI19 0 (cs := [Value.int .i64 a1.Before, Value.int .i64 a1.Behind, Value.slice A2 a1.Keep.length c3]) ag24 rfl rfl rfl rfl ?_
  refine q_mv (v := Value.string a6) rfl ?_
  obtain ⟨y30, hy25, H⟩ := bind_some H
  refine q_cv (vs := [Value.agg [Value.int .i64 a1.Before, Value.int .i64 a1.Behind, Value.slice A2 a1.Keep.length c3].toArray, Value.string a6]) bo18 rfl rfl (formelaw08_usable_spec (a1 := a1) (a6 := a6) hI19 hl4 (Dat.mono hG17 hD5) hy25) ?_
  rintro _ wd28 ⟨G26, hG27, hI29, rfl⟩
  refine ⟨_, rfl, ?_⟩
  refine q_not rfl ?_
  refine wpq_nil ?_
  refine hK24 _ _ _ ?_
  by_cases h31 : (!y30) = true
  · replace H := ite_yes h31 H
    refine wpc_true (bval_yes h31) ?_
    refine wpc_seq_k fun K32 hK33 => ?_
    refine wpc_region ?_
    refine q_mv (v := Value.bool y20) rfl ?_
    refine q_as (v := Value.bool y20) rfl ?_
    refine wpq_nil ?_
    refine hK33 _ _ _ ?_
    refine wpc_ret ?_
    have hI34 := Hp.sub (L := bx g10 [Value.int .i64 a1.Before, Value.int .i64 a1.Behind, Value.slice A2 a1.Keep.length c3] 24 :: L) (L' := L) hI29 (List.Sublist.cons _ (List.Sublist.refl _))
    cases H
    exact ⟨.inr rfl, rfl, _, ⟨_, _, rfl, rfl, rfl⟩, _, (Gh.le_trans hG17 hG27), hI34, rfl⟩
  · replace H := ite_no h31 H
    refine wpc_false (bval_no h31) ?_
    refine wpc_skip ?_
    refine hK22 _ _ _ ?_
    refine wpc_seq_k fun K35 hK36 => ?_
    refine wpc_region ?_
    refine q_as (v := Value.slice none 0 0) rfl ?_
    refine wpq_nil ?_
    refine hK36 _ _ _ ?_
    refine wpc_seq_k fun K37 hK38 => ?_
    refine wpc_seq_k fun K39 hK40 => ?_
    refine wpc_region ?_
    refine q_as (v := Value.int .i64 0) rfl ?_
    refine wpq_nil ?_
    refine hK40 _ _ _ ?_
    refine wpc_block ?_
    obtain ⟨v66, hC, H⟩ := bind_some H
    refine wpc_mono (Q := fun e r ds w => e = .exit 0 ∧ ∃ (A67 : Option Addr) (c68 : Nat) (G73 : Gh), ds = [] ∧ G26 ≤ G73 ∧ Has [(1, Value.string a6), (2, Value.pointer (some ⟨g10, 0, none⟩)), (5, Value.bool y20), (6, Value.slice A67 v66.length c68)] r ∧ Hp G73 (bx g10 [Value.int .i64 a1.Before, Value.int .i64 a1.Behind, Value.slice A2 a1.Keep.length c3] 24 :: tk (Value.slice A67 v66.length c68) 1 5 :: L) w ∧ v66.length ≤ c68 ∧ Dat (Kd.int .u8) G73 A67 v66 ∧ Own A67 c68 ∧ True) ?_ ?_
    · clear H
      have hI131 := Hp.emp hI29
      have hI133 := Hp.front hI131 1 rfl
      refine wpc_loop fun I hLp => ?_
      refine formelaw08_BreaksKeeps_l65.partial_correctness a6 (fun v45 v52 o => ∀ (A46 : Option Addr) (c47 : Nat) (G78 : Gh) (r : Rg) (w : World), G26 ≤ G78 → Has [(1, Value.string a6), (2, Value.pointer (some ⟨g10, 0, none⟩)), (5, Value.bool y20), (6, Value.slice A46 v45.length c47), (7, Value.int .i64 v52)] r → Hp G78 (bx g10 [Value.int .i64 a1.Before, Value.int .i64 a1.Behind, Value.slice A2 a1.Keep.length c3] 24 :: tk (Value.slice A46 v45.length c47) 1 5 :: L) w → v45.length ≤ c47 → Dat (Kd.int .u8) G78 A46 v45 → Own A46 c47 → o = v66 → I r [] w) ?_ ([] : List Int) 0 _ hC none 0 _ _ _ (Gh.le_refl _) ⟨rfl, rfl, rfl, rfl, rfl, trivial⟩ hI133 (show ([] : List Int).length ≤ 0 from Nat.le_refl 0) (Dat.nil _ _ _) Own.nil rfl
      intro _ ih v45 v52 o H A46 c47 G78 r wd80 hG79 hHas hI81 hl48 hD49 ho50 ho
      rw [ho] at H; clear ho
      rw [hHas.eq]; clear hHas
      refine hLp _ _ _ ?_
      refine wpc_seq_k fun K82 hK83 => ?_
      refine wpc_seq_k fun K84 hK85 => ?_
      refine wpc_region ?_
      refine q_mv (v := Value.int .i64 v52) rfl ?_
      refine q_mv (v := Value.string a6) rfl ?_
      refine q_lens so9 rfl ?_
      refine q_lss rfl rfl ?_
      refine wpq_nil ?_
      refine hK85 _ _ _ ?_
      by_cases h86 : v52 < (a6.size : Int)
      · replace H := ite_yes h86 H
        refine wpc_true (bool_yes h86) ?_
        refine wpc_skip ?_
        refine hK83 _ _ _ ?_
        refine wpc_seq_k fun K87 hK88 => ?_
        obtain ⟨v89, hC, H⟩ := bind_some H
        refine wpc_mono (Q := fun e r ds w => e = .normal ∧ ∃ (A90 : Option Addr) (c91 : Nat) (G96 : Gh), ds = [] ∧ G78 ≤ G96 ∧ Has [(1, Value.string a6), (2, Value.pointer (some ⟨g10, 0, none⟩)), (5, Value.bool y20), (6, Value.slice A90 v89.length c91), (7, Value.int .i64 v52)] r ∧ Hp G96 (bx g10 [Value.int .i64 a1.Before, Value.int .i64 a1.Behind, Value.slice A2 a1.Keep.length c3] 24 :: tk (Value.slice A90 v89.length c91) 1 5 :: L) w ∧ v89.length ≤ c91 ∧ Dat (Kd.int .u8) G96 A90 v89 ∧ Own A90 c91 ∧ True) ?_ ?_
        · replace H := hC
          refine wpc_block ?_
          refine wpc_seq_k fun K101 hK102 => ?_
          refine wpc_region ?_
          refine q_mv (v := Value.string a6) rfl ?_
          refine q_mv (v := Value.int .i64 v52) rfl ?_
          obtain ⟨⟨h103, h103'⟩, H⟩ := ite_some H
          refine q_is so9 rfl rfl h103 h103' rfl ?_
          refine q_neq rfl rfl ?_
          refine q_mv (v := Value.bool (decide (¬ (bt a6 v52) = 32))) rfl ?_
          obtain ⟨v104, hC, H⟩ := bind_some H
          refine wpq_split 5 (K := fun e r ds w => e = .normal ∧ ∃ (G105 : Gh), ds = [] ∧ G78 ≤ G105 ∧ Has [(1, Value.string a6), (2, Value.pointer (some ⟨g10, 0, none⟩)), (5, Value.bool y20), (6, Value.slice A46 v45.length c47), (7, Value.int .i64 v52), (40, Value.bool v104)] r ∧ Hp G105 (bx g10 [Value.int .i64 a1.Before, Value.int .i64 a1.Behind, Value.slice A2 a1.Keep.length c3] 24 :: tk (Value.slice A46 v45.length c47) 1 5 :: L) w ∧ True) ?_ ?_
          · replace H := hC
            by_cases h110 : ¬ (bt a6 v52) = 32
            · replace H := ite_yes h110 H
              refine q_mv (v := Value.string a6) rfl ?_ (hw := guard_yes rfl rfl rfl (bool_yes h110))
              refine q_mv (v := Value.int .i64 v52) rfl ?_ (hw := guard_yes rfl rfl rfl (bool_yes h110))
              obtain ⟨⟨h111, h111'⟩, H⟩ := ite_some H
              refine q_is so9 rfl rfl h111 h111' rfl ?_ (hw := guard_yes rfl rfl rfl (bool_yes h110))
              refine q_neq rfl rfl ?_ (hw := guard_yes rfl rfl rfl (bool_yes h110))
              refine q_pick true (v := Value.bool (decide (¬ (bt a6 v52) = 126))) (bool_yes h110) rfl ?_
              refine wpq_nil ?_
              cases H
              exact ⟨rfl, _, rfl, (Gh.le_refl _), ⟨rfl, rfl, rfl, rfl, rfl, rfl, trivial⟩, hI81, trivial⟩
            · replace H := ite_no h110 H
              refine wpq_no (guard_no rfl rfl rfl (bool_no h110) rfl) ?_
              refine wpq_no (guard_no rfl rfl rfl (bool_no h110) rfl) ?_
              refine wpq_no (guard_no rfl rfl rfl (bool_no h110) rfl) ?_
              refine wpq_no (guard_no rfl rfl rfl (bool_no h110) rfl) ?_
              refine q_pick false (v := Value.bool false) (bool_no h110) rfl ?_
              refine wpq_nil ?_
              cases H
              exact ⟨rfl, _, rfl, (Gh.le_refl _), ⟨rfl, rfl, rfl, rfl, rfl, rfl, trivial⟩, hI81, trivial⟩
          · clear hC
            rintro e r ds wd107 ⟨rfl, G105, rfl, hG106, hHas, hI108, _⟩
            rw [hHas.eq]; clear hHas
            refine wpq_nil ?_
            refine hK102 _ _ _ ?_
            by_cases h112 : v104 = true
            · replace H := ite_yes h112 H
              refine wpc_true (bval_yes h112) ?_
              refine wpc_region ?_
              refine q_mv (v := Value.slice A46 v45.length c47) rfl ?_
              refine q_mv (v := Value.string a6) rfl ?_
              refine q_mv (v := Value.int .i64 v52) rfl ?_
              obtain ⟨⟨h113, h113'⟩, H⟩ := ite_some H
              refine q_is so9 rfl rfl h113 h113' rfl ?_
              refine q_bs hI108 (vs := [(0, Value.int .u8 (bt a6 v52))]) (cs := [Value.int .u8 (bt a6 v52)]) el38 ze5 rfl (by decide) rfl rfl (fun g115 wd116 hI117 => ?_)
              obtain ⟨h127, H⟩ := ite_some H
              refine q_app (xs := v45) (ys := [bt a6 v52]) (Kd.int .u8) hI117 2 el38 ze5 rfl rfl rfl rfl ho50 hl48 (Dat.mono hG106 hD49) (src_bx hI117 0 so38 rfl rfl) ⟨[Value.int .u8 (bt a6 v52)], _, rfl, rfl, rfl⟩ rfl (by simp only [List.length_cons, List.length_nil]; omega) (by simp only [List.length_cons, List.length_nil]; omega) (fun A118 c119 G120 wd121 hG122 ho123 hl124 hD125 hI126 => ?_)
              refine q_as (v := Value.slice A118 (v45 ++ [bt a6 v52]).length c119) rfl ?_
              refine wpq_nil ?_
              have hI128 := Hp.front hI126 2 rfl
              have hI129 := Hp.front hI128 2 rfl
              have hI130 := Hp.sub (L := bx g10 [Value.int .i64 a1.Before, Value.int .i64 a1.Behind, Value.slice A2 a1.Keep.length c3] 24 :: tk (Value.slice A118 (v45 ++ [bt a6 v52]).length c119) 1 5 :: bx g115 [Value.int .u8 (bt a6 v52)] 5 :: L) (L' := bx g10 [Value.int .i64 a1.Before, Value.int .i64 a1.Behind, Value.slice A2 a1.Keep.length c3] 24 :: tk (Value.slice A118 (v45 ++ [bt a6 v52]).length c119) 1 5 :: L) hI129 (List.Sublist.cons_cons _ (List.Sublist.cons_cons _ (List.Sublist.cons _ (List.Sublist.refl _))))
              cases H
              exact ⟨rfl, A118, c119, _, rfl, (Gh.le_trans hG106 hG122), ⟨rfl, rfl, rfl, rfl, rfl, trivial⟩, hI130, hl124, hD125, ho123, trivial⟩
            · replace H := ite_no h112 H
              refine wpc_false (bval_no h112) ?_
              refine wpc_skip ?_
              cases H
              exact ⟨rfl, A46, c47, _, rfl, hG106, ⟨rfl, rfl, rfl, rfl, rfl, trivial⟩, hI108, hl48, (Dat.mono hG106 hD49), ho50, trivial⟩
        · clear hC
          rintro e r ds wd98 ⟨rfl, A90, c91, G96, rfl, hG97, hHas, hI99, hl92, hD93, ho94, _⟩
          rw [hHas.eq]; clear hHas
          refine hK88 _ _ _ ?_
          refine wpc_region ?_
          refine q_mv (v := Value.int .i64 v52) rfl ?_
          refine q_add rfl rfl ?_
          refine q_as (v := Value.int .i64 (w64 (v52 + 1))) rfl ?_
          refine wpq_nil ?_
          exact ih _ _ _ H A90 c91 _ _ _ (Gh.le_trans hG79 hG97) ⟨rfl, rfl, rfl, rfl, rfl, trivial⟩ hI99 hl92 hD93 ho94 rfl
      · replace H := ite_no h86 H
        refine wpc_false (bool_no h86) ?_
        refine wpc_exit ?_
        cases H
        exact ⟨rfl, A46, c47, _, rfl, hG79, ⟨rfl, rfl, rfl, rfl, trivial⟩, hI81, hl48, hD49, ho50, trivial⟩
    · clear hC
      rintro e r ds wd75 ⟨rfl, A67, c68, G73, rfl, hG74, hHas, hI76, hl69, hD70, ho71, _⟩
      rw [hHas.eq]; clear hHas
      refine hK38 _ _ _ ?_
      refine wpc_seq_k fun K134 hK135 => ?_
      refine wpc_region ?_
      refine q_ldA hI76 0 (cs := [Value.int .i64 a1.Before, Value.int .i64 a1.Behind, Value.slice A2 a1.Keep.length c3]) ag24 rfl rfl rfl rfl ?_
      refine q_mv (v := Value.string a6) rfl ?_
      obtain ⟨⟨y141, y148⟩, hy136, H⟩ := bind_some H
      refine q_cv (vs := [Value.agg [Value.int .i64 a1.Before, Value.int .i64 a1.Behind, Value.slice A2 a1.Keep.length c3].toArray, Value.string a6]) bo10 rfl rfl (breaks_List_spec (a1 := a1) (a6 := a6) hI76 hl4 (Dat.mono (Gh.le_trans (Gh.le_trans hG17 hG27) hG74) hD5) hy136) ?_
      rintro _ wd139 ⟨A142, c143, G137, hG138, hI140, hl144, hD145, ho146, rfl⟩
      refine ⟨_, rfl, ?_⟩
      refine q_mv (v := Value.tuple [Value.slice A142 y141.length c143, Value.int .i64 y148].toArray) rfl ?_
      refine q_ex (v := Value.slice A142 y141.length c143) rfl rfl ?_
      refine q_ex (v := Value.int .i64 y148) rfl rfl ?_
      refine q_as (v := Value.slice A142 y141.length c143) rfl ?_
      refine q_as (v := Value.int .i64 y148) rfl ?_
      refine wpq_nil ?_
      refine hK135 _ _ _ ?_
      refine wpc_seq_k fun K149 hK150 => ?_
      refine wpc_region ?_
      refine q_ldA hI140 1 (cs := [Value.int .i64 a1.Before, Value.int .i64 a1.Behind, Value.slice A2 a1.Keep.length c3]) ag24 rfl rfl rfl rfl ?_
      refine q_mv (v := Value.string a6) rfl ?_
      obtain ⟨⟨y156, y163⟩, hy151, H⟩ := bind_some H
      refine q_cv (vs := [Value.agg [Value.int .i64 a1.Before, Value.int .i64 a1.Behind, Value.slice A2 a1.Keep.length c3].toArray, Value.string a6]) bo15 rfl rfl (breaks_Least_spec (a1 := a1) (a6 := a6) hI140 hl4 (Dat.mono (Gh.le_trans (Gh.le_trans (Gh.le_trans hG17 hG27) hG74) hG138) hD5) (hgl.mono (Gh.le_trans (Gh.le_trans (Gh.le_trans hG17 hG27) hG74) hG138)) hy151) ?_
      rintro _ wd154 ⟨A157, c158, G152, hG153, hI155, hl159, hD160, ho161, rfl⟩
      refine ⟨_, rfl, ?_⟩
      refine q_mv (v := Value.tuple [Value.slice A157 y156.length c158, Value.int .i64 y163].toArray) rfl ?_
      refine q_ex (v := Value.slice A157 y156.length c158) rfl rfl ?_
      refine q_ex (v := Value.int .i64 y163) rfl rfl ?_
      refine q_as (v := Value.slice A157 y156.length c158) rfl ?_
      refine q_as (v := Value.int .i64 y163) rfl ?_
      refine wpq_nil ?_
      refine hK150 _ _ _ ?_
      refine wpc_seq_k fun K164 hK165 => ?_
      refine wpc_region ?_
      refine q_as (v := Value.int .i64 0) rfl ?_
      refine q_as (v := Value.int .i64 0) rfl ?_
      refine q_as (v := Value.int .i64 0) rfl ?_
      refine wpq_nil ?_
      refine hK165 _ _ _ ?_
      refine wpc_seq_k fun K166 hK167 => ?_
      refine wpc_seq_k fun K168 hK169 => ?_
      refine wpc_region ?_
      refine q_as (v := Value.int .i64 0) rfl ?_
      refine wpq_nil ?_
      refine hK169 _ _ _ ?_
      refine wpc_block ?_
      obtain ⟨v183, hC, H⟩ := bind_some H
      refine wpc_mono (Q := fun e r ds w => e = .exit 2 ∧ ∃ (G184 : Gh), ds = [] ∧ G152 ≤ G184 ∧ Has [(5, Value.bool y20), (6, Value.slice A67 v66.length c68), (9, Value.int .i64 y148), (10, Value.slice A157 y156.length c158), (11, Value.int .i64 y163), (12, Value.int .i64 0), (13, Value.int .i64 0), (14, Value.int .i64 v183)] r ∧ Hp G184 (bx g10 [Value.int .i64 a1.Before, Value.int .i64 a1.Behind, Value.slice A2 a1.Keep.length c3] 24 :: tk (Value.slice A157 y156.length c158) 1 9 :: tk (Value.slice A142 y141.length c143) 2 37 :: tk (Value.slice A67 v66.length c68) 1 5 :: L) w ∧ True) ?_ ?_
      · clear H
        have hI216 := Hp.front hI155 3 rfl
        have hI217 := Hp.front hI216 2 rfl
        have hI218 := Hp.front hI217 2 rfl
        have hI219 := Hp.front hI218 3 rfl
        refine wpc_loop fun I hLp => ?_
        refine formelaw08_BreaksKeeps_l182.partial_correctness y141 (fun v174 v175 o => ∀ (G189 : Gh) (r : Rg) (w : World), G152 ≤ G189 → Has [(5, Value.bool y20), (6, Value.slice A67 v66.length c68), (8, Value.slice A142 y141.length c143), (9, Value.int .i64 y148), (10, Value.slice A157 y156.length c158), (11, Value.int .i64 y163), (12, Value.int .i64 0), (13, Value.int .i64 0), (14, Value.int .i64 v174), (15, Value.int .i64 v175)] r → Hp G189 (bx g10 [Value.int .i64 a1.Before, Value.int .i64 a1.Behind, Value.slice A2 a1.Keep.length c3] 24 :: tk (Value.slice A157 y156.length c158) 1 9 :: tk (Value.slice A142 y141.length c143) 2 37 :: tk (Value.slice A67 v66.length c68) 1 5 :: L) w → o = v183 → I r [] w) ?_ 0 0 _ hC _ _ _ (Gh.le_refl _) ⟨rfl, rfl, rfl, rfl, rfl, rfl, rfl, rfl, rfl, rfl, trivial⟩ hI219 rfl
        intro _ ih v174 v175 o H G189 r wd191 hG190 hHas hI192 ho
        rw [ho] at H; clear ho
        rw [hHas.eq]; clear hHas
        refine hLp _ _ _ ?_
        refine wpc_seq_k fun K193 hK194 => ?_
        refine wpc_seq_k fun K195 hK196 => ?_
        refine wpc_region ?_
        refine q_mv (v := Value.int .i64 v175) rfl ?_
        refine q_mv (v := Value.slice A142 y141.length c143) rfl ?_
        refine q_len so26 rfl ?_
        refine q_lss rfl rfl ?_
        refine wpq_nil ?_
        refine hK196 _ _ _ ?_
        by_cases h197 : v175 < (y141.length : Int)
        · replace H := ite_yes h197 H
          refine wpc_true (bool_yes h197) ?_
          refine wpc_skip ?_
          refine hK194 _ _ _ ?_
          refine wpc_seq_k fun K198 hK199 => ?_
          obtain ⟨v200, hC, H⟩ := bind_some H
          refine wpc_mono (Q := fun e r ds w => e = .normal ∧ ∃ (G201 : Gh), ds = [] ∧ G189 ≤ G201 ∧ Has [(5, Value.bool y20), (6, Value.slice A67 v66.length c68), (8, Value.slice A142 y141.length c143), (9, Value.int .i64 y148), (10, Value.slice A157 y156.length c158), (11, Value.int .i64 y163), (12, Value.int .i64 0), (13, Value.int .i64 0), (14, Value.int .i64 v200), (15, Value.int .i64 v175)] r ∧ Hp G201 (bx g10 [Value.int .i64 a1.Before, Value.int .i64 a1.Behind, Value.slice A2 a1.Keep.length c3] 24 :: tk (Value.slice A157 y156.length c158) 1 9 :: tk (Value.slice A142 y141.length c143) 2 37 :: tk (Value.slice A67 v66.length c68) 1 5 :: L) w ∧ True) ?_ ?_
          · replace H := hC
            refine wpc_block ?_
            refine wpc_seq_k fun K206 hK207 => ?_
            refine wpc_region ?_
            refine q_mv (v := Value.slice A142 y141.length c143) rfl ?_
            refine q_mv (v := Value.int .i64 v175) rfl ?_
            obtain ⟨⟨h208, h208'⟩, H⟩ := ite_some H
            obtain ⟨ad209, cs210, hA211, hK212, hn213, hc214⟩ := Dat.get (Dat.mono (Gh.le_trans hG153 hG190) hD145) z_api_Break (v175) h208 h208'
            obtain ⟨rfl⟩ := open_api_Break hK212
            refine q_ia el26 rfl hA211 rfl h208 h208' ?_
            refine q_fa (a' := (ad209.add (Int.toNat v175 * 2)).add 1) fl37_1 rfl rfl ?_
            refine q_lf hI192 (v := Value.bool ((y141.getD (Int.toNat v175) z_api_Break).Hyphen)) ag4 rfl ((Gh.le_refl _).cel _ _ (hc214 1 _ rfl)) ?_
            refine wpq_nil ?_
            refine hK207 _ _ _ ?_
            by_cases h215 : ((y141.getD (Int.toNat v175) z_api_Break).Hyphen) = true
            · replace H := ite_yes h215 H
              refine wpc_true (bval_yes h215) ?_
              refine wpc_region ?_
              refine q_mv (v := Value.int .i64 v174) rfl ?_
              refine q_add rfl rfl ?_
              refine q_as (v := Value.int .i64 (w64 (v174 + 1))) rfl ?_
              refine wpq_nil ?_
              cases H
              exact ⟨rfl, _, rfl, (Gh.le_refl _), ⟨rfl, rfl, rfl, rfl, rfl, rfl, rfl, rfl, rfl, rfl, trivial⟩, hI192, trivial⟩
            · replace H := ite_no h215 H
              refine wpc_false (bval_no h215) ?_
              refine wpc_skip ?_
              cases H
              exact ⟨rfl, _, rfl, (Gh.le_refl _), ⟨rfl, rfl, rfl, rfl, rfl, rfl, rfl, rfl, rfl, rfl, trivial⟩, hI192, trivial⟩
          · clear hC
            rintro e r ds wd203 ⟨rfl, G201, rfl, hG202, hHas, hI204, _⟩
            rw [hHas.eq]; clear hHas
            refine hK199 _ _ _ ?_
            refine wpc_region ?_
            refine q_mv (v := Value.int .i64 v175) rfl ?_
            refine q_add rfl rfl ?_
            refine q_as (v := Value.int .i64 (w64 (v175 + 1))) rfl ?_
            refine wpq_nil ?_
            exact ih _ _ _ H _ _ _ (Gh.le_trans hG190 hG202) ⟨rfl, rfl, rfl, rfl, rfl, rfl, rfl, rfl, rfl, rfl, trivial⟩ hI204 rfl
        · replace H := ite_no h197 H
          refine wpc_false (bool_no h197) ?_
          refine wpc_exit ?_
          cases H
          exact ⟨rfl, _, rfl, hG190, ⟨rfl, rfl, rfl, rfl, rfl, rfl, rfl, rfl, trivial⟩, hI192, trivial⟩
      · clear hC
        rintro e r ds wd186 ⟨rfl, G184, rfl, hG185, hHas, hI187, _⟩
        rw [hHas.eq]; clear hHas
        refine hK167 _ _ _ ?_
        refine wpc_seq_k fun K220 hK221 => ?_
        refine wpc_seq_k fun K222 hK223 => ?_
        refine wpc_region ?_
        refine q_as (v := Value.int .i64 0) rfl ?_
        refine wpq_nil ?_
        refine hK223 _ _ _ ?_
        refine wpc_block ?_
        obtain ⟨o249, hC, H⟩ := bind_some H
        refine wpc_mono (Q := fun e r ds w => match (generalizing := false) o249 with | (Sum.inl _) => e = .ret ∧ ∃ (G241 : Gh), ds = [] ∧ G184 ≤ G241 ∧ Has [(4, Value.bool false)] r ∧ Hp G241 (bx g10 [Value.int .i64 a1.Before, Value.int .i64 a1.Behind, Value.slice A2 a1.Keep.length c3] 24 :: tk (Value.slice A157 y156.length c158) 1 9 :: tk (Value.slice A142 y141.length c143) 2 37 :: tk (Value.slice A67 v66.length c68) 1 5 :: L) w ∧ True | (Sum.inr (v239, v240)) => e = .exit 4 ∧ ∃ (G245 : Gh), ds = [] ∧ G184 ≤ G245 ∧ Has [(5, Value.bool y20), (6, Value.slice A67 v66.length c68), (9, Value.int .i64 y148), (11, Value.int .i64 y163), (12, Value.int .i64 v239), (13, Value.int .i64 v240), (14, Value.int .i64 v183)] r ∧ Hp G245 (bx g10 [Value.int .i64 a1.Before, Value.int .i64 a1.Behind, Value.slice A2 a1.Keep.length c3] 24 :: tk (Value.slice A157 y156.length c158) 1 9 :: tk (Value.slice A142 y141.length c143) 2 37 :: tk (Value.slice A67 v66.length c68) 1 5 :: L) w ∧ True) ?_ ?_
        · clear H
          refine wpc_loop fun I hLp => ?_
          refine formelaw08_BreaksKeeps_l238.partial_correctness v66 y156 (fun v228 v229 v230 o => ∀ (G250 : Gh) (r : Rg) (w : World), G184 ≤ G250 → Has [(5, Value.bool y20), (6, Value.slice A67 v66.length c68), (9, Value.int .i64 y148), (10, Value.slice A157 y156.length c158), (11, Value.int .i64 y163), (12, Value.int .i64 v228), (13, Value.int .i64 v229), (14, Value.int .i64 v183), (16, Value.int .i64 v230)] r → Hp G250 (bx g10 [Value.int .i64 a1.Before, Value.int .i64 a1.Behind, Value.slice A2 a1.Keep.length c3] 24 :: tk (Value.slice A157 y156.length c158) 1 9 :: tk (Value.slice A142 y141.length c143) 2 37 :: tk (Value.slice A67 v66.length c68) 1 5 :: L) w → o = o249 → I r [] w) ?_ 0 0 0 _ hC _ _ _ (Gh.le_refl _) ⟨rfl, rfl, rfl, rfl, rfl, rfl, rfl, rfl, rfl, trivial⟩ hI187 rfl
          intro _ ih v228 v229 v230 o H G250 r wd252 hG251 hHas hI253 ho
          rw [ho] at H; clear ho
          rw [hHas.eq]; clear hHas
          refine hLp _ _ _ ?_
          refine wpc_seq_k fun K254 hK255 => ?_
          refine wpc_seq_k fun K256 hK257 => ?_
          refine wpc_region ?_
          refine q_mv (v := Value.int .i64 v230) rfl ?_
          refine q_mv (v := Value.slice A157 y156.length c158) rfl ?_
          refine q_len so22 rfl ?_
          refine q_lss rfl rfl ?_
          refine wpq_nil ?_
          refine hK257 _ _ _ ?_
          by_cases h258 : v230 < (y156.length : Int)
          · replace H := ite_yes h258 H
            refine wpc_true (bool_yes h258) ?_
            refine wpc_skip ?_
            refine hK255 _ _ _ ?_
            refine wpc_seq_k fun K259 hK260 => ?_
            refine wpc_block ?_
            refine wpc_seq_k fun K261 hK262 => ?_
            refine wpc_region ?_
            refine q_mv (v := Value.slice A157 y156.length c158) rfl ?_
            refine q_mv (v := Value.int .i64 v230) rfl ?_
            obtain ⟨⟨h263, h263'⟩, H⟩ := ite_some H
            obtain ⟨ad264, cs265, hA266, hK267, hn268, hc269⟩ := Dat.get (Dat.mono (Gh.le_trans hG185 hG251) hD160) (⟨#[]⟩ : ByteArray) (v230) h263 h263'
            obtain rfl := hK267
            refine q_ia el22 rfl hA266 rfl h263 h263' ?_
            refine q_lf hI253 (v := Value.string (y156.getD (Int.toNat v230) (⟨#[]⟩ : ByteArray))) ag9 rfl ((Gh.le_refl _).cel _ _ (hc269 0 _ rfl)) ?_
            refine q_as (v := Value.string (y156.getD (Int.toNat v230) (⟨#[]⟩ : ByteArray))) rfl ?_
            refine wpq_nil ?_
            refine hK262 _ _ _ ?_
            refine wpc_seq_k fun K270 hK271 => ?_
            refine wpc_seq_k fun K272 hK273 => ?_
            refine wpc_region ?_
            refine q_mv (v := Value.string (y156.getD (Int.toNat v230) (⟨#[]⟩ : ByteArray))) rfl ?_
            refine q_str_eql rfl rfl ?_
            refine wpq_nil ?_
            refine hK273 _ _ _ ?_
            by_cases h274 : (y156.getD (Int.toNat v230) (⟨#[]⟩ : ByteArray)) = (⟨#[]⟩ : ByteArray)
            · replace H := ite_yes h274 H
              refine wpc_true (bool_yes h274) ?_
              refine wpc_seq_k fun K275 hK276 => ?_
              refine wpc_region ?_
              refine q_as (v := Value.bool false) rfl ?_
              refine wpq_nil ?_
              refine hK276 _ _ _ ?_
              refine wpc_ret ?_
              cases H
              exact ⟨rfl, _, rfl, hG251, ⟨rfl, trivial⟩, hI253, trivial⟩
            · replace H := ite_no h274 H
              refine wpc_false (bool_no h274) ?_
              refine wpc_skip ?_
              refine hK271 _ _ _ ?_
              refine wpc_seq_k fun K277 hK278 => ?_
              refine wpc_region ?_
              refine q_as (v := Value.int .i64 0) rfl ?_
              refine wpq_nil ?_
              refine hK278 _ _ _ ?_
              refine wpc_block ?_
              obtain ⟨o304, hC, H⟩ := bind_some H
              refine wpc_mono (Q := fun e r ds w => match (generalizing := false) o304 with | (Sum.inl _) => e = .ret ∧ ∃ (G296 : Gh), ds = [] ∧ G250 ≤ G296 ∧ Has [(4, Value.bool false)] r ∧ Hp G296 (bx g10 [Value.int .i64 a1.Before, Value.int .i64 a1.Behind, Value.slice A2 a1.Keep.length c3] 24 :: tk (Value.slice A157 y156.length c158) 1 9 :: tk (Value.slice A142 y141.length c143) 2 37 :: tk (Value.slice A67 v66.length c68) 1 5 :: L) w ∧ True | (Sum.inr (v294, v295)) => e = .exit 6 ∧ ∃ (G300 : Gh), ds = [] ∧ G250 ≤ G300 ∧ Has [(5, Value.bool y20), (6, Value.slice A67 v66.length c68), (9, Value.int .i64 y148), (10, Value.slice A157 y156.length c158), (11, Value.int .i64 y163), (12, Value.int .i64 v294), (13, Value.int .i64 v295), (14, Value.int .i64 v183), (16, Value.int .i64 v230)] r ∧ Hp G300 (bx g10 [Value.int .i64 a1.Before, Value.int .i64 a1.Behind, Value.slice A2 a1.Keep.length c3] 24 :: tk (Value.slice A157 y156.length c158) 1 9 :: tk (Value.slice A142 y141.length c143) 2 37 :: tk (Value.slice A67 v66.length c68) 1 5 :: L) w ∧ True) ?_ ?_
              · clear H
                refine wpc_loop fun I hLp => ?_
                refine formelaw08_BreaksKeeps_l293.partial_correctness v66 y156 v230 (fun v283 v284 v285 o => ∀ (G305 : Gh) (r : Rg) (w : World), G250 ≤ G305 → Has [(5, Value.bool y20), (6, Value.slice A67 v66.length c68), (9, Value.int .i64 y148), (10, Value.slice A157 y156.length c158), (11, Value.int .i64 y163), (12, Value.int .i64 v283), (13, Value.int .i64 v284), (14, Value.int .i64 v183), (16, Value.int .i64 v230), (17, Value.string (y156.getD (Int.toNat v230) (⟨#[]⟩ : ByteArray))), (18, Value.int .i64 v285)] r → Hp G305 (bx g10 [Value.int .i64 a1.Before, Value.int .i64 a1.Behind, Value.slice A2 a1.Keep.length c3] 24 :: tk (Value.slice A157 y156.length c158) 1 9 :: tk (Value.slice A142 y141.length c143) 2 37 :: tk (Value.slice A67 v66.length c68) 1 5 :: L) w → o = o304 → I r [] w) ?_ v228 v229 0 _ hC _ _ _ (Gh.le_refl _) ⟨rfl, rfl, rfl, rfl, rfl, rfl, rfl, rfl, rfl, rfl, rfl, trivial⟩ hI253 rfl
                intro _ ih v283 v284 v285 o H G305 r wd307 hG306 hHas hI308 ho
                rw [ho] at H; clear ho
                rw [hHas.eq]; clear hHas
                refine hLp _ _ _ ?_
                refine wpc_seq_k fun K309 hK310 => ?_
                refine wpc_seq_k fun K311 hK312 => ?_
                refine wpc_region ?_
                refine q_mv (v := Value.int .i64 v285) rfl ?_
                refine q_mv (v := Value.string (y156.getD (Int.toNat v230) (⟨#[]⟩ : ByteArray))) rfl ?_
                refine q_lens so9 rfl ?_
                refine q_lss rfl rfl ?_
                refine wpq_nil ?_
                refine hK312 _ _ _ ?_
                by_cases h313 : v285 < ((y156.getD (Int.toNat v230) (⟨#[]⟩ : ByteArray)).size : Int)
                · replace H := ite_yes h313 H
                  refine wpc_true (bool_yes h313) ?_
                  refine wpc_skip ?_
                  refine hK310 _ _ _ ?_
                  refine wpc_seq_k fun K314 hK315 => ?_
                  obtain ⟨o326, hC, H⟩ := bind_some H
                  refine wpc_mono (Q := fun e r ds w => match (generalizing := false) o326 with | (Sum.inl _) => e = .ret ∧ ∃ (G318 : Gh), ds = [] ∧ G305 ≤ G318 ∧ Has [(4, Value.bool false)] r ∧ Hp G318 (bx g10 [Value.int .i64 a1.Before, Value.int .i64 a1.Behind, Value.slice A2 a1.Keep.length c3] 24 :: tk (Value.slice A157 y156.length c158) 1 9 :: tk (Value.slice A142 y141.length c143) 2 37 :: tk (Value.slice A67 v66.length c68) 1 5 :: L) w ∧ True | (Sum.inr (v316, v317)) => e = .normal ∧ ∃ (G322 : Gh), ds = [] ∧ G305 ≤ G322 ∧ Has [(5, Value.bool y20), (6, Value.slice A67 v66.length c68), (9, Value.int .i64 y148), (10, Value.slice A157 y156.length c158), (11, Value.int .i64 y163), (12, Value.int .i64 v316), (13, Value.int .i64 v317), (14, Value.int .i64 v183), (16, Value.int .i64 v230), (17, Value.string (y156.getD (Int.toNat v230) (⟨#[]⟩ : ByteArray))), (18, Value.int .i64 v285)] r ∧ Hp G322 (bx g10 [Value.int .i64 a1.Before, Value.int .i64 a1.Behind, Value.slice A2 a1.Keep.length c3] 24 :: tk (Value.slice A157 y156.length c158) 1 9 :: tk (Value.slice A142 y141.length c143) 2 37 :: tk (Value.slice A67 v66.length c68) 1 5 :: L) w ∧ True) ?_ ?_
                  · replace H := hC
                    refine wpc_block ?_
                    refine wpc_block ?_
                    refine wpc_seq_k fun K327 hK328 => ?_
                    obtain ⟨v329, hC, H⟩ := bind_some H
                    refine wpc_mono (Q := fun e r ds w => e = .normal ∧ ∃ (G330 : Gh), ds = [] ∧ G305 ≤ G330 ∧ Has [(5, Value.bool y20), (6, Value.slice A67 v66.length c68), (9, Value.int .i64 y148), (10, Value.slice A157 y156.length c158), (11, Value.int .i64 y163), (12, Value.int .i64 v283), (13, Value.int .i64 v284), (14, Value.int .i64 v183), (16, Value.int .i64 v230), (17, Value.string (y156.getD (Int.toNat v230) (⟨#[]⟩ : ByteArray))), (18, Value.int .i64 v285), (90, Value.bool v329)] r ∧ Hp G330 (bx g10 [Value.int .i64 a1.Before, Value.int .i64 a1.Behind, Value.slice A2 a1.Keep.length c3] 24 :: tk (Value.slice A157 y156.length c158) 1 9 :: tk (Value.slice A142 y141.length c143) 2 37 :: tk (Value.slice A67 v66.length c68) 1 5 :: L) w ∧ True) ?_ ?_
                    · replace H := hC
                      by_cases h335 : v283 < (v66.length : Int)
                      · replace H := ite_yes h335 H
                        obtain ⟨⟨h336, h336'⟩, H⟩ := ite_some H
                        obtain ⟨ad337, cs338, hA339, hK340, hn341, hc342⟩ := Dat.get (Dat.mono (Gh.le_trans (Gh.le_trans (Gh.le_trans (Gh.le_trans hG138 hG153) hG185) hG251) hG306) hD70) (0 : Int) (v283) h336 h336'
                        obtain rfl := hK340
                        obtain ⟨⟨h343, h343'⟩, H⟩ := ite_some H
                        refine wpc_drawL [0, 0, 2, 7, 15, 31, 31, 127, 255, 31, 31, 1567, 4095, 8191, 16383] (fun D r w => (∃ (G' : Gh), G305 ≤ G' ∧ Regs [(5, Value.bool y20), (6, Value.slice A67 v66.length c68), (9, Value.int .i64 y148), (10, Value.slice A157 y156.length c158), (11, Value.int .i64 y163), (12, Value.int .i64 v283), (13, Value.int .i64 v284), (14, Value.int .i64 v183), (16, Value.int .i64 v230), (17, Value.string (y156.getD (Int.toNat v230) (⟨#[]⟩ : ByteArray))), (18, Value.int .i64 v285)] [] [(0, 91, Value.int .i64 v283), (1, 92, Value.slice A67 v66.length c68), (2, 93, Value.int .i64 (v66.length : Int)), (3, 94, Value.bool (decide (v283 < (v66.length : Int)))), (4, 95, Value.bool (decide (v283 < (v66.length : Int)))), (5, 96, Value.slice A67 v66.length c68), (6, 97, Value.int .i64 v283), (7, 98, Value.pointer (some (ad337.add (Int.toNat v283 * 1)))), (8, 99, Value.int .u8 (v66.getD (Int.toNat v283) (0 : Int))), (9, 100, Value.string (y156.getD (Int.toNat v230) (⟨#[]⟩ : ByteArray))), (10, 101, Value.int .i64 v285), (11, 102, Value.int .u8 (bt (y156.getD (Int.toNat v230) (⟨#[]⟩ : ByteArray)) v285)), (12, 103, Value.bool (decide ((v66.getD (Int.toNat v283) (0 : Int)) = (bt (y156.getD (Int.toNat v230) (⟨#[]⟩ : ByteArray)) v285)))), (13, 104, Value.bool (decide ((v66.getD (Int.toNat v283) (0 : Int)) = (bt (y156.getD (Int.toNat v230) (⟨#[]⟩ : ByteArray)) v285)))), (14, 90, Value.bool (decide ((v66.getD (Int.toNat v283) (0 : Int)) = (bt (y156.getD (Int.toNat v230) (⟨#[]⟩ : ByteArray)) v285))))] D r ∧ Hp G' (bx g10 [Value.int .i64 a1.Before, Value.int .i64 a1.Behind, Value.slice A2 a1.Keep.length c3] 24 :: tk (Value.slice A157 y156.length c158) 1 9 :: tk (Value.slice A142 y141.length c143) 2 37 :: tk (Value.slice A67 v66.length c68) 1 5 :: L) w)) mixo rfl rfl ?_ ?_ ?_
                        · exact ⟨_, Gh.le_refl _, Regs.start ⟨rfl, rfl, rfl, rfl, rfl, rfl, rfl, rfl, rfl, rfl, rfl, trivial⟩ trivial, hI308.drew⟩
                        · refine ⟨?_, ?_, ?_, ?_, ?_, ?_, ?_, ?_, ?_, ?_, ?_, ?_, ?_, ?_, ?_, trivial⟩
                          · intro D r wd348 hR hDi hpre hpost
                            obtain ⟨G344, hG345, hReg347, hI346⟩ := hR
                            have hH : Has [(12, Value.int .i64 v283)] r := ⟨hReg347.ins.get 5 rfl, trivial⟩
                            obtain ⟨r0, rfl⟩ := hH.ex
                            refine q_mv (v := Value.int .i64 v283) rfl ?_
                            refine wpq_nil ?_
                            exact ⟨rfl, ⟨_, hG345, (Regs.step hReg347 hDi rfl rfl rfl rfl), hI346⟩⟩
                          · intro D r wd348 hR hDi hpre hpost
                            obtain ⟨G344, hG345, hReg347, hI346⟩ := hR
                            have hH : Has [(6, Value.slice A67 v66.length c68)] r := ⟨hReg347.ins.get 1 rfl, trivial⟩
                            obtain ⟨r0, rfl⟩ := hH.ex
                            refine q_mv (v := Value.slice A67 v66.length c68) rfl ?_
                            refine wpq_nil ?_
                            exact ⟨rfl, ⟨_, hG345, (Regs.step hReg347 hDi rfl rfl rfl rfl), hI346⟩⟩
                          · intro D r wd348 hR hDi hpre hpost
                            obtain ⟨G344, hG345, hReg347, hI346⟩ := hR
                            have hH : Has [(92, Value.slice A67 v66.length c68)] r := ⟨hReg347.get 1 rfl (hpre 1 rfl), trivial⟩
                            obtain ⟨r0, rfl⟩ := hH.ex
                            refine q_len so38 rfl ?_
                            refine wpq_nil ?_
                            exact ⟨rfl, ⟨_, hG345, (Regs.step hReg347 hDi rfl rfl rfl rfl), hI346⟩⟩
                          · intro D r wd348 hR hDi hpre hpost
                            obtain ⟨G344, hG345, hReg347, hI346⟩ := hR
                            have hH : Has [(91, Value.int .i64 v283), (93, Value.int .i64 (v66.length : Int))] r := ⟨hReg347.get 0 rfl (hpre 0 rfl), hReg347.get 2 rfl (hpre 2 rfl), trivial⟩
                            obtain ⟨r0, rfl⟩ := hH.ex
                            refine q_lss rfl rfl ?_
                            refine wpq_nil ?_
                            exact ⟨rfl, ⟨_, hG345, (Regs.step hReg347 hDi rfl rfl rfl rfl), hI346⟩⟩
                          · intro D r wd348 hR hDi hpre hpost
                            obtain ⟨G344, hG345, hReg347, hI346⟩ := hR
                            have hH : Has [(94, Value.bool (decide (v283 < (v66.length : Int))))] r := ⟨hReg347.get 3 rfl (hpre 3 rfl), trivial⟩
                            obtain ⟨r0, rfl⟩ := hH.ex
                            refine q_mv (v := Value.bool (decide (v283 < (v66.length : Int)))) rfl ?_
                            refine wpq_nil ?_
                            exact ⟨rfl, ⟨_, hG345, (Regs.step hReg347 hDi rfl rfl rfl rfl), hI346⟩⟩
                          · intro D r wd348 hR hDi hpre hpost
                            obtain ⟨G344, hG345, hReg347, hI346⟩ := hR
                            have hH : Has [(6, Value.slice A67 v66.length c68), (95, Value.bool (decide (v283 < (v66.length : Int))))] r := ⟨hReg347.ins.get 1 rfl, hReg347.get 4 rfl (hpre 4 rfl), trivial⟩
                            obtain ⟨r0, rfl⟩ := hH.ex
                            refine q_mv (v := Value.slice A67 v66.length c68) rfl ?_ (hw := guard_yes rfl rfl rfl (bool_yes h335))
                            refine wpq_nil ?_
                            exact ⟨rfl, ⟨_, hG345, (Regs.step hReg347 hDi rfl rfl rfl rfl), hI346⟩⟩
                          · intro D r wd348 hR hDi hpre hpost
                            obtain ⟨G344, hG345, hReg347, hI346⟩ := hR
                            have hH : Has [(12, Value.int .i64 v283), (95, Value.bool (decide (v283 < (v66.length : Int))))] r := ⟨hReg347.ins.get 5 rfl, hReg347.get 4 rfl (hpre 4 rfl), trivial⟩
                            obtain ⟨r0, rfl⟩ := hH.ex
                            refine q_mv (v := Value.int .i64 v283) rfl ?_ (hw := guard_yes rfl rfl rfl (bool_yes h335))
                            refine wpq_nil ?_
                            exact ⟨rfl, ⟨_, hG345, (Regs.step hReg347 hDi rfl rfl rfl rfl), hI346⟩⟩
                          · intro D r wd348 hR hDi hpre hpost
                            obtain ⟨G344, hG345, hReg347, hI346⟩ := hR
                            have hH : Has [(95, Value.bool (decide (v283 < (v66.length : Int)))), (96, Value.slice A67 v66.length c68), (97, Value.int .i64 v283)] r := ⟨hReg347.get 4 rfl (hpre 4 rfl), hReg347.get 5 rfl (hpre 5 rfl), hReg347.get 6 rfl (hpre 6 rfl), trivial⟩
                            obtain ⟨r0, rfl⟩ := hH.ex
                            refine q_ia el38 rfl hA339 rfl h336 h336' ?_ (hw := guard_yes rfl rfl rfl (bool_yes h335))
                            refine wpq_nil ?_
                            exact ⟨rfl, ⟨_, hG345, (Regs.step hReg347 hDi rfl rfl rfl rfl), hI346⟩⟩
                          · intro D r wd348 hR hDi hpre hpost
                            obtain ⟨G344, hG345, hReg347, hI346⟩ := hR
                            have hH : Has [(95, Value.bool (decide (v283 < (v66.length : Int)))), (98, Value.pointer (some (ad337.add (Int.toNat v283 * 1))))] r := ⟨hReg347.get 4 rfl (hpre 4 rfl), hReg347.get 7 rfl (hpre 7 rfl), trivial⟩
                            obtain ⟨r0, rfl⟩ := hH.ex
                            refine q_lf hI346 (v := Value.int .u8 (v66.getD (Int.toNat v283) (0 : Int))) ag5 rfl (hG345.cel _ _ (hc342 0 _ rfl)) ?_ (hw := guard_yes rfl rfl rfl (bool_yes h335))
                            refine wpq_nil ?_
                            exact ⟨rfl, ⟨_, hG345, (Regs.step hReg347 hDi rfl rfl rfl rfl), hI346⟩⟩
                          · intro D r wd348 hR hDi hpre hpost
                            obtain ⟨G344, hG345, hReg347, hI346⟩ := hR
                            have hH : Has [(17, Value.string (y156.getD (Int.toNat v230) (⟨#[]⟩ : ByteArray))), (95, Value.bool (decide (v283 < (v66.length : Int))))] r := ⟨hReg347.ins.get 9 rfl, hReg347.get 4 rfl (hpre 4 rfl), trivial⟩
                            obtain ⟨r0, rfl⟩ := hH.ex
                            refine q_mv (v := Value.string (y156.getD (Int.toNat v230) (⟨#[]⟩ : ByteArray))) rfl ?_ (hw := guard_yes rfl rfl rfl (bool_yes h335))
                            refine wpq_nil ?_
                            exact ⟨rfl, ⟨_, hG345, (Regs.step hReg347 hDi rfl rfl rfl rfl), hI346⟩⟩
                          · intro D r wd348 hR hDi hpre hpost
                            obtain ⟨G344, hG345, hReg347, hI346⟩ := hR
                            have hH : Has [(18, Value.int .i64 v285), (95, Value.bool (decide (v283 < (v66.length : Int))))] r := ⟨hReg347.ins.get 10 rfl, hReg347.get 4 rfl (hpre 4 rfl), trivial⟩
                            obtain ⟨r0, rfl⟩ := hH.ex
                            refine q_mv (v := Value.int .i64 v285) rfl ?_ (hw := guard_yes rfl rfl rfl (bool_yes h335))
                            refine wpq_nil ?_
                            exact ⟨rfl, ⟨_, hG345, (Regs.step hReg347 hDi rfl rfl rfl rfl), hI346⟩⟩
                          · intro D r wd348 hR hDi hpre hpost
                            obtain ⟨G344, hG345, hReg347, hI346⟩ := hR
                            have hH : Has [(95, Value.bool (decide (v283 < (v66.length : Int)))), (100, Value.string (y156.getD (Int.toNat v230) (⟨#[]⟩ : ByteArray))), (101, Value.int .i64 v285)] r := ⟨hReg347.get 4 rfl (hpre 4 rfl), hReg347.get 9 rfl (hpre 9 rfl), hReg347.get 10 rfl (hpre 10 rfl), trivial⟩
                            obtain ⟨r0, rfl⟩ := hH.ex
                            refine q_is so9 rfl rfl h343 h343' rfl ?_ (hw := guard_yes rfl rfl rfl (bool_yes h335))
                            refine wpq_nil ?_
                            exact ⟨rfl, ⟨_, hG345, (Regs.step hReg347 hDi rfl rfl rfl rfl), hI346⟩⟩
                          · intro D r wd348 hR hDi hpre hpost
                            obtain ⟨G344, hG345, hReg347, hI346⟩ := hR
                            have hH : Has [(95, Value.bool (decide (v283 < (v66.length : Int)))), (99, Value.int .u8 (v66.getD (Int.toNat v283) (0 : Int))), (102, Value.int .u8 (bt (y156.getD (Int.toNat v230) (⟨#[]⟩ : ByteArray)) v285))] r := ⟨hReg347.get 4 rfl (hpre 4 rfl), hReg347.get 8 rfl (hpre 8 rfl), hReg347.get 11 rfl (hpre 11 rfl), trivial⟩
                            obtain ⟨r0, rfl⟩ := hH.ex
                            refine q_eql rfl rfl ?_ (hw := guard_yes rfl rfl rfl (bool_yes h335))
                            refine wpq_nil ?_
                            exact ⟨rfl, ⟨_, hG345, (Regs.step hReg347 hDi rfl rfl rfl rfl), hI346⟩⟩
                          · intro D r wd348 hR hDi hpre hpost
                            obtain ⟨G344, hG345, hReg347, hI346⟩ := hR
                            have hH : Has [(95, Value.bool (decide (v283 < (v66.length : Int)))), (103, Value.bool (decide ((v66.getD (Int.toNat v283) (0 : Int)) = (bt (y156.getD (Int.toNat v230) (⟨#[]⟩ : ByteArray)) v285))))] r := ⟨hReg347.get 4 rfl (hpre 4 rfl), hReg347.get 12 rfl (hpre 12 rfl), trivial⟩
                            obtain ⟨r0, rfl⟩ := hH.ex
                            refine q_pick true (v := Value.bool (decide ((v66.getD (Int.toNat v283) (0 : Int)) = (bt (y156.getD (Int.toNat v230) (⟨#[]⟩ : ByteArray)) v285)))) (bool_yes h335) rfl ?_
                            refine wpq_nil ?_
                            exact ⟨rfl, ⟨_, hG345, (Regs.step hReg347 hDi rfl rfl rfl rfl), hI346⟩⟩
                          · intro D r wd348 hR hDi hpre hpost
                            obtain ⟨G344, hG345, hReg347, hI346⟩ := hR
                            have hH : Has [(104, Value.bool (decide ((v66.getD (Int.toNat v283) (0 : Int)) = (bt (y156.getD (Int.toNat v230) (⟨#[]⟩ : ByteArray)) v285))))] r := ⟨hReg347.get 13 rfl (hpre 13 rfl), trivial⟩
                            obtain ⟨r0, rfl⟩ := hH.ex
                            refine q_as (v := Value.bool (decide ((v66.getD (Int.toNat v283) (0 : Int)) = (bt (y156.getD (Int.toNat v230) (⟨#[]⟩ : ByteArray)) v285)))) rfl ?_
                            refine wpq_nil ?_
                            exact ⟨rfl, ⟨_, hG345, (Regs.step hReg347 hDi rfl rfl rfl rfl), hI346⟩⟩
                        · intro D r wd348 hall hR
                          obtain ⟨G344, hG345, hReg347, hI346⟩ := hR
                          have hH : Has [(5, Value.bool y20), (6, Value.slice A67 v66.length c68), (9, Value.int .i64 y148), (10, Value.slice A157 y156.length c158), (11, Value.int .i64 y163), (12, Value.int .i64 v283), (13, Value.int .i64 v284), (14, Value.int .i64 v183), (16, Value.int .i64 v230), (17, Value.string (y156.getD (Int.toNat v230) (⟨#[]⟩ : ByteArray))), (18, Value.int .i64 v285), (90, Value.bool (decide ((v66.getD (Int.toNat v283) (0 : Int)) = (bt (y156.getD (Int.toNat v230) (⟨#[]⟩ : ByteArray)) v285)))), (96, Value.slice A67 v66.length c68), (97, Value.int .i64 v283), (98, Value.pointer (some (ad337.add (Int.toNat v283 * 1)))), (99, Value.int .u8 (v66.getD (Int.toNat v283) (0 : Int))), (100, Value.string (y156.getD (Int.toNat v230) (⟨#[]⟩ : ByteArray))), (101, Value.int .i64 v285), (102, Value.int .u8 (bt (y156.getD (Int.toNat v230) (⟨#[]⟩ : ByteArray)) v285)), (103, Value.bool (decide ((v66.getD (Int.toNat v283) (0 : Int)) = (bt (y156.getD (Int.toNat v230) (⟨#[]⟩ : ByteArray)) v285))))] r := ⟨hReg347.ins.get 0 rfl, hReg347.ins.get 1 rfl, hReg347.ins.get 2 rfl, hReg347.ins.get 3 rfl, hReg347.ins.get 4 rfl, hReg347.ins.get 5 rfl, hReg347.ins.get 6 rfl, hReg347.ins.get 7 rfl, hReg347.ins.get 8 rfl, hReg347.ins.get 9 rfl, hReg347.ins.get 10 rfl, hReg347.get 14 rfl (hall 14 (Nat.le_of_ble_eq_true rfl)), hReg347.get 5 rfl (hall 5 (Nat.le_of_ble_eq_true rfl)), hReg347.get 6 rfl (hall 6 (Nat.le_of_ble_eq_true rfl)), hReg347.get 7 rfl (hall 7 (Nat.le_of_ble_eq_true rfl)), hReg347.get 8 rfl (hall 8 (Nat.le_of_ble_eq_true rfl)), hReg347.get 9 rfl (hall 9 (Nat.le_of_ble_eq_true rfl)), hReg347.get 10 rfl (hall 10 (Nat.le_of_ble_eq_true rfl)), hReg347.get 11 rfl (hall 11 (Nat.le_of_ble_eq_true rfl)), hReg347.get 12 rfl (hall 12 (Nat.le_of_ble_eq_true rfl)), trivial⟩
                          obtain ⟨r0, rfl⟩ := hH.ex
                          cases H
                          exact ⟨rfl, _, rfl, hG345, ⟨rfl, rfl, rfl, rfl, rfl, rfl, rfl, rfl, rfl, rfl, rfl, rfl, trivial⟩, hI346, trivial⟩
                      · replace H := ite_no h335 H
                        refine wpc_drawL [0, 0, 2, 7, 15, 31, 31, 127, 255, 31, 31, 1567, 4095, 8191, 16383] (fun D r w => (∃ (G' : Gh), G305 ≤ G' ∧ Regs [(5, Value.bool y20), (6, Value.slice A67 v66.length c68), (9, Value.int .i64 y148), (10, Value.slice A157 y156.length c158), (11, Value.int .i64 y163), (12, Value.int .i64 v283), (13, Value.int .i64 v284), (14, Value.int .i64 v183), (16, Value.int .i64 v230), (17, Value.string (y156.getD (Int.toNat v230) (⟨#[]⟩ : ByteArray))), (18, Value.int .i64 v285)] [] [(0, 91, Value.int .i64 v283), (1, 92, Value.slice A67 v66.length c68), (2, 93, Value.int .i64 (v66.length : Int)), (3, 94, Value.bool (decide (v283 < (v66.length : Int)))), (4, 95, Value.bool (decide (v283 < (v66.length : Int)))), (5, 96, undef), (6, 97, undef), (7, 98, undef), (8, 99, undef), (9, 100, undef), (10, 101, undef), (11, 102, undef), (12, 103, undef), (13, 104, Value.bool false), (14, 90, Value.bool false)] D r ∧ Hp G' (bx g10 [Value.int .i64 a1.Before, Value.int .i64 a1.Behind, Value.slice A2 a1.Keep.length c3] 24 :: tk (Value.slice A157 y156.length c158) 1 9 :: tk (Value.slice A142 y141.length c143) 2 37 :: tk (Value.slice A67 v66.length c68) 1 5 :: L) w)) mixo rfl rfl ?_ ?_ ?_
                        · exact ⟨_, Gh.le_refl _, Regs.start ⟨rfl, rfl, rfl, rfl, rfl, rfl, rfl, rfl, rfl, rfl, rfl, trivial⟩ trivial, hI308.drew⟩
                        · refine ⟨?_, ?_, ?_, ?_, ?_, ?_, ?_, ?_, ?_, ?_, ?_, ?_, ?_, ?_, ?_, trivial⟩
                          · intro D r wd353 hR hDi hpre hpost
                            obtain ⟨G349, hG350, hReg352, hI351⟩ := hR
                            have hH : Has [(12, Value.int .i64 v283)] r := ⟨hReg352.ins.get 5 rfl, trivial⟩
                            obtain ⟨r0, rfl⟩ := hH.ex
                            refine q_mv (v := Value.int .i64 v283) rfl ?_
                            refine wpq_nil ?_
                            exact ⟨rfl, ⟨_, hG350, (Regs.step hReg352 hDi rfl rfl rfl rfl), hI351⟩⟩
                          · intro D r wd353 hR hDi hpre hpost
                            obtain ⟨G349, hG350, hReg352, hI351⟩ := hR
                            have hH : Has [(6, Value.slice A67 v66.length c68)] r := ⟨hReg352.ins.get 1 rfl, trivial⟩
                            obtain ⟨r0, rfl⟩ := hH.ex
                            refine q_mv (v := Value.slice A67 v66.length c68) rfl ?_
                            refine wpq_nil ?_
                            exact ⟨rfl, ⟨_, hG350, (Regs.step hReg352 hDi rfl rfl rfl rfl), hI351⟩⟩
                          · intro D r wd353 hR hDi hpre hpost
                            obtain ⟨G349, hG350, hReg352, hI351⟩ := hR
                            have hH : Has [(92, Value.slice A67 v66.length c68)] r := ⟨hReg352.get 1 rfl (hpre 1 rfl), trivial⟩
                            obtain ⟨r0, rfl⟩ := hH.ex
                            refine q_len so38 rfl ?_
                            refine wpq_nil ?_
                            exact ⟨rfl, ⟨_, hG350, (Regs.step hReg352 hDi rfl rfl rfl rfl), hI351⟩⟩
                          · intro D r wd353 hR hDi hpre hpost
                            obtain ⟨G349, hG350, hReg352, hI351⟩ := hR
                            have hH : Has [(91, Value.int .i64 v283), (93, Value.int .i64 (v66.length : Int))] r := ⟨hReg352.get 0 rfl (hpre 0 rfl), hReg352.get 2 rfl (hpre 2 rfl), trivial⟩
                            obtain ⟨r0, rfl⟩ := hH.ex
                            refine q_lss rfl rfl ?_
                            refine wpq_nil ?_
                            exact ⟨rfl, ⟨_, hG350, (Regs.step hReg352 hDi rfl rfl rfl rfl), hI351⟩⟩
                          · intro D r wd353 hR hDi hpre hpost
                            obtain ⟨G349, hG350, hReg352, hI351⟩ := hR
                            have hH : Has [(94, Value.bool (decide (v283 < (v66.length : Int))))] r := ⟨hReg352.get 3 rfl (hpre 3 rfl), trivial⟩
                            obtain ⟨r0, rfl⟩ := hH.ex
                            refine q_mv (v := Value.bool (decide (v283 < (v66.length : Int)))) rfl ?_
                            refine wpq_nil ?_
                            exact ⟨rfl, ⟨_, hG350, (Regs.step hReg352 hDi rfl rfl rfl rfl), hI351⟩⟩
                          · intro D r wd353 hR hDi hpre hpost
                            obtain ⟨G349, hG350, hReg352, hI351⟩ := hR
                            have hH : Has [(95, Value.bool (decide (v283 < (v66.length : Int))))] r := ⟨hReg352.get 4 rfl (hpre 4 rfl), trivial⟩
                            obtain ⟨r0, rfl⟩ := hH.ex
                            refine wpq_no (guard_no rfl rfl rfl (bool_no h335) rfl) ?_
                            refine wpq_nil ?_
                            exact ⟨rfl, ⟨_, hG350, (Regs.step hReg352 hDi rfl rfl rfl rfl), hI351⟩⟩
                          · intro D r wd353 hR hDi hpre hpost
                            obtain ⟨G349, hG350, hReg352, hI351⟩ := hR
                            have hH : Has [(95, Value.bool (decide (v283 < (v66.length : Int))))] r := ⟨hReg352.get 4 rfl (hpre 4 rfl), trivial⟩
                            obtain ⟨r0, rfl⟩ := hH.ex
                            refine wpq_no (guard_no rfl rfl rfl (bool_no h335) rfl) ?_
                            refine wpq_nil ?_
                            exact ⟨rfl, ⟨_, hG350, (Regs.step hReg352 hDi rfl rfl rfl rfl), hI351⟩⟩
                          · intro D r wd353 hR hDi hpre hpost
                            obtain ⟨G349, hG350, hReg352, hI351⟩ := hR
                            have hH : Has [(95, Value.bool (decide (v283 < (v66.length : Int))))] r := ⟨hReg352.get 4 rfl (hpre 4 rfl), trivial⟩
                            obtain ⟨r0, rfl⟩ := hH.ex
                            refine wpq_no (guard_no rfl rfl rfl (bool_no h335) rfl) ?_
                            refine wpq_nil ?_
                            exact ⟨rfl, ⟨_, hG350, (Regs.step hReg352 hDi rfl rfl rfl rfl), hI351⟩⟩
                          · intro D r wd353 hR hDi hpre hpost
                            obtain ⟨G349, hG350, hReg352, hI351⟩ := hR
                            have hH : Has [(95, Value.bool (decide (v283 < (v66.length : Int))))] r := ⟨hReg352.get 4 rfl (hpre 4 rfl), trivial⟩
                            obtain ⟨r0, rfl⟩ := hH.ex
                            refine wpq_no (guard_no rfl rfl rfl (bool_no h335) rfl) ?_
                            refine wpq_nil ?_
                            exact ⟨rfl, ⟨_, hG350, (Regs.step hReg352 hDi rfl rfl rfl rfl), hI351⟩⟩
                          · intro D r wd353 hR hDi hpre hpost
                            obtain ⟨G349, hG350, hReg352, hI351⟩ := hR
                            have hH : Has [(95, Value.bool (decide (v283 < (v66.length : Int))))] r := ⟨hReg352.get 4 rfl (hpre 4 rfl), trivial⟩
                            obtain ⟨r0, rfl⟩ := hH.ex
                            refine wpq_no (guard_no rfl rfl rfl (bool_no h335) rfl) ?_
                            refine wpq_nil ?_
                            exact ⟨rfl, ⟨_, hG350, (Regs.step hReg352 hDi rfl rfl rfl rfl), hI351⟩⟩
                          · intro D r wd353 hR hDi hpre hpost
                            obtain ⟨G349, hG350, hReg352, hI351⟩ := hR
                            have hH : Has [(95, Value.bool (decide (v283 < (v66.length : Int))))] r := ⟨hReg352.get 4 rfl (hpre 4 rfl), trivial⟩
                            obtain ⟨r0, rfl⟩ := hH.ex
                            refine wpq_no (guard_no rfl rfl rfl (bool_no h335) rfl) ?_
                            refine wpq_nil ?_
                            exact ⟨rfl, ⟨_, hG350, (Regs.step hReg352 hDi rfl rfl rfl rfl), hI351⟩⟩
                          · intro D r wd353 hR hDi hpre hpost
                            obtain ⟨G349, hG350, hReg352, hI351⟩ := hR
                            have hH : Has [(95, Value.bool (decide (v283 < (v66.length : Int))))] r := ⟨hReg352.get 4 rfl (hpre 4 rfl), trivial⟩
                            obtain ⟨r0, rfl⟩ := hH.ex
                            refine wpq_no (guard_no rfl rfl rfl (bool_no h335) rfl) ?_
                            refine wpq_nil ?_
                            exact ⟨rfl, ⟨_, hG350, (Regs.step hReg352 hDi rfl rfl rfl rfl), hI351⟩⟩
                          · intro D r wd353 hR hDi hpre hpost
                            obtain ⟨G349, hG350, hReg352, hI351⟩ := hR
                            have hH : Has [(95, Value.bool (decide (v283 < (v66.length : Int))))] r := ⟨hReg352.get 4 rfl (hpre 4 rfl), trivial⟩
                            obtain ⟨r0, rfl⟩ := hH.ex
                            refine wpq_no (guard_no rfl rfl rfl (bool_no h335) rfl) ?_
                            refine wpq_nil ?_
                            exact ⟨rfl, ⟨_, hG350, (Regs.step hReg352 hDi rfl rfl rfl rfl), hI351⟩⟩
                          · intro D r wd353 hR hDi hpre hpost
                            obtain ⟨G349, hG350, hReg352, hI351⟩ := hR
                            have hH : Has [(95, Value.bool (decide (v283 < (v66.length : Int)))), (103, undef)] r := ⟨hReg352.get 4 rfl (hpre 4 rfl), hReg352.get 12 rfl (hpre 12 rfl), trivial⟩
                            obtain ⟨r0, rfl⟩ := hH.ex
                            refine q_pick false (v := Value.bool false) (bool_no h335) rfl ?_
                            refine wpq_nil ?_
                            exact ⟨rfl, ⟨_, hG350, (Regs.step hReg352 hDi rfl rfl rfl rfl), hI351⟩⟩
                          · intro D r wd353 hR hDi hpre hpost
                            obtain ⟨G349, hG350, hReg352, hI351⟩ := hR
                            have hH : Has [(104, Value.bool false)] r := ⟨hReg352.get 13 rfl (hpre 13 rfl), trivial⟩
                            obtain ⟨r0, rfl⟩ := hH.ex
                            refine q_as (v := Value.bool false) rfl ?_
                            refine wpq_nil ?_
                            exact ⟨rfl, ⟨_, hG350, (Regs.step hReg352 hDi rfl rfl rfl rfl), hI351⟩⟩
                        · intro D r wd353 hall hR
                          obtain ⟨G349, hG350, hReg352, hI351⟩ := hR
                          have hH : Has [(5, Value.bool y20), (6, Value.slice A67 v66.length c68), (9, Value.int .i64 y148), (10, Value.slice A157 y156.length c158), (11, Value.int .i64 y163), (12, Value.int .i64 v283), (13, Value.int .i64 v284), (14, Value.int .i64 v183), (16, Value.int .i64 v230), (17, Value.string (y156.getD (Int.toNat v230) (⟨#[]⟩ : ByteArray))), (18, Value.int .i64 v285), (90, Value.bool false)] r := ⟨hReg352.ins.get 0 rfl, hReg352.ins.get 1 rfl, hReg352.ins.get 2 rfl, hReg352.ins.get 3 rfl, hReg352.ins.get 4 rfl, hReg352.ins.get 5 rfl, hReg352.ins.get 6 rfl, hReg352.ins.get 7 rfl, hReg352.ins.get 8 rfl, hReg352.ins.get 9 rfl, hReg352.ins.get 10 rfl, hReg352.get 14 rfl (hall 14 (Nat.le_of_ble_eq_true rfl)), trivial⟩
                          obtain ⟨r0, rfl⟩ := hH.ex
                          cases H
                          exact ⟨rfl, _, rfl, hG350, ⟨rfl, rfl, rfl, rfl, rfl, rfl, rfl, rfl, rfl, rfl, rfl, rfl, trivial⟩, hI351, trivial⟩
                    · clear hC
                      rintro e r ds wd332 ⟨rfl, G330, rfl, hG331, hHas, hI333, _⟩
                      rw [hHas.eq]; clear hHas
                      refine hK328 _ _ _ ?_
                      by_cases h354 : v329 = true
                      · replace H := ite_yes h354 H
                        refine wpc_true (bval_yes h354) ?_
                        refine wpc_region ?_
                        refine q_mv (v := Value.int .i64 v283) rfl ?_
                        refine q_add rfl rfl ?_
                        refine q_as (v := Value.int .i64 (w64 (v283 + 1))) rfl ?_
                        refine wpq_nil ?_
                        cases H
                        exact ⟨rfl, _, rfl, hG331, ⟨rfl, rfl, rfl, rfl, rfl, rfl, rfl, rfl, rfl, rfl, rfl, trivial⟩, hI333, trivial⟩
                      · replace H := ite_no h354 H
                        refine wpc_false (bval_no h354) ?_
                        refine wpc_seq_k fun K355 hK356 => ?_
                        refine wpc_region ?_
                        refine q_mv (v := Value.string (y156.getD (Int.toNat v230) (⟨#[]⟩ : ByteArray))) rfl ?_
                        refine q_mv (v := Value.int .i64 v285) rfl ?_
                        obtain ⟨⟨h357, h357'⟩, H⟩ := ite_some H
                        refine q_is so9 rfl rfl h357 h357' rfl ?_
                        refine q_eql rfl rfl ?_
                        refine q_mv (v := Value.bool (decide ((bt (y156.getD (Int.toNat v230) (⟨#[]⟩ : ByteArray)) v285) = 45))) rfl ?_
                        obtain ⟨v358, hC, H⟩ := bind_some H
                        refine wpq_split 6 (K := fun e r ds w => e = .normal ∧ ∃ (G359 : Gh), ds = [] ∧ G330 ≤ G359 ∧ Has [(5, Value.bool y20), (6, Value.slice A67 v66.length c68), (9, Value.int .i64 y148), (10, Value.slice A157 y156.length c158), (11, Value.int .i64 y163), (12, Value.int .i64 v283), (13, Value.int .i64 v284), (14, Value.int .i64 v183), (16, Value.int .i64 v230), (17, Value.string (y156.getD (Int.toNat v230) (⟨#[]⟩ : ByteArray))), (18, Value.int .i64 v285), (118, Value.bool v358)] r ∧ Hp G359 (bx g10 [Value.int .i64 a1.Before, Value.int .i64 a1.Behind, Value.slice A2 a1.Keep.length c3] 24 :: tk (Value.slice A157 y156.length c158) 1 9 :: tk (Value.slice A142 y141.length c143) 2 37 :: tk (Value.slice A67 v66.length c68) 1 5 :: L) w ∧ True) ?_ ?_
                        · replace H := hC
                          by_cases h364 : (bt (y156.getD (Int.toNat v230) (⟨#[]⟩ : ByteArray)) v285) = 45
                          · replace H := ite_yes h364 H
                            refine q_mv (v := Value.int .i64 v285) rfl ?_ (hw := guard_yes rfl rfl rfl (bool_yes h364))
                            refine q_mv (v := Value.string (y156.getD (Int.toNat v230) (⟨#[]⟩ : ByteArray))) rfl ?_ (hw := guard_yes rfl rfl rfl (bool_yes h364))
                            refine q_lens so9 rfl ?_ (hw := guard_yes rfl rfl rfl (bool_yes h364))
                            refine q_sub rfl rfl ?_ (hw := guard_yes rfl rfl rfl (bool_yes h364))
                            refine q_eql rfl rfl ?_ (hw := guard_yes rfl rfl rfl (bool_yes h364))
                            refine q_pick true (v := Value.bool (decide (v285 = (w64 (((y156.getD (Int.toNat v230) (⟨#[]⟩ : ByteArray)).size : Int) - 1))))) (bool_yes h364) rfl ?_
                            refine wpq_nil ?_
                            cases H
                            exact ⟨rfl, _, rfl, (Gh.le_refl _), ⟨rfl, rfl, rfl, rfl, rfl, rfl, rfl, rfl, rfl, rfl, rfl, rfl, trivial⟩, hI333, trivial⟩
                          · replace H := ite_no h364 H
                            refine wpq_no (guard_no rfl rfl rfl (bool_no h364) rfl) ?_
                            refine wpq_no (guard_no rfl rfl rfl (bool_no h364) rfl) ?_
                            refine wpq_no (guard_no rfl rfl rfl (bool_no h364) rfl) ?_
                            refine wpq_no (guard_no rfl rfl rfl (bool_no h364) rfl) ?_
                            refine wpq_no (guard_no rfl rfl rfl (bool_no h364) rfl) ?_
                            refine q_pick false (v := Value.bool false) (bool_no h364) rfl ?_
                            refine wpq_nil ?_
                            cases H
                            exact ⟨rfl, _, rfl, (Gh.le_refl _), ⟨rfl, rfl, rfl, rfl, rfl, rfl, rfl, rfl, rfl, rfl, rfl, rfl, trivial⟩, hI333, trivial⟩
                        · clear hC
                          rintro e r ds wd361 ⟨rfl, G359, rfl, hG360, hHas, hI362, _⟩
                          rw [hHas.eq]; clear hHas
                          refine q_as (v := Value.bool v358) rfl ?_
                          refine wpq_nil ?_
                          refine hK356 _ _ _ ?_
                          by_cases h365 : v358 = true
                          · replace H := ite_yes h365 H
                            refine wpc_true (bval_yes h365) ?_
                            refine wpc_region ?_
                            refine q_mv (v := Value.int .i64 v284) rfl ?_
                            refine q_add rfl rfl ?_
                            refine q_as (v := Value.int .i64 (w64 (v284 + 1))) rfl ?_
                            refine wpq_nil ?_
                            cases H
                            exact ⟨rfl, _, rfl, (Gh.le_trans hG331 hG360), ⟨rfl, rfl, rfl, rfl, rfl, rfl, rfl, rfl, rfl, rfl, rfl, trivial⟩, hI362, trivial⟩
                          · replace H := ite_no h365 H
                            refine wpc_false (bval_no h365) ?_
                            refine wpc_seq_k fun K366 hK367 => ?_
                            refine wpc_region ?_
                            refine q_as (v := Value.bool false) rfl ?_
                            refine wpq_nil ?_
                            refine hK367 _ _ _ ?_
                            refine wpc_ret ?_
                            cases H
                            exact ⟨rfl, _, rfl, (Gh.le_trans hG331 hG360), ⟨rfl, trivial⟩, hI362, trivial⟩
                  · clear hC
                    rcases o326 with _ | ⟨v316, v317⟩
                    · rintro e r ds wd320 ⟨rfl, G318, rfl, hG319, hHas, hI321, _⟩
                      rw [hHas.eq]; clear hHas
                      cases H
                      exact ⟨rfl, _, rfl, (Gh.le_trans hG306 hG319), ⟨rfl, trivial⟩, hI321, trivial⟩
                    · rintro e r ds wd324 ⟨rfl, G322, rfl, hG323, hHas, hI325, _⟩
                      rw [hHas.eq]; clear hHas
                      refine hK315 _ _ _ ?_
                      refine wpc_region ?_
                      refine q_mv (v := Value.int .i64 v285) rfl ?_
                      refine q_add rfl rfl ?_
                      refine q_as (v := Value.int .i64 (w64 (v285 + 1))) rfl ?_
                      refine wpq_nil ?_
                      exact ih _ _ _ _ H _ _ _ (Gh.le_trans hG306 hG323) ⟨rfl, rfl, rfl, rfl, rfl, rfl, rfl, rfl, rfl, rfl, rfl, trivial⟩ hI325 rfl
                · replace H := ite_no h313 H
                  refine wpc_false (bool_no h313) ?_
                  refine wpc_exit ?_
                  cases H
                  exact ⟨rfl, _, rfl, hG306, ⟨rfl, rfl, rfl, rfl, rfl, rfl, rfl, rfl, rfl, trivial⟩, hI308, trivial⟩
              · clear hC
                rcases o304 with _ | ⟨v294, v295⟩
                · rintro e r ds wd298 ⟨rfl, G296, rfl, hG297, hHas, hI299, _⟩
                  rw [hHas.eq]; clear hHas
                  cases H
                  exact ⟨rfl, _, rfl, (Gh.le_trans hG251 hG297), ⟨rfl, trivial⟩, hI299, trivial⟩
                · rintro e r ds wd302 ⟨rfl, G300, rfl, hG301, hHas, hI303, _⟩
                  rw [hHas.eq]; clear hHas
                  refine hK260 _ _ _ ?_
                  refine wpc_region ?_
                  refine q_mv (v := Value.int .i64 v230) rfl ?_
                  refine q_add rfl rfl ?_
                  refine q_as (v := Value.int .i64 (w64 (v230 + 1))) rfl ?_
                  refine wpq_nil ?_
                  exact ih _ _ _ _ H _ _ _ (Gh.le_trans hG251 hG301) ⟨rfl, rfl, rfl, rfl, rfl, rfl, rfl, rfl, rfl, trivial⟩ hI303 rfl
          · replace H := ite_no h258 H
            refine wpc_false (bool_no h258) ?_
            refine wpc_exit ?_
            cases H
            exact ⟨rfl, _, rfl, hG251, ⟨rfl, rfl, rfl, rfl, rfl, rfl, rfl, trivial⟩, hI253, trivial⟩
        · clear hC
          rcases o249 with _ | ⟨v239, v240⟩
          · rintro e r ds wd243 ⟨rfl, G241, rfl, hG242, hHas, hI244, _⟩
            rw [hHas.eq]; clear hHas
            have hI368 := Hp.sub (L := bx g10 [Value.int .i64 a1.Before, Value.int .i64 a1.Behind, Value.slice A2 a1.Keep.length c3] 24 :: tk (Value.slice A157 y156.length c158) 1 9 :: tk (Value.slice A142 y141.length c143) 2 37 :: tk (Value.slice A67 v66.length c68) 1 5 :: L) (L' := L) hI244 (List.Sublist.cons _ (List.Sublist.cons _ (List.Sublist.cons _ (List.Sublist.cons _ (List.Sublist.refl _)))))
            cases H
            exact ⟨.inr rfl, rfl, _, ⟨_, _, rfl, rfl, rfl⟩, _, (Gh.le_trans (Gh.le_trans (Gh.le_trans (Gh.le_trans (Gh.le_trans (Gh.le_trans hG17 hG27) hG74) hG138) hG153) hG185) hG242), hI368, rfl⟩
          · rintro e r ds wd247 ⟨rfl, G245, rfl, hG246, hHas, hI248, _⟩
            rw [hHas.eq]; clear hHas
            refine hK221 _ _ _ ?_
            refine wpc_seq_k fun K369 hK370 => ?_
            refine wpc_region ?_
            refine q_mv (v := Value.bool y20) rfl ?_
            refine q_mv (v := Value.bool y20) rfl ?_
            obtain ⟨v371, hC, H⟩ := bind_some H
            refine wpq_split 3 (K := fun e r ds w => e = .normal ∧ ∃ (G372 : Gh), ds = [] ∧ G245 ≤ G372 ∧ Has [(6, Value.slice A67 v66.length c68), (11, Value.int .i64 y163), (12, Value.int .i64 v239), (13, Value.int .i64 v240), (14, Value.int .i64 v183), (125, Value.bool v371)] r ∧ Hp G372 (bx g10 [Value.int .i64 a1.Before, Value.int .i64 a1.Behind, Value.slice A2 a1.Keep.length c3] 24 :: tk (Value.slice A157 y156.length c158) 1 9 :: tk (Value.slice A142 y141.length c143) 2 37 :: tk (Value.slice A67 v66.length c68) 1 5 :: L) w ∧ True) ?_ ?_
            · replace H := hC
              by_cases h377 : y20 = true
              · replace H := ite_yes h377 H
                refine q_mv (v := Value.int .i64 y148) rfl ?_ (hw := guard_yes rfl rfl rfl (bval_yes h377))
                refine q_eql rfl rfl ?_ (hw := guard_yes rfl rfl rfl (bval_yes h377))
                refine q_pick true (v := Value.bool (decide (y148 = 0))) (bval_yes h377) rfl ?_
                refine wpq_nil ?_
                cases H
                exact ⟨rfl, _, rfl, (Gh.le_refl _), ⟨rfl, rfl, rfl, rfl, rfl, rfl, trivial⟩, hI248, trivial⟩
              · replace H := ite_no h377 H
                refine wpq_no (guard_no rfl rfl rfl (bval_no h377) rfl) ?_
                refine wpq_no (guard_no rfl rfl rfl (bval_no h377) rfl) ?_
                refine q_pick false (v := Value.bool false) (bval_no h377) rfl ?_
                refine wpq_nil ?_
                cases H
                exact ⟨rfl, _, rfl, (Gh.le_refl _), ⟨rfl, rfl, rfl, rfl, rfl, rfl, trivial⟩, hI248, trivial⟩
            · clear hC
              rintro e r ds wd374 ⟨rfl, G372, rfl, hG373, hHas, hI375, _⟩
              rw [hHas.eq]; clear hHas
              refine q_mv (v := Value.bool v371) rfl ?_
              obtain ⟨v378, hC, H⟩ := bind_some H
              refine wpq_split 3 (K := fun e r ds w => e = .normal ∧ ∃ (G379 : Gh), ds = [] ∧ G372 ≤ G379 ∧ Has [(6, Value.slice A67 v66.length c68), (12, Value.int .i64 v239), (13, Value.int .i64 v240), (14, Value.int .i64 v183), (129, Value.bool v378)] r ∧ Hp G379 (bx g10 [Value.int .i64 a1.Before, Value.int .i64 a1.Behind, Value.slice A2 a1.Keep.length c3] 24 :: tk (Value.slice A157 y156.length c158) 1 9 :: tk (Value.slice A142 y141.length c143) 2 37 :: tk (Value.slice A67 v66.length c68) 1 5 :: L) w ∧ True) ?_ ?_
              · replace H := hC
                by_cases h384 : v371 = true
                · replace H := ite_yes h384 H
                  refine q_mv (v := Value.int .i64 y163) rfl ?_ (hw := guard_yes rfl rfl rfl (bval_yes h384))
                  refine q_eql rfl rfl ?_ (hw := guard_yes rfl rfl rfl (bval_yes h384))
                  refine q_pick true (v := Value.bool (decide (y163 = 0))) (bval_yes h384) rfl ?_
                  refine wpq_nil ?_
                  cases H
                  exact ⟨rfl, _, rfl, (Gh.le_refl _), ⟨rfl, rfl, rfl, rfl, rfl, trivial⟩, hI375, trivial⟩
                · replace H := ite_no h384 H
                  refine wpq_no (guard_no rfl rfl rfl (bval_no h384) rfl) ?_
                  refine wpq_no (guard_no rfl rfl rfl (bval_no h384) rfl) ?_
                  refine q_pick false (v := Value.bool false) (bval_no h384) rfl ?_
                  refine wpq_nil ?_
                  cases H
                  exact ⟨rfl, _, rfl, (Gh.le_refl _), ⟨rfl, rfl, rfl, rfl, rfl, trivial⟩, hI375, trivial⟩
              · clear hC
                rintro e r ds wd381 ⟨rfl, G379, rfl, hG380, hHas, hI382, _⟩
                rw [hHas.eq]; clear hHas
                refine q_mv (v := Value.bool v378) rfl ?_
                obtain ⟨v385, hC, H⟩ := bind_some H
                refine wpq_split 5 (K := fun e r ds w => e = .normal ∧ ∃ (G386 : Gh), ds = [] ∧ G379 ≤ G386 ∧ Has [(13, Value.int .i64 v240), (14, Value.int .i64 v183), (135, Value.bool v385)] r ∧ Hp G386 (bx g10 [Value.int .i64 a1.Before, Value.int .i64 a1.Behind, Value.slice A2 a1.Keep.length c3] 24 :: tk (Value.slice A157 y156.length c158) 1 9 :: tk (Value.slice A142 y141.length c143) 2 37 :: tk (Value.slice A67 v66.length c68) 1 5 :: L) w ∧ True) ?_ ?_
                · replace H := hC
                  by_cases h391 : v378 = true
                  · replace H := ite_yes h391 H
                    refine q_mv (v := Value.int .i64 v239) rfl ?_ (hw := guard_yes rfl rfl rfl (bval_yes h391))
                    refine q_mv (v := Value.slice A67 v66.length c68) rfl ?_ (hw := guard_yes rfl rfl rfl (bval_yes h391))
                    refine q_len so38 rfl ?_ (hw := guard_yes rfl rfl rfl (bval_yes h391))
                    refine q_eql rfl rfl ?_ (hw := guard_yes rfl rfl rfl (bval_yes h391))
                    refine q_pick true (v := Value.bool (decide (v239 = (v66.length : Int)))) (bval_yes h391) rfl ?_
                    refine wpq_nil ?_
                    cases H
                    exact ⟨rfl, _, rfl, (Gh.le_refl _), ⟨rfl, rfl, rfl, trivial⟩, hI382, trivial⟩
                  · replace H := ite_no h391 H
                    refine wpq_no (guard_no rfl rfl rfl (bval_no h391) rfl) ?_
                    refine wpq_no (guard_no rfl rfl rfl (bval_no h391) rfl) ?_
                    refine wpq_no (guard_no rfl rfl rfl (bval_no h391) rfl) ?_
                    refine wpq_no (guard_no rfl rfl rfl (bval_no h391) rfl) ?_
                    refine q_pick false (v := Value.bool false) (bval_no h391) rfl ?_
                    refine wpq_nil ?_
                    cases H
                    exact ⟨rfl, _, rfl, (Gh.le_refl _), ⟨rfl, rfl, rfl, trivial⟩, hI382, trivial⟩
                · clear hC
                  rintro e r ds wd388 ⟨rfl, G386, rfl, hG387, hHas, hI389, _⟩
                  rw [hHas.eq]; clear hHas
                  refine q_mv (v := Value.bool v385) rfl ?_
                  obtain ⟨v392, hC, H⟩ := bind_some H
                  refine wpq_split 4 (K := fun e r ds w => e = .normal ∧ ∃ (G393 : Gh), ds = [] ∧ G386 ≤ G393 ∧ Has [(140, Value.bool v392)] r ∧ Hp G393 (bx g10 [Value.int .i64 a1.Before, Value.int .i64 a1.Behind, Value.slice A2 a1.Keep.length c3] 24 :: tk (Value.slice A157 y156.length c158) 1 9 :: tk (Value.slice A142 y141.length c143) 2 37 :: tk (Value.slice A67 v66.length c68) 1 5 :: L) w ∧ True) ?_ ?_
                  · replace H := hC
                    by_cases h398 : v385 = true
                    · replace H := ite_yes h398 H
                      refine q_mv (v := Value.int .i64 v240) rfl ?_ (hw := guard_yes rfl rfl rfl (bval_yes h398))
                      refine q_mv (v := Value.int .i64 v183) rfl ?_ (hw := guard_yes rfl rfl rfl (bval_yes h398))
                      refine q_eql rfl rfl ?_ (hw := guard_yes rfl rfl rfl (bval_yes h398))
                      refine q_pick true (v := Value.bool (decide (v240 = v183))) (bval_yes h398) rfl ?_
                      refine wpq_nil ?_
                      cases H
                      exact ⟨rfl, _, rfl, (Gh.le_refl _), ⟨rfl, trivial⟩, hI389, trivial⟩
                    · replace H := ite_no h398 H
                      refine wpq_no (guard_no rfl rfl rfl (bval_no h398) rfl) ?_
                      refine wpq_no (guard_no rfl rfl rfl (bval_no h398) rfl) ?_
                      refine wpq_no (guard_no rfl rfl rfl (bval_no h398) rfl) ?_
                      refine q_pick false (v := Value.bool false) (bval_no h398) rfl ?_
                      refine wpq_nil ?_
                      cases H
                      exact ⟨rfl, _, rfl, (Gh.le_refl _), ⟨rfl, trivial⟩, hI389, trivial⟩
                  · clear hC
                    rintro e r ds wd395 ⟨rfl, G393, rfl, hG394, hHas, hI396, _⟩
                    rw [hHas.eq]; clear hHas
                    refine q_as (v := Value.bool v392) rfl ?_
                    refine wpq_nil ?_
                    refine hK370 _ _ _ ?_
                    refine wpc_ret ?_
                    have hI399 := Hp.sub (L := bx g10 [Value.int .i64 a1.Before, Value.int .i64 a1.Behind, Value.slice A2 a1.Keep.length c3] 24 :: tk (Value.slice A157 y156.length c158) 1 9 :: tk (Value.slice A142 y141.length c143) 2 37 :: tk (Value.slice A67 v66.length c68) 1 5 :: L) (L' := L) hI396 (List.Sublist.cons _ (List.Sublist.cons _ (List.Sublist.cons _ (List.Sublist.cons _ (List.Sublist.refl _)))))
                    cases H
                    exact ⟨.inr rfl, rfl, _, ⟨_, _, rfl, rfl, rfl⟩, _, (Gh.le_trans (Gh.le_trans (Gh.le_trans (Gh.le_trans (Gh.le_trans (Gh.le_trans (Gh.le_trans (Gh.le_trans (Gh.le_trans (Gh.le_trans hG17 hG27) hG74) hG138) hG153) hG185) hG246) hG373) hG380) hG387) hG394), hI399, rfl⟩
end Go.Proofs.YtiahgcidgbalkaaDoor.LG
