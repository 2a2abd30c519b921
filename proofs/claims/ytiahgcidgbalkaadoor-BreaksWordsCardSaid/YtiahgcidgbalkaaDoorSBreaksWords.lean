/-
  The walks: each function computes its plain function: printed by a program out of the translation.
-/
import Derived.Test.YtiahgcidgbalkaaDoorSc
set_option linter.unusedVariables false
set_option linter.unusedSimpArgs false
set_option maxRecDepth 100000
namespace Go.Proofs.YtiahgcidgbalkaaDoor.LG
open Go Go.LG Go.RowKit
open Go.Lib Go.Shelf Go.Proofs
set_option maxHeartbeats 1000000 in
theorem formelaw08_BreaksWords_spec {a1 : api_Breaks} {a6 : ByteArray} {A2 : Option Addr} {c3 : Nat} {r1343 : Bool} {G : Gh} {L : List Itm} {w : World} (hI : Hp G (L) w) (hl4 : a1.Keep.length ≤ c3) (hD5 : Dat Kd.str G A2 a1.Keep) (hgl : Gl G) (H : formelaw08_BreaksWords a1 a6 = some r1343) :
    Calls Tryd.prog 8 [Value.agg [Value.int .i64 a1.Before, Value.int .i64 a1.Behind, Value.slice A2 a1.Keep.length c3].toArray, Value.string a6].toArray w fun e w' => ∃ (G' : Gh), G ≤ G' ∧ Hp G' (L) w' ∧ e = .returned (Value.bool r1343) := by
  refine calls_intro (N := 150) Tryd.func8 rfl rfl (Nat.le_of_ble_eq_true rfl) ?_
  unfold formelaw08_BreaksWords at H
  refine wpc_seq_k fun K7 hK8 => ?_
  refine wpc_region ?_
  refine q_box hI (v := Value.agg [Value.int .i64 a1.Before, Value.int .i64 a1.Behind, Value.slice A2 a1.Keep.length c3].toArray) (vs := [Value.int .i64 a1.Before, Value.int .i64 a1.Behind, Value.slice A2 a1.Keep.length c3]) rfl rfl (fun g10 wd11 hI12 => ?_)
  refine q_as (v := Value.bool false) rfl ?_
  refine wpq_nil ?_
  refine hK8 _ _ _ ?_
  refine wpc_seq_k fun K13 hK14 => ?_
  refine wpc_region ?_
  obtain ⟨y20, hy15, H⟩ := bind_some H
  refine q_cv (vs := []) bo9 rfl rfl (formelaw08_head_spec hI12 (hgl.mono (Gh.le_refl _)) hy15) ?_
  rintro _ wd18 ⟨G16, hG17, hI19, rfl⟩
  refine ⟨_, rfl, ?_⟩
  refine q_as (v := Value.bool y20) rfl ?_
  refine wpq_nil ?_
  refine hK14 _ _ _ ?_
  refine wpc_seq_k fun K21 hK22 => ?_
  refine wpc_seq_k fun K23 hK24 => ?_
  refine wpc_region ?_
  refine q_ldA hI19 0 (cs := [Value.int .i64 a1.Before, Value.int .i64 a1.Behind, Value.slice A2 a1.Keep.length c3]) ag24 rfl rfl rfl rfl ?_
  refine q_mv (v := Value.string a6) rfl ?_
  obtain ⟨y30, hy25, H⟩ := bind_some H
  refine q_cv (vs := [Value.agg [Value.int .i64 a1.Before, Value.int .i64 a1.Behind, Value.slice A2 a1.Keep.length c3].toArray, Value.string a6]) bo18 rfl rfl (formelaw08_usable_spec (a1 := a1) (a6 := a6) hI19 hl4 (Dat.mono hG17 hD5) hy25) ?_
  rintro _ wd28 ⟨G26, hG27, hI29, rfl⟩
  refine ⟨_, rfl, ?_⟩
  refine q_not rfl ?_
  refine wpq_nil ?_
  refine hK24 _ _ _ ?_
  by_cases h31 : (!y30) = true
  · replace H := ite_yes h31 H
    refine wpc_true (bval_yes h31) ?_
    refine wpc_seq_k fun K32 hK33 => ?_
    refine wpc_region ?_
    refine q_mv (v := Value.bool y20) rfl ?_
    refine q_as (v := Value.bool y20) rfl ?_
    refine wpq_nil ?_
    refine hK33 _ _ _ ?_
    refine wpc_ret ?_
    have hI34 := Hp.sub (L := bx g10 [Value.int .i64 a1.Before, Value.int .i64 a1.Behind, Value.slice A2 a1.Keep.length c3] 24 :: L) (L' := L) hI29 (List.Sublist.cons _ (List.Sublist.refl _))
    cases H
    exact ⟨.inr rfl, rfl, _, ⟨_, _, rfl, rfl, rfl⟩, _, (Gh.le_trans hG17 hG27), hI34, rfl⟩
  · replace H := ite_no h31 H
    refine wpc_false (bval_no h31) ?_
    refine wpc_skip ?_
    refine hK22 _ _ _ ?_
    refine wpc_seq_k fun K35 hK36 => ?_
    refine wpc_seq_k fun K37 hK38 => ?_
    refine wpc_region ?_
    refine q_as (v := Value.int .i64 0) rfl ?_
    refine wpq_nil ?_
    refine hK38 _ _ _ ?_
    refine wpc_block ?_
    obtain ⟨o58, hC, H⟩ := bind_some H
    refine wpc_mono (Q := fun e r ds w => match (generalizing := false) o58 with | (Sum.inl _) => e = .ret ∧ ∃ (G50 : Gh), ds = [] ∧ G26 ≤ G50 ∧ Has [(4, Value.bool y20)] r ∧ Hp G50 (bx g10 [Value.int .i64 a1.Before, Value.int .i64 a1.Behind, Value.slice A2 a1.Keep.length c3] 24 :: L) w ∧ True | (Sum.inr _) => e = .exit 0 ∧ ∃ (G54 : Gh), ds = [] ∧ G26 ≤ G54 ∧ Has [(1, Value.string a6), (2, Value.pointer (some ⟨g10, 0, none⟩)), (5, Value.bool y20)] r ∧ Hp G54 (bx g10 [Value.int .i64 a1.Before, Value.int .i64 a1.Behind, Value.slice A2 a1.Keep.length c3] 24 :: L) w ∧ True) ?_ ?_
    · clear H
      refine wpc_loop fun I hLp => ?_
      refine formelaw08_BreaksWords_l49.partial_correctness a6 (fun v43 o => ∀ (G59 : Gh) (r : Rg) (w : World), G26 ≤ G59 → Has [(1, Value.string a6), (2, Value.pointer (some ⟨g10, 0, none⟩)), (5, Value.bool y20), (6, Value.int .i64 v43)] r → Hp G59 (bx g10 [Value.int .i64 a1.Before, Value.int .i64 a1.Behind, Value.slice A2 a1.Keep.length c3] 24 :: L) w → o = o58 → I r [] w) ?_ 0 _ hC _ _ _ (Gh.le_refl _) ⟨rfl, rfl, rfl, rfl, trivial⟩ hI29 rfl
      intro _ ih v43 o H G59 r wd61 hG60 hHas hI62 ho
      rw [ho] at H; clear ho
      rw [hHas.eq]; clear hHas
      refine hLp _ _ _ ?_
      refine wpc_seq_k fun K63 hK64 => ?_
      refine wpc_seq_k fun K65 hK66 => ?_
      refine wpc_region ?_
      refine q_mv (v := Value.int .i64 v43) rfl ?_
      refine q_mv (v := Value.string a6) rfl ?_
      refine q_lens so9 rfl ?_
      refine q_lss rfl rfl ?_
      refine wpq_nil ?_
      refine hK66 _ _ _ ?_
      by_cases h67 : v43 < (a6.size : Int)
      · replace H := ite_yes h67 H
        refine wpc_true (bool_yes h67) ?_
        refine wpc_skip ?_
        refine hK64 _ _ _ ?_
        refine wpc_seq_k fun K68 hK69 => ?_
        refine wpc_block ?_
        refine wpc_seq_k fun K70 hK71 => ?_
        refine wpc_region ?_
        refine q_mv (v := Value.string a6) rfl ?_
        refine q_mv (v := Value.int .i64 v43) rfl ?_
        obtain ⟨⟨h72, h72'⟩, H⟩ := ite_some H
        refine q_is so9 rfl rfl h72 h72' rfl ?_
        refine q_eql rfl rfl ?_
        refine q_mv (v := Value.bool (decide ((bt a6 v43) = 45))) rfl ?_
        obtain ⟨v73, hC, H⟩ := bind_some H
        refine wpq_split 5 (K := fun e r ds w => e = .normal ∧ ∃ (G74 : Gh), ds = [] ∧ G59 ≤ G74 ∧ Has [(1, Value.string a6), (2, Value.pointer (some ⟨g10, 0, none⟩)), (5, Value.bool y20), (6, Value.int .i64 v43), (36, Value.bool v73)] r ∧ Hp G74 (bx g10 [Value.int .i64 a1.Before, Value.int .i64 a1.Behind, Value.slice A2 a1.Keep.length c3] 24 :: L) w ∧ True) ?_ ?_
        · replace H := hC
          by_cases h79 : (bt a6 v43) = 45
          · replace H := ite_yes h79 H
            refine wpq_no (guard_no rfl rfl rfl (bool_yes h79) rfl) ?_
            refine wpq_no (guard_no rfl rfl rfl (bool_yes h79) rfl) ?_
            refine wpq_no (guard_no rfl rfl rfl (bool_yes h79) rfl) ?_
            refine wpq_no (guard_no rfl rfl rfl (bool_yes h79) rfl) ?_
            refine q_pick true (v := Value.bool true) (bool_yes h79) rfl ?_
            refine wpq_nil ?_
            cases H
            exact ⟨rfl, _, rfl, (Gh.le_refl _), ⟨rfl, rfl, rfl, rfl, rfl, trivial⟩, hI62, trivial⟩
          · replace H := ite_no h79 H
            refine q_mv (v := Value.string a6) rfl ?_ (hw := guard_yes rfl rfl rfl (bool_no h79))
            refine q_mv (v := Value.int .i64 v43) rfl ?_ (hw := guard_yes rfl rfl rfl (bool_no h79))
            obtain ⟨⟨h80, h80'⟩, H⟩ := ite_some H
            refine q_is so9 rfl rfl h80 h80' rfl ?_ (hw := guard_yes rfl rfl rfl (bool_no h79))
            refine q_eql rfl rfl ?_ (hw := guard_yes rfl rfl rfl (bool_no h79))
            refine q_pick false (v := Value.bool (decide ((bt a6 v43) = 126))) (bool_no h79) rfl ?_
            refine wpq_nil ?_
            cases H
            exact ⟨rfl, _, rfl, (Gh.le_refl _), ⟨rfl, rfl, rfl, rfl, rfl, trivial⟩, hI62, trivial⟩
        · clear hC
          rintro e r ds wd76 ⟨rfl, G74, rfl, hG75, hHas, hI77, _⟩
          rw [hHas.eq]; clear hHas
          refine wpq_nil ?_
          refine hK71 _ _ _ ?_
          by_cases h81 : v73 = true
          · replace H := ite_yes h81 H
            refine wpc_true (bval_yes h81) ?_
            refine wpc_seq_k fun K82 hK83 => ?_
            refine wpc_region ?_
            refine q_mv (v := Value.bool y20) rfl ?_
            refine q_as (v := Value.bool y20) rfl ?_
            refine wpq_nil ?_
            refine hK83 _ _ _ ?_
            refine wpc_ret ?_
            cases H
            exact ⟨rfl, _, rfl, (Gh.le_trans hG60 hG75), ⟨rfl, trivial⟩, hI77, trivial⟩
          · replace H := ite_no h81 H
            refine wpc_false (bval_no h81) ?_
            refine wpc_skip ?_
            refine hK69 _ _ _ ?_
            refine wpc_region ?_
            refine q_mv (v := Value.int .i64 v43) rfl ?_
            refine q_add rfl rfl ?_
            refine q_as (v := Value.int .i64 (w64 (v43 + 1))) rfl ?_
            refine wpq_nil ?_
            exact ih _ _ H _ _ _ (Gh.le_trans hG60 hG75) ⟨rfl, rfl, rfl, rfl, trivial⟩ hI77 rfl
      · replace H := ite_no h67 H
        refine wpc_false (bool_no h67) ?_
        refine wpc_exit ?_
        cases H
        exact ⟨rfl, _, rfl, hG60, ⟨rfl, rfl, rfl, trivial⟩, hI62, trivial⟩
    · clear hC
      rcases o58 with _ | _
      · rintro e r ds wd52 ⟨rfl, G50, rfl, hG51, hHas, hI53, _⟩
        rw [hHas.eq]; clear hHas
        have hI84 := Hp.sub (L := bx g10 [Value.int .i64 a1.Before, Value.int .i64 a1.Behind, Value.slice A2 a1.Keep.length c3] 24 :: L) (L' := L) hI53 (List.Sublist.cons _ (List.Sublist.refl _))
        cases H
        exact ⟨.inr rfl, rfl, _, ⟨_, _, rfl, rfl, rfl⟩, _, (Gh.le_trans (Gh.le_trans hG17 hG27) hG51), hI84, rfl⟩
      · rintro e r ds wd56 ⟨rfl, G54, rfl, hG55, hHas, hI57, _⟩
        rw [hHas.eq]; clear hHas
        refine hK36 _ _ _ ?_
        refine wpc_seq_k fun K85 hK86 => ?_
        refine wpc_region ?_
        refine q_ldA hI57 0 (cs := [Value.int .i64 a1.Before, Value.int .i64 a1.Behind, Value.slice A2 a1.Keep.length c3]) ag24 rfl rfl rfl rfl ?_
        refine q_mv (v := Value.string a6) rfl ?_
        obtain ⟨⟨y92, y99⟩, hy87, H⟩ := bind_some H
        refine q_cv (vs := [Value.agg [Value.int .i64 a1.Before, Value.int .i64 a1.Behind, Value.slice A2 a1.Keep.length c3].toArray, Value.string a6]) bo15 rfl rfl (breaks_Least_spec (a1 := a1) (a6 := a6) hI57 hl4 (Dat.mono (Gh.le_trans (Gh.le_trans hG17 hG27) hG55) hD5) (hgl.mono (Gh.le_trans (Gh.le_trans hG17 hG27) hG55)) hy87) ?_
        rintro _ wd90 ⟨A93, c94, G88, hG89, hI91, hl95, hD96, ho97, rfl⟩
        refine ⟨_, rfl, ?_⟩
        refine q_mv (v := Value.tuple [Value.slice A93 y92.length c94, Value.int .i64 y99].toArray) rfl ?_
        refine q_ex (v := Value.slice A93 y92.length c94) rfl rfl ?_
        refine q_ex (v := Value.int .i64 y99) rfl rfl ?_
        refine q_as (v := Value.slice A93 y92.length c94) rfl ?_
        refine q_as (v := Value.int .i64 y99) rfl ?_
        refine wpq_nil ?_
        refine hK86 _ _ _ ?_
        refine wpc_seq_k fun K100 hK101 => ?_
        refine wpc_region ?_
        refine q_mv (v := Value.string a6) rfl ?_
        obtain ⟨⟨y107, y108⟩, hy102, H⟩ := bind_some H
        refine q_cv (vs := [Value.string a6]) bo19 rfl rfl (text_Words_spec (a1 := a6) hI91 hy102) ?_
        rintro _ wd105 ⟨G103, hG104, hI106, rfl⟩
        refine ⟨_, rfl, ?_⟩
        refine q_mv (v := Value.tuple [Value.int .i64 y107, Value.int .i64 y108].toArray) rfl ?_
        refine q_ex (v := Value.int .i64 y107) rfl rfl ?_
        refine q_ex (v := Value.int .i64 y108) rfl rfl ?_
        refine q_as (v := Value.int .i64 y107) rfl ?_
        refine q_as (v := Value.int .i64 y108) rfl ?_
        refine wpq_nil ?_
        refine hK101 _ _ _ ?_
        refine wpc_seq_k fun K109 hK110 => ?_
        refine wpc_region ?_
        refine q_as (v := Value.int .i64 0) rfl ?_
        refine wpq_nil ?_
        refine hK110 _ _ _ ?_
        refine wpc_seq_k fun K111 hK112 => ?_
        refine wpc_seq_k fun K113 hK114 => ?_
        refine wpc_region ?_
        refine q_as (v := Value.int .i64 0) rfl ?_
        refine wpq_nil ?_
        refine hK114 _ _ _ ?_
        refine wpc_block ?_
        obtain ⟨o137, hC, H⟩ := bind_some H
        refine wpc_mono (Q := fun e r ds w => match (generalizing := false) o137 with | (Sum.inl _) => e = .ret ∧ ∃ (G129 : Gh), ds = [] ∧ G103 ≤ G129 ∧ Has [(4, Value.bool false)] r ∧ Hp G129 (bx g10 [Value.int .i64 a1.Before, Value.int .i64 a1.Behind, Value.slice A2 a1.Keep.length c3] 24 :: tk (Value.slice A93 y92.length c94) 1 9 :: L) w ∧ True | (Sum.inr v128) => e = .exit 2 ∧ ∃ (G133 : Gh), ds = [] ∧ G103 ≤ G133 ∧ Has [(1, Value.string a6), (5, Value.bool y20), (7, Value.slice A93 y92.length c94), (8, Value.int .i64 y99), (9, Value.int .i64 y107), (10, Value.int .i64 y108), (11, Value.int .i64 v128)] r ∧ Hp G133 (bx g10 [Value.int .i64 a1.Before, Value.int .i64 a1.Behind, Value.slice A2 a1.Keep.length c3] 24 :: tk (Value.slice A93 y92.length c94) 1 9 :: L) w ∧ True) ?_ ?_
        · clear H
          have hI274 := Hp.front hI106 1 rfl
          refine wpc_loop fun I hLp => ?_
          refine formelaw08_BreaksWords_l127.partial_correctness a6 y92 (fun v119 v120 o => ∀ (G138 : Gh) (r : Rg) (w : World), G103 ≤ G138 → Has [(1, Value.string a6), (5, Value.bool y20), (7, Value.slice A93 y92.length c94), (8, Value.int .i64 y99), (9, Value.int .i64 y107), (10, Value.int .i64 y108), (11, Value.int .i64 v119), (12, Value.int .i64 v120)] r → Hp G138 (bx g10 [Value.int .i64 a1.Before, Value.int .i64 a1.Behind, Value.slice A2 a1.Keep.length c3] 24 :: tk (Value.slice A93 y92.length c94) 1 9 :: L) w → o = o137 → I r [] w) ?_ 0 0 _ hC _ _ _ (Gh.le_refl _) ⟨rfl, rfl, rfl, rfl, rfl, rfl, rfl, rfl, trivial⟩ hI274 rfl
          intro _ ih v119 v120 o H G138 r wd140 hG139 hHas hI141 ho
          rw [ho] at H; clear ho
          rw [hHas.eq]; clear hHas
          refine hLp _ _ _ ?_
          refine wpc_seq_k fun K142 hK143 => ?_
          refine wpc_seq_k fun K144 hK145 => ?_
          refine wpc_region ?_
          refine q_mv (v := Value.int .i64 v120) rfl ?_
          refine q_mv (v := Value.slice A93 y92.length c94) rfl ?_
          refine q_len so22 rfl ?_
          refine q_lss rfl rfl ?_
          refine wpq_nil ?_
          refine hK145 _ _ _ ?_
          by_cases h146 : v120 < (y92.length : Int)
          · replace H := ite_yes h146 H
            refine wpc_true (bool_yes h146) ?_
            refine wpc_skip ?_
            refine hK143 _ _ _ ?_
            refine wpc_seq_k fun K147 hK148 => ?_
            refine wpc_block ?_
            refine wpc_seq_k fun K149 hK150 => ?_
            refine wpc_block ?_
            obtain ⟨v162, hC, H⟩ := bind_some H
            refine wpc_mono (Q := fun e r ds w => e = .exit 4 ∧ ∃ (G163 : Gh), ds = [] ∧ G138 ≤ G163 ∧ Has [(1, Value.string a6), (5, Value.bool y20), (7, Value.slice A93 y92.length c94), (8, Value.int .i64 y99), (9, Value.int .i64 y107), (10, Value.int .i64 y108), (11, Value.int .i64 v162), (12, Value.int .i64 v120)] r ∧ Hp G163 (bx g10 [Value.int .i64 a1.Before, Value.int .i64 a1.Behind, Value.slice A2 a1.Keep.length c3] 24 :: tk (Value.slice A93 y92.length c94) 1 9 :: L) w ∧ True) ?_ ?_
            · clear H
              refine wpc_loop fun I hLp => ?_
              refine formelaw08_BreaksWords_l161.partial_correctness a6 (fun v155 o => ∀ (G168 : Gh) (r : Rg) (w : World), G138 ≤ G168 → Has [(1, Value.string a6), (5, Value.bool y20), (7, Value.slice A93 y92.length c94), (8, Value.int .i64 y99), (9, Value.int .i64 y107), (10, Value.int .i64 y108), (11, Value.int .i64 v155), (12, Value.int .i64 v120)] r → Hp G168 (bx g10 [Value.int .i64 a1.Before, Value.int .i64 a1.Behind, Value.slice A2 a1.Keep.length c3] 24 :: tk (Value.slice A93 y92.length c94) 1 9 :: L) w → o = v162 → I r [] w) ?_ v119 _ hC _ _ _ (Gh.le_refl _) ⟨rfl, rfl, rfl, rfl, rfl, rfl, rfl, rfl, trivial⟩ hI141 rfl
              intro _ ih v155 o H G168 r wd170 hG169 hHas hI171 ho
              rw [ho] at H; clear ho
              rw [hHas.eq]; clear hHas
              refine hLp _ _ _ ?_
              refine wpc_seq_k fun K172 hK173 => ?_
              refine wpc_seq_k fun K174 hK175 => ?_
              refine wpc_region ?_
              refine q_mv (v := Value.int .i64 v155) rfl ?_
              refine q_mv (v := Value.string a6) rfl ?_
              refine q_lens so9 rfl ?_
              refine q_lss rfl rfl ?_
              refine q_mv (v := Value.bool (decide (v155 < (a6.size : Int)))) rfl ?_
              obtain ⟨v176, hC, H⟩ := bind_some H
              refine wpq_split 5 (K := fun e r ds w => e = .normal ∧ ∃ (G177 : Gh), ds = [] ∧ G168 ≤ G177 ∧ Has [(1, Value.string a6), (5, Value.bool y20), (7, Value.slice A93 y92.length c94), (8, Value.int .i64 y99), (9, Value.int .i64 y107), (10, Value.int .i64 y108), (11, Value.int .i64 v155), (12, Value.int .i64 v120), (64, Value.bool v176)] r ∧ Hp G177 (bx g10 [Value.int .i64 a1.Before, Value.int .i64 a1.Behind, Value.slice A2 a1.Keep.length c3] 24 :: tk (Value.slice A93 y92.length c94) 1 9 :: L) w ∧ True) ?_ ?_
              · replace H := hC
                by_cases h182 : v155 < (a6.size : Int)
                · replace H := ite_yes h182 H
                  refine q_mv (v := Value.string a6) rfl ?_ (hw := guard_yes rfl rfl rfl (bool_yes h182))
                  refine q_mv (v := Value.int .i64 v155) rfl ?_ (hw := guard_yes rfl rfl rfl (bool_yes h182))
                  obtain ⟨⟨h183, h183'⟩, H⟩ := ite_some H
                  refine q_is so9 rfl rfl h183 h183' rfl ?_ (hw := guard_yes rfl rfl rfl (bool_yes h182))
                  refine q_eql rfl rfl ?_ (hw := guard_yes rfl rfl rfl (bool_yes h182))
                  refine q_pick true (v := Value.bool (decide ((bt a6 v155) = 32))) (bool_yes h182) rfl ?_
                  refine wpq_nil ?_
                  cases H
                  exact ⟨rfl, _, rfl, (Gh.le_refl _), ⟨rfl, rfl, rfl, rfl, rfl, rfl, rfl, rfl, rfl, trivial⟩, hI171, trivial⟩
                · replace H := ite_no h182 H
                  refine wpq_no (guard_no rfl rfl rfl (bool_no h182) rfl) ?_
                  refine wpq_no (guard_no rfl rfl rfl (bool_no h182) rfl) ?_
                  refine wpq_no (guard_no rfl rfl rfl (bool_no h182) rfl) ?_
                  refine wpq_no (guard_no rfl rfl rfl (bool_no h182) rfl) ?_
                  refine q_pick false (v := Value.bool false) (bool_no h182) rfl ?_
                  refine wpq_nil ?_
                  cases H
                  exact ⟨rfl, _, rfl, (Gh.le_refl _), ⟨rfl, rfl, rfl, rfl, rfl, rfl, rfl, rfl, rfl, trivial⟩, hI171, trivial⟩
              · clear hC
                rintro e r ds wd179 ⟨rfl, G177, rfl, hG178, hHas, hI180, _⟩
                rw [hHas.eq]; clear hHas
                refine wpq_nil ?_
                refine hK175 _ _ _ ?_
                by_cases h184 : v176 = true
                · replace H := ite_yes h184 H
                  refine wpc_true (bval_yes h184) ?_
                  refine wpc_skip ?_
                  refine hK173 _ _ _ ?_
                  refine wpc_block ?_
                  refine wpc_region ?_
                  refine q_mv (v := Value.int .i64 v155) rfl ?_
                  refine q_add rfl rfl ?_
                  refine q_as (v := Value.int .i64 (w64 (v155 + 1))) rfl ?_
                  refine wpq_nil ?_
                  exact ih _ _ H _ _ _ (Gh.le_trans hG169 hG178) ⟨rfl, rfl, rfl, rfl, rfl, rfl, rfl, rfl, trivial⟩ hI180 rfl
                · replace H := ite_no h184 H
                  refine wpc_false (bval_no h184) ?_
                  refine wpc_exit ?_
                  cases H
                  exact ⟨rfl, _, rfl, (Gh.le_trans hG169 hG178), ⟨rfl, rfl, rfl, rfl, rfl, rfl, rfl, rfl, trivial⟩, hI180, trivial⟩
            · clear hC
              rintro e r ds wd165 ⟨rfl, G163, rfl, hG164, hHas, hI166, _⟩
              rw [hHas.eq]; clear hHas
              refine hK150 _ _ _ ?_
              refine wpc_seq_k fun K185 hK186 => ?_
              refine wpc_region ?_
              refine q_mv (v := Value.slice A93 y92.length c94) rfl ?_
              refine q_mv (v := Value.int .i64 v120) rfl ?_
              obtain ⟨⟨h187, h187'⟩, H⟩ := ite_some H
              obtain ⟨ad188, cs189, hA190, hK191, hn192, hc193⟩ := Dat.get (Dat.mono (Gh.le_trans (Gh.le_trans hG104 hG139) hG164) hD96) (⟨#[]⟩ : ByteArray) (v120) h187 h187'
              obtain rfl := hK191
              refine q_ia el22 rfl hA190 rfl h187 h187' ?_
              refine q_lf hI166 (v := Value.string (y92.getD (Int.toNat v120) (⟨#[]⟩ : ByteArray))) ag9 rfl ((Gh.le_refl _).cel _ _ (hc193 0 _ rfl)) ?_
              refine q_as (v := Value.string (y92.getD (Int.toNat v120) (⟨#[]⟩ : ByteArray))) rfl ?_
              refine wpq_nil ?_
              refine hK186 _ _ _ ?_
              refine wpc_seq_k fun K194 hK195 => ?_
              refine wpc_seq_k fun K196 hK197 => ?_
              refine wpc_region ?_
              refine q_mv (v := Value.string (y92.getD (Int.toNat v120) (⟨#[]⟩ : ByteArray))) rfl ?_
              refine q_str_eql rfl rfl ?_
              refine q_mv (v := Value.bool (decide ((y92.getD (Int.toNat v120) (⟨#[]⟩ : ByteArray)) = (⟨#[]⟩ : ByteArray)))) rfl ?_
              obtain ⟨v198, hC, H⟩ := bind_some H
              refine wpq_split 8 (K := fun e r ds w => e = .normal ∧ ∃ (G199 : Gh), ds = [] ∧ G163 ≤ G199 ∧ Has [(1, Value.string a6), (5, Value.bool y20), (7, Value.slice A93 y92.length c94), (8, Value.int .i64 y99), (9, Value.int .i64 y107), (10, Value.int .i64 y108), (11, Value.int .i64 v162), (12, Value.int .i64 v120), (13, Value.string (y92.getD (Int.toNat v120) (⟨#[]⟩ : ByteArray))), (81, Value.bool v198)] r ∧ Hp G199 (bx g10 [Value.int .i64 a1.Before, Value.int .i64 a1.Behind, Value.slice A2 a1.Keep.length c3] 24 :: tk (Value.slice A93 y92.length c94) 1 9 :: L) w ∧ True) ?_ ?_
              · replace H := hC
                by_cases h204 : (y92.getD (Int.toNat v120) (⟨#[]⟩ : ByteArray)) = (⟨#[]⟩ : ByteArray)
                · replace H := ite_yes h204 H
                  refine wpq_no (guard_no rfl rfl rfl (bool_yes h204) rfl) ?_
                  refine wpq_no (guard_no rfl rfl rfl (bool_yes h204) rfl) ?_
                  refine wpq_no (guard_no rfl rfl rfl (bool_yes h204) rfl) ?_
                  refine wpq_no (guard_no rfl rfl rfl (bool_yes h204) rfl) ?_
                  refine wpq_no (guard_no rfl rfl rfl (bool_yes h204) rfl) ?_
                  refine wpq_no (guard_no rfl rfl rfl (bool_yes h204) rfl) ?_
                  refine wpq_no (guard_no rfl rfl rfl (bool_yes h204) rfl) ?_
                  refine q_pick true (v := Value.bool true) (bool_yes h204) rfl ?_
                  refine wpq_nil ?_
                  cases H
                  exact ⟨rfl, _, rfl, (Gh.le_refl _), ⟨rfl, rfl, rfl, rfl, rfl, rfl, rfl, rfl, rfl, rfl, trivial⟩, hI166, trivial⟩
                · replace H := ite_no h204 H
                  refine q_mv (v := Value.string a6) rfl ?_ (hw := guard_yes rfl rfl rfl (bool_no h204))
                  refine q_lens so9 rfl ?_ (hw := guard_yes rfl rfl rfl (bool_no h204))
                  refine q_mv (v := Value.int .i64 v162) rfl ?_ (hw := guard_yes rfl rfl rfl (bool_no h204))
                  refine q_sub rfl rfl ?_ (hw := guard_yes rfl rfl rfl (bool_no h204))
                  refine q_mv (v := Value.string (y92.getD (Int.toNat v120) (⟨#[]⟩ : ByteArray))) rfl ?_ (hw := guard_yes rfl rfl rfl (bool_no h204))
                  refine q_lens so9 rfl ?_ (hw := guard_yes rfl rfl rfl (bool_no h204))
                  refine q_lss rfl rfl ?_ (hw := guard_yes rfl rfl rfl (bool_no h204))
                  refine q_pick false (v := Value.bool (decide ((w64 ((a6.size : Int) - v162)) < ((y92.getD (Int.toNat v120) (⟨#[]⟩ : ByteArray)).size : Int)))) (bool_no h204) rfl ?_
                  refine wpq_nil ?_
                  cases H
                  exact ⟨rfl, _, rfl, (Gh.le_refl _), ⟨rfl, rfl, rfl, rfl, rfl, rfl, rfl, rfl, rfl, rfl, trivial⟩, hI166, trivial⟩
              · clear hC
                rintro e r ds wd201 ⟨rfl, G199, rfl, hG200, hHas, hI202, _⟩
                rw [hHas.eq]; clear hHas
                refine q_mv (v := Value.bool v198) rfl ?_
                obtain ⟨v205, hC, H⟩ := bind_some H
                refine wpq_split 10 (K := fun e r ds w => e = .normal ∧ ∃ (G206 : Gh), ds = [] ∧ G199 ≤ G206 ∧ Has [(1, Value.string a6), (5, Value.bool y20), (7, Value.slice A93 y92.length c94), (8, Value.int .i64 y99), (9, Value.int .i64 y107), (10, Value.int .i64 y108), (11, Value.int .i64 v162), (12, Value.int .i64 v120), (13, Value.string (y92.getD (Int.toNat v120) (⟨#[]⟩ : ByteArray))), (92, Value.bool v205)] r ∧ Hp G206 (bx g10 [Value.int .i64 a1.Before, Value.int .i64 a1.Behind, Value.slice A2 a1.Keep.length c3] 24 :: tk (Value.slice A93 y92.length c94) 1 9 :: L) w ∧ True) ?_ ?_
                · replace H := hC
                  by_cases h211 : v198 = true
                  · replace H := ite_yes h211 H
                    refine wpq_no (guard_no rfl rfl rfl (bval_yes h211) rfl) ?_
                    refine wpq_no (guard_no rfl rfl rfl (bval_yes h211) rfl) ?_
                    refine wpq_no (guard_no rfl rfl rfl (bval_yes h211) rfl) ?_
                    refine wpq_no (guard_no rfl rfl rfl (bval_yes h211) rfl) ?_
                    refine wpq_no (guard_no rfl rfl rfl (bval_yes h211) rfl) ?_
                    refine wpq_no (guard_no rfl rfl rfl (bval_yes h211) rfl) ?_
                    refine wpq_no (guard_no rfl rfl rfl (bval_yes h211) rfl) ?_
                    refine wpq_no (guard_no rfl rfl rfl (bval_yes h211) rfl) ?_
                    refine wpq_no (guard_no rfl rfl rfl (bval_yes h211) rfl) ?_
                    refine q_pick true (v := Value.bool true) (bval_yes h211) rfl ?_
                    refine wpq_nil ?_
                    cases H
                    exact ⟨rfl, _, rfl, (Gh.le_refl _), ⟨rfl, rfl, rfl, rfl, rfl, rfl, rfl, rfl, rfl, rfl, trivial⟩, hI202, trivial⟩
                  · replace H := ite_no h211 H
                    refine q_mv (v := Value.string a6) rfl ?_ (hw := guard_yes rfl rfl rfl (bval_no h211))
                    refine q_mv (v := Value.int .i64 v162) rfl ?_ (hw := guard_yes rfl rfl rfl (bval_no h211))
                    refine q_mv (v := Value.int .i64 v162) rfl ?_ (hw := guard_yes rfl rfl rfl (bval_no h211))
                    refine q_mv (v := Value.string (y92.getD (Int.toNat v120) (⟨#[]⟩ : ByteArray))) rfl ?_ (hw := guard_yes rfl rfl rfl (bval_no h211))
                    refine q_lens so9 rfl ?_ (hw := guard_yes rfl rfl rfl (bval_no h211))
                    refine q_add rfl rfl ?_ (hw := guard_yes rfl rfl rfl (bval_no h211))
                    obtain ⟨⟨h212, h213, h214⟩, H⟩ := ite_some H
                    refine q_ss (l := v162) (h := w64 (v162 + ((y92.getD (Int.toNat v120) (⟨#[]⟩ : ByteArray)).size : Int))) so9 rfl (.inr ⟨_, rfl, rfl⟩) (.inr ⟨_, rfl, rfl⟩) h212 h213 h214 ?_ (hw := guard_yes rfl rfl rfl (bval_no h211))
                    refine q_mv (v := Value.string (y92.getD (Int.toNat v120) (⟨#[]⟩ : ByteArray))) rfl ?_ (hw := guard_yes rfl rfl rfl (bval_no h211))
                    refine q_str_neq rfl rfl ?_ (hw := guard_yes rfl rfl rfl (bval_no h211))
                    refine q_pick false (v := Value.bool (decide (¬ (sub a6 v162 (w64 (v162 + ((y92.getD (Int.toNat v120) (⟨#[]⟩ : ByteArray)).size : Int)))) = (y92.getD (Int.toNat v120) (⟨#[]⟩ : ByteArray))))) (bval_no h211) rfl ?_
                    refine wpq_nil ?_
                    cases H
                    exact ⟨rfl, _, rfl, (Gh.le_refl _), ⟨rfl, rfl, rfl, rfl, rfl, rfl, rfl, rfl, rfl, rfl, trivial⟩, hI202, trivial⟩
                · clear hC
                  rintro e r ds wd208 ⟨rfl, G206, rfl, hG207, hHas, hI209, _⟩
                  rw [hHas.eq]; clear hHas
                  refine wpq_nil ?_
                  refine hK197 _ _ _ ?_
                  by_cases h215 : v205 = true
                  · replace H := ite_yes h215 H
                    refine wpc_true (bval_yes h215) ?_
                    refine wpc_seq_k fun K216 hK217 => ?_
                    refine wpc_region ?_
                    refine q_as (v := Value.bool false) rfl ?_
                    refine wpq_nil ?_
                    refine hK217 _ _ _ ?_
                    refine wpc_ret ?_
                    cases H
                    exact ⟨rfl, _, rfl, (Gh.le_trans (Gh.le_trans (Gh.le_trans hG139 hG164) hG200) hG207), ⟨rfl, trivial⟩, hI209, trivial⟩
                  · replace H := ite_no h215 H
                    refine wpc_false (bval_no h215) ?_
                    refine wpc_skip ?_
                    refine hK195 _ _ _ ?_
                    refine wpc_seq_k fun K218 hK219 => ?_
                    refine wpc_seq_k fun K220 hK221 => ?_
                    refine wpc_region ?_
                    refine q_as (v := Value.int .i64 0) rfl ?_
                    refine wpq_nil ?_
                    refine hK221 _ _ _ ?_
                    refine wpc_block ?_
                    obtain ⟨o241, hC, H⟩ := bind_some H
                    refine wpc_mono (Q := fun e r ds w => match (generalizing := false) o241 with | (Sum.inl _) => e = .ret ∧ ∃ (G233 : Gh), ds = [] ∧ G206 ≤ G233 ∧ Has [(4, Value.bool false)] r ∧ Hp G233 (bx g10 [Value.int .i64 a1.Before, Value.int .i64 a1.Behind, Value.slice A2 a1.Keep.length c3] 24 :: tk (Value.slice A93 y92.length c94) 1 9 :: L) w ∧ True | (Sum.inr _) => e = .exit 6 ∧ ∃ (G237 : Gh), ds = [] ∧ G206 ≤ G237 ∧ Has [(1, Value.string a6), (5, Value.bool y20), (7, Value.slice A93 y92.length c94), (8, Value.int .i64 y99), (9, Value.int .i64 y107), (10, Value.int .i64 y108), (11, Value.int .i64 v162), (12, Value.int .i64 v120), (13, Value.string (y92.getD (Int.toNat v120) (⟨#[]⟩ : ByteArray)))] r ∧ Hp G237 (bx g10 [Value.int .i64 a1.Before, Value.int .i64 a1.Behind, Value.slice A2 a1.Keep.length c3] 24 :: tk (Value.slice A93 y92.length c94) 1 9 :: L) w ∧ True) ?_ ?_
                    · clear H
                      refine wpc_loop fun I hLp => ?_
                      refine formelaw08_BreaksWords_l232.partial_correctness y92 v120 (fun v226 o => ∀ (G242 : Gh) (r : Rg) (w : World), G206 ≤ G242 → Has [(1, Value.string a6), (5, Value.bool y20), (7, Value.slice A93 y92.length c94), (8, Value.int .i64 y99), (9, Value.int .i64 y107), (10, Value.int .i64 y108), (11, Value.int .i64 v162), (12, Value.int .i64 v120), (13, Value.string (y92.getD (Int.toNat v120) (⟨#[]⟩ : ByteArray))), (14, Value.int .i64 v226)] r → Hp G242 (bx g10 [Value.int .i64 a1.Before, Value.int .i64 a1.Behind, Value.slice A2 a1.Keep.length c3] 24 :: tk (Value.slice A93 y92.length c94) 1 9 :: L) w → o = o241 → I r [] w) ?_ 0 _ hC _ _ _ (Gh.le_refl _) ⟨rfl, rfl, rfl, rfl, rfl, rfl, rfl, rfl, rfl, rfl, trivial⟩ hI209 rfl
                      intro _ ih v226 o H G242 r wd244 hG243 hHas hI245 ho
                      rw [ho] at H; clear ho
                      rw [hHas.eq]; clear hHas
                      refine hLp _ _ _ ?_
                      refine wpc_seq_k fun K246 hK247 => ?_
                      refine wpc_seq_k fun K248 hK249 => ?_
                      refine wpc_region ?_
                      refine q_mv (v := Value.int .i64 v226) rfl ?_
                      refine q_mv (v := Value.string (y92.getD (Int.toNat v120) (⟨#[]⟩ : ByteArray))) rfl ?_
                      refine q_lens so9 rfl ?_
                      refine q_lss rfl rfl ?_
                      refine wpq_nil ?_
                      refine hK249 _ _ _ ?_
                      by_cases h250 : v226 < ((y92.getD (Int.toNat v120) (⟨#[]⟩ : ByteArray)).size : Int)
                      · replace H := ite_yes h250 H
                        refine wpc_true (bool_yes h250) ?_
                        refine wpc_skip ?_
                        refine hK247 _ _ _ ?_
                        refine wpc_seq_k fun K251 hK252 => ?_
                        refine wpc_block ?_
                        refine wpc_seq_k fun K253 hK254 => ?_
                        refine wpc_region ?_
                        refine q_mv (v := Value.string (y92.getD (Int.toNat v120) (⟨#[]⟩ : ByteArray))) rfl ?_
                        refine q_mv (v := Value.int .i64 v226) rfl ?_
                        obtain ⟨⟨h255, h255'⟩, H⟩ := ite_some H
                        refine q_is so9 rfl rfl h255 h255' rfl ?_
                        refine q_eql rfl rfl ?_
                        refine wpq_nil ?_
                        refine hK254 _ _ _ ?_
                        by_cases h256 : (bt (y92.getD (Int.toNat v120) (⟨#[]⟩ : ByteArray)) v226) = 32
                        · replace H := ite_yes h256 H
                          refine wpc_true (bool_yes h256) ?_
                          refine wpc_seq_k fun K257 hK258 => ?_
                          refine wpc_region ?_
                          refine q_as (v := Value.bool false) rfl ?_
                          refine wpq_nil ?_
                          refine hK258 _ _ _ ?_
                          refine wpc_ret ?_
                          cases H
                          exact ⟨rfl, _, rfl, hG243, ⟨rfl, trivial⟩, hI245, trivial⟩
                        · replace H := ite_no h256 H
                          refine wpc_false (bool_no h256) ?_
                          refine wpc_skip ?_
                          refine hK252 _ _ _ ?_
                          refine wpc_region ?_
                          refine q_mv (v := Value.int .i64 v226) rfl ?_
                          refine q_add rfl rfl ?_
                          refine q_as (v := Value.int .i64 (w64 (v226 + 1))) rfl ?_
                          refine wpq_nil ?_
                          exact ih _ _ H _ _ _ hG243 ⟨rfl, rfl, rfl, rfl, rfl, rfl, rfl, rfl, rfl, rfl, trivial⟩ hI245 rfl
                      · replace H := ite_no h250 H
                        refine wpc_false (bool_no h250) ?_
                        refine wpc_exit ?_
                        cases H
                        exact ⟨rfl, _, rfl, hG243, ⟨rfl, rfl, rfl, rfl, rfl, rfl, rfl, rfl, rfl, trivial⟩, hI245, trivial⟩
                    · clear hC
                      rcases o241 with _ | _
                      · rintro e r ds wd235 ⟨rfl, G233, rfl, hG234, hHas, hI236, _⟩
                        rw [hHas.eq]; clear hHas
                        cases H
                        exact ⟨rfl, _, rfl, (Gh.le_trans (Gh.le_trans (Gh.le_trans (Gh.le_trans hG139 hG164) hG200) hG207) hG234), ⟨rfl, trivial⟩, hI236, trivial⟩
                      · rintro e r ds wd239 ⟨rfl, G237, rfl, hG238, hHas, hI240, _⟩
                        rw [hHas.eq]; clear hHas
                        refine hK219 _ _ _ ?_
                        refine wpc_seq_k fun K259 hK260 => ?_
                        refine wpc_region ?_
                        refine q_mv (v := Value.int .i64 v162) rfl ?_
                        refine q_mv (v := Value.string (y92.getD (Int.toNat v120) (⟨#[]⟩ : ByteArray))) rfl ?_
                        refine q_lens so9 rfl ?_
                        refine q_add rfl rfl ?_
                        refine q_as (v := Value.int .i64 (w64 (v162 + ((y92.getD (Int.toNat v120) (⟨#[]⟩ : ByteArray)).size : Int)))) rfl ?_
                        refine wpq_nil ?_
                        refine hK260 _ _ _ ?_
                        refine wpc_seq_k fun K261 hK262 => ?_
                        refine wpc_region ?_
                        refine q_mv (v := Value.int .i64 (w64 (v162 + ((y92.getD (Int.toNat v120) (⟨#[]⟩ : ByteArray)).size : Int)))) rfl ?_
                        refine q_mv (v := Value.string a6) rfl ?_
                        refine q_lens so9 rfl ?_
                        refine q_lss rfl rfl ?_
                        refine q_mv (v := Value.bool (decide ((w64 (v162 + ((y92.getD (Int.toNat v120) (⟨#[]⟩ : ByteArray)).size : Int))) < (a6.size : Int)))) rfl ?_
                        obtain ⟨v263, hC, H⟩ := bind_some H
                        refine wpq_split 5 (K := fun e r ds w => e = .normal ∧ ∃ (G264 : Gh), ds = [] ∧ G237 ≤ G264 ∧ Has [(1, Value.string a6), (5, Value.bool y20), (7, Value.slice A93 y92.length c94), (8, Value.int .i64 y99), (9, Value.int .i64 y107), (10, Value.int .i64 y108), (11, Value.int .i64 (w64 (v162 + ((y92.getD (Int.toNat v120) (⟨#[]⟩ : ByteArray)).size : Int)))), (12, Value.int .i64 v120), (116, Value.bool v263)] r ∧ Hp G264 (bx g10 [Value.int .i64 a1.Before, Value.int .i64 a1.Behind, Value.slice A2 a1.Keep.length c3] 24 :: tk (Value.slice A93 y92.length c94) 1 9 :: L) w ∧ True) ?_ ?_
                        · replace H := hC
                          by_cases h269 : (w64 (v162 + ((y92.getD (Int.toNat v120) (⟨#[]⟩ : ByteArray)).size : Int))) < (a6.size : Int)
                          · replace H := ite_yes h269 H
                            refine q_mv (v := Value.string a6) rfl ?_ (hw := guard_yes rfl rfl rfl (bool_yes h269))
                            refine q_mv (v := Value.int .i64 (w64 (v162 + ((y92.getD (Int.toNat v120) (⟨#[]⟩ : ByteArray)).size : Int)))) rfl ?_ (hw := guard_yes rfl rfl rfl (bool_yes h269))
                            obtain ⟨⟨h270, h270'⟩, H⟩ := ite_some H
                            refine q_is so9 rfl rfl h270 h270' rfl ?_ (hw := guard_yes rfl rfl rfl (bool_yes h269))
                            refine q_neq rfl rfl ?_ (hw := guard_yes rfl rfl rfl (bool_yes h269))
                            refine q_pick true (v := Value.bool (decide (¬ (bt a6 (w64 (v162 + ((y92.getD (Int.toNat v120) (⟨#[]⟩ : ByteArray)).size : Int)))) = 32))) (bool_yes h269) rfl ?_
                            refine wpq_nil ?_
                            cases H
                            exact ⟨rfl, _, rfl, (Gh.le_refl _), ⟨rfl, rfl, rfl, rfl, rfl, rfl, rfl, rfl, rfl, trivial⟩, hI240, trivial⟩
                          · replace H := ite_no h269 H
                            refine wpq_no (guard_no rfl rfl rfl (bool_no h269) rfl) ?_
                            refine wpq_no (guard_no rfl rfl rfl (bool_no h269) rfl) ?_
                            refine wpq_no (guard_no rfl rfl rfl (bool_no h269) rfl) ?_
                            refine wpq_no (guard_no rfl rfl rfl (bool_no h269) rfl) ?_
                            refine q_pick false (v := Value.bool false) (bool_no h269) rfl ?_
                            refine wpq_nil ?_
                            cases H
                            exact ⟨rfl, _, rfl, (Gh.le_refl _), ⟨rfl, rfl, rfl, rfl, rfl, rfl, rfl, rfl, rfl, trivial⟩, hI240, trivial⟩
                        · clear hC
                          rintro e r ds wd266 ⟨rfl, G264, rfl, hG265, hHas, hI267, _⟩
                          rw [hHas.eq]; clear hHas
                          refine wpq_nil ?_
                          refine hK262 _ _ _ ?_
                          by_cases h271 : v263 = true
                          · replace H := ite_yes h271 H
                            refine wpc_true (bval_yes h271) ?_
                            refine wpc_seq_k fun K272 hK273 => ?_
                            refine wpc_region ?_
                            refine q_as (v := Value.bool false) rfl ?_
                            refine wpq_nil ?_
                            refine hK273 _ _ _ ?_
                            refine wpc_ret ?_
                            cases H
                            exact ⟨rfl, _, rfl, (Gh.le_trans (Gh.le_trans (Gh.le_trans (Gh.le_trans (Gh.le_trans hG139 hG164) hG200) hG207) hG238) hG265), ⟨rfl, trivial⟩, hI267, trivial⟩
                          · replace H := ite_no h271 H
                            refine wpc_false (bval_no h271) ?_
                            refine wpc_skip ?_
                            refine hK148 _ _ _ ?_
                            refine wpc_region ?_
                            refine q_mv (v := Value.int .i64 v120) rfl ?_
                            refine q_add rfl rfl ?_
                            refine q_as (v := Value.int .i64 (w64 (v120 + 1))) rfl ?_
                            refine wpq_nil ?_
                            exact ih _ _ _ H _ _ _ (Gh.le_trans (Gh.le_trans (Gh.le_trans (Gh.le_trans (Gh.le_trans hG139 hG164) hG200) hG207) hG238) hG265) ⟨rfl, rfl, rfl, rfl, rfl, rfl, rfl, rfl, trivial⟩ hI267 rfl
          · replace H := ite_no h146 H
            refine wpc_false (bool_no h146) ?_
            refine wpc_exit ?_
            cases H
            exact ⟨rfl, _, rfl, hG139, ⟨rfl, rfl, rfl, rfl, rfl, rfl, rfl, trivial⟩, hI141, trivial⟩
        · clear hC
          rcases o137 with _ | v128
          · rintro e r ds wd131 ⟨rfl, G129, rfl, hG130, hHas, hI132, _⟩
            rw [hHas.eq]; clear hHas
            have hI275 := Hp.sub (L := bx g10 [Value.int .i64 a1.Before, Value.int .i64 a1.Behind, Value.slice A2 a1.Keep.length c3] 24 :: tk (Value.slice A93 y92.length c94) 1 9 :: L) (L' := L) hI132 (List.Sublist.cons _ (List.Sublist.cons _ (List.Sublist.refl _)))
            cases H
            exact ⟨.inr rfl, rfl, _, ⟨_, _, rfl, rfl, rfl⟩, _, (Gh.le_trans (Gh.le_trans (Gh.le_trans (Gh.le_trans (Gh.le_trans hG17 hG27) hG55) hG89) hG104) hG130), hI275, rfl⟩
          · rintro e r ds wd135 ⟨rfl, G133, rfl, hG134, hHas, hI136, _⟩
            rw [hHas.eq]; clear hHas
            refine hK112 _ _ _ ?_
            refine wpc_seq_k fun K276 hK277 => ?_
            refine wpc_block ?_
            obtain ⟨v289, hC, H⟩ := bind_some H
            refine wpc_mono (Q := fun e r ds w => e = .exit 8 ∧ ∃ (G290 : Gh), ds = [] ∧ G133 ≤ G290 ∧ Has [(1, Value.string a6), (5, Value.bool y20), (7, Value.slice A93 y92.length c94), (8, Value.int .i64 y99), (9, Value.int .i64 y107), (10, Value.int .i64 y108), (11, Value.int .i64 v289)] r ∧ Hp G290 (bx g10 [Value.int .i64 a1.Before, Value.int .i64 a1.Behind, Value.slice A2 a1.Keep.length c3] 24 :: tk (Value.slice A93 y92.length c94) 1 9 :: L) w ∧ True) ?_ ?_
            · clear H
              refine wpc_loop fun I hLp => ?_
              refine formelaw08_BreaksWords_l288.partial_correctness a6 (fun v282 o => ∀ (G295 : Gh) (r : Rg) (w : World), G133 ≤ G295 → Has [(1, Value.string a6), (5, Value.bool y20), (7, Value.slice A93 y92.length c94), (8, Value.int .i64 y99), (9, Value.int .i64 y107), (10, Value.int .i64 y108), (11, Value.int .i64 v282)] r → Hp G295 (bx g10 [Value.int .i64 a1.Before, Value.int .i64 a1.Behind, Value.slice A2 a1.Keep.length c3] 24 :: tk (Value.slice A93 y92.length c94) 1 9 :: L) w → o = v289 → I r [] w) ?_ v128 _ hC _ _ _ (Gh.le_refl _) ⟨rfl, rfl, rfl, rfl, rfl, rfl, rfl, trivial⟩ hI136 rfl
              intro _ ih v282 o H G295 r wd297 hG296 hHas hI298 ho
              rw [ho] at H; clear ho
              rw [hHas.eq]; clear hHas
              refine hLp _ _ _ ?_
              refine wpc_seq_k fun K299 hK300 => ?_
              refine wpc_seq_k fun K301 hK302 => ?_
              refine wpc_region ?_
              refine q_mv (v := Value.int .i64 v282) rfl ?_
              refine q_mv (v := Value.string a6) rfl ?_
              refine q_lens so9 rfl ?_
              refine q_lss rfl rfl ?_
              refine q_mv (v := Value.bool (decide (v282 < (a6.size : Int)))) rfl ?_
              obtain ⟨v303, hC, H⟩ := bind_some H
              refine wpq_split 5 (K := fun e r ds w => e = .normal ∧ ∃ (G304 : Gh), ds = [] ∧ G295 ≤ G304 ∧ Has [(1, Value.string a6), (5, Value.bool y20), (7, Value.slice A93 y92.length c94), (8, Value.int .i64 y99), (9, Value.int .i64 y107), (10, Value.int .i64 y108), (11, Value.int .i64 v282), (126, Value.bool v303)] r ∧ Hp G304 (bx g10 [Value.int .i64 a1.Before, Value.int .i64 a1.Behind, Value.slice A2 a1.Keep.length c3] 24 :: tk (Value.slice A93 y92.length c94) 1 9 :: L) w ∧ True) ?_ ?_
              · replace H := hC
                by_cases h309 : v282 < (a6.size : Int)
                · replace H := ite_yes h309 H
                  refine q_mv (v := Value.string a6) rfl ?_ (hw := guard_yes rfl rfl rfl (bool_yes h309))
                  refine q_mv (v := Value.int .i64 v282) rfl ?_ (hw := guard_yes rfl rfl rfl (bool_yes h309))
                  obtain ⟨⟨h310, h310'⟩, H⟩ := ite_some H
                  refine q_is so9 rfl rfl h310 h310' rfl ?_ (hw := guard_yes rfl rfl rfl (bool_yes h309))
                  refine q_eql rfl rfl ?_ (hw := guard_yes rfl rfl rfl (bool_yes h309))
                  refine q_pick true (v := Value.bool (decide ((bt a6 v282) = 32))) (bool_yes h309) rfl ?_
                  refine wpq_nil ?_
                  cases H
                  exact ⟨rfl, _, rfl, (Gh.le_refl _), ⟨rfl, rfl, rfl, rfl, rfl, rfl, rfl, rfl, trivial⟩, hI298, trivial⟩
                · replace H := ite_no h309 H
                  refine wpq_no (guard_no rfl rfl rfl (bool_no h309) rfl) ?_
                  refine wpq_no (guard_no rfl rfl rfl (bool_no h309) rfl) ?_
                  refine wpq_no (guard_no rfl rfl rfl (bool_no h309) rfl) ?_
                  refine wpq_no (guard_no rfl rfl rfl (bool_no h309) rfl) ?_
                  refine q_pick false (v := Value.bool false) (bool_no h309) rfl ?_
                  refine wpq_nil ?_
                  cases H
                  exact ⟨rfl, _, rfl, (Gh.le_refl _), ⟨rfl, rfl, rfl, rfl, rfl, rfl, rfl, rfl, trivial⟩, hI298, trivial⟩
              · clear hC
                rintro e r ds wd306 ⟨rfl, G304, rfl, hG305, hHas, hI307, _⟩
                rw [hHas.eq]; clear hHas
                refine wpq_nil ?_
                refine hK302 _ _ _ ?_
                by_cases h311 : v303 = true
                · replace H := ite_yes h311 H
                  refine wpc_true (bval_yes h311) ?_
                  refine wpc_skip ?_
                  refine hK300 _ _ _ ?_
                  refine wpc_block ?_
                  refine wpc_region ?_
                  refine q_mv (v := Value.int .i64 v282) rfl ?_
                  refine q_add rfl rfl ?_
                  refine q_as (v := Value.int .i64 (w64 (v282 + 1))) rfl ?_
                  refine wpq_nil ?_
                  exact ih _ _ H _ _ _ (Gh.le_trans hG296 hG305) ⟨rfl, rfl, rfl, rfl, rfl, rfl, rfl, trivial⟩ hI307 rfl
                · replace H := ite_no h311 H
                  refine wpc_false (bval_no h311) ?_
                  refine wpc_exit ?_
                  cases H
                  exact ⟨rfl, _, rfl, (Gh.le_trans hG296 hG305), ⟨rfl, rfl, rfl, rfl, rfl, rfl, rfl, trivial⟩, hI307, trivial⟩
            · clear hC
              rintro e r ds wd292 ⟨rfl, G290, rfl, hG291, hHas, hI293, _⟩
              rw [hHas.eq]; clear hHas
              refine hK277 _ _ _ ?_
              refine wpc_seq_k fun K312 hK313 => ?_
              refine wpc_region ?_
              refine q_mv (v := Value.bool y20) rfl ?_
              refine q_mv (v := Value.bool y20) rfl ?_
              obtain ⟨v314, hC, H⟩ := bind_some H
              refine wpq_split 3 (K := fun e r ds w => e = .normal ∧ ∃ (G315 : Gh), ds = [] ∧ G290 ≤ G315 ∧ Has [(1, Value.string a6), (7, Value.slice A93 y92.length c94), (9, Value.int .i64 y107), (10, Value.int .i64 y108), (11, Value.int .i64 v289), (133, Value.bool v314)] r ∧ Hp G315 (bx g10 [Value.int .i64 a1.Before, Value.int .i64 a1.Behind, Value.slice A2 a1.Keep.length c3] 24 :: tk (Value.slice A93 y92.length c94) 1 9 :: L) w ∧ True) ?_ ?_
              · replace H := hC
                by_cases h320 : y20 = true
                · replace H := ite_yes h320 H
                  refine q_mv (v := Value.int .i64 y99) rfl ?_ (hw := guard_yes rfl rfl rfl (bval_yes h320))
                  refine q_eql rfl rfl ?_ (hw := guard_yes rfl rfl rfl (bval_yes h320))
                  refine q_pick true (v := Value.bool (decide (y99 = 0))) (bval_yes h320) rfl ?_
                  refine wpq_nil ?_
                  cases H
                  exact ⟨rfl, _, rfl, (Gh.le_refl _), ⟨rfl, rfl, rfl, rfl, rfl, rfl, trivial⟩, hI293, trivial⟩
                · replace H := ite_no h320 H
                  refine wpq_no (guard_no rfl rfl rfl (bval_no h320) rfl) ?_
                  refine wpq_no (guard_no rfl rfl rfl (bval_no h320) rfl) ?_
                  refine q_pick false (v := Value.bool false) (bval_no h320) rfl ?_
                  refine wpq_nil ?_
                  cases H
                  exact ⟨rfl, _, rfl, (Gh.le_refl _), ⟨rfl, rfl, rfl, rfl, rfl, rfl, trivial⟩, hI293, trivial⟩
              · clear hC
                rintro e r ds wd317 ⟨rfl, G315, rfl, hG316, hHas, hI318, _⟩
                rw [hHas.eq]; clear hHas
                refine q_mv (v := Value.bool v314) rfl ?_
                obtain ⟨v321, hC, H⟩ := bind_some H
                refine wpq_split 3 (K := fun e r ds w => e = .normal ∧ ∃ (G322 : Gh), ds = [] ∧ G315 ≤ G322 ∧ Has [(1, Value.string a6), (7, Value.slice A93 y92.length c94), (9, Value.int .i64 y107), (11, Value.int .i64 v289), (137, Value.bool v321)] r ∧ Hp G322 (bx g10 [Value.int .i64 a1.Before, Value.int .i64 a1.Behind, Value.slice A2 a1.Keep.length c3] 24 :: tk (Value.slice A93 y92.length c94) 1 9 :: L) w ∧ True) ?_ ?_
                · replace H := hC
                  by_cases h327 : v314 = true
                  · replace H := ite_yes h327 H
                    refine q_mv (v := Value.int .i64 y108) rfl ?_ (hw := guard_yes rfl rfl rfl (bval_yes h327))
                    refine q_eql rfl rfl ?_ (hw := guard_yes rfl rfl rfl (bval_yes h327))
                    refine q_pick true (v := Value.bool (decide (y108 = 0))) (bval_yes h327) rfl ?_
                    refine wpq_nil ?_
                    cases H
                    exact ⟨rfl, _, rfl, (Gh.le_refl _), ⟨rfl, rfl, rfl, rfl, rfl, trivial⟩, hI318, trivial⟩
                  · replace H := ite_no h327 H
                    refine wpq_no (guard_no rfl rfl rfl (bval_no h327) rfl) ?_
                    refine wpq_no (guard_no rfl rfl rfl (bval_no h327) rfl) ?_
                    refine q_pick false (v := Value.bool false) (bval_no h327) rfl ?_
                    refine wpq_nil ?_
                    cases H
                    exact ⟨rfl, _, rfl, (Gh.le_refl _), ⟨rfl, rfl, rfl, rfl, rfl, trivial⟩, hI318, trivial⟩
                · clear hC
                  rintro e r ds wd324 ⟨rfl, G322, rfl, hG323, hHas, hI325, _⟩
                  rw [hHas.eq]; clear hHas
                  refine q_mv (v := Value.bool v321) rfl ?_
                  obtain ⟨v328, hC, H⟩ := bind_some H
                  refine wpq_split 5 (K := fun e r ds w => e = .normal ∧ ∃ (G329 : Gh), ds = [] ∧ G322 ≤ G329 ∧ Has [(7, Value.slice A93 y92.length c94), (9, Value.int .i64 y107), (143, Value.bool v328)] r ∧ Hp G329 (bx g10 [Value.int .i64 a1.Before, Value.int .i64 a1.Behind, Value.slice A2 a1.Keep.length c3] 24 :: tk (Value.slice A93 y92.length c94) 1 9 :: L) w ∧ True) ?_ ?_
                  · replace H := hC
                    by_cases h334 : v321 = true
                    · replace H := ite_yes h334 H
                      refine q_mv (v := Value.int .i64 v289) rfl ?_ (hw := guard_yes rfl rfl rfl (bval_yes h334))
                      refine q_mv (v := Value.string a6) rfl ?_ (hw := guard_yes rfl rfl rfl (bval_yes h334))
                      refine q_lens so9 rfl ?_ (hw := guard_yes rfl rfl rfl (bval_yes h334))
                      refine q_eql rfl rfl ?_ (hw := guard_yes rfl rfl rfl (bval_yes h334))
                      refine q_pick true (v := Value.bool (decide (v289 = (a6.size : Int)))) (bval_yes h334) rfl ?_
                      refine wpq_nil ?_
                      cases H
                      exact ⟨rfl, _, rfl, (Gh.le_refl _), ⟨rfl, rfl, rfl, trivial⟩, hI325, trivial⟩
                    · replace H := ite_no h334 H
                      refine wpq_no (guard_no rfl rfl rfl (bval_no h334) rfl) ?_
                      refine wpq_no (guard_no rfl rfl rfl (bval_no h334) rfl) ?_
                      refine wpq_no (guard_no rfl rfl rfl (bval_no h334) rfl) ?_
                      refine wpq_no (guard_no rfl rfl rfl (bval_no h334) rfl) ?_
                      refine q_pick false (v := Value.bool false) (bval_no h334) rfl ?_
                      refine wpq_nil ?_
                      cases H
                      exact ⟨rfl, _, rfl, (Gh.le_refl _), ⟨rfl, rfl, rfl, trivial⟩, hI325, trivial⟩
                  · clear hC
                    rintro e r ds wd331 ⟨rfl, G329, rfl, hG330, hHas, hI332, _⟩
                    rw [hHas.eq]; clear hHas
                    refine q_mv (v := Value.bool v328) rfl ?_
                    obtain ⟨v335, hC, H⟩ := bind_some H
                    refine wpq_split 5 (K := fun e r ds w => e = .normal ∧ ∃ (G336 : Gh), ds = [] ∧ G329 ≤ G336 ∧ Has [(149, Value.bool v335)] r ∧ Hp G336 (bx g10 [Value.int .i64 a1.Before, Value.int .i64 a1.Behind, Value.slice A2 a1.Keep.length c3] 24 :: tk (Value.slice A93 y92.length c94) 1 9 :: L) w ∧ True) ?_ ?_
                    · replace H := hC
                      by_cases h341 : v328 = true
                      · replace H := ite_yes h341 H
                        refine q_mv (v := Value.int .i64 y107) rfl ?_ (hw := guard_yes rfl rfl rfl (bval_yes h341))
                        refine q_mv (v := Value.slice A93 y92.length c94) rfl ?_ (hw := guard_yes rfl rfl rfl (bval_yes h341))
                        refine q_len so22 rfl ?_ (hw := guard_yes rfl rfl rfl (bval_yes h341))
                        refine q_eql rfl rfl ?_ (hw := guard_yes rfl rfl rfl (bval_yes h341))
                        refine q_pick true (v := Value.bool (decide (y107 = (y92.length : Int)))) (bval_yes h341) rfl ?_
                        refine wpq_nil ?_
                        cases H
                        exact ⟨rfl, _, rfl, (Gh.le_refl _), ⟨rfl, trivial⟩, hI332, trivial⟩
                      · replace H := ite_no h341 H
                        refine wpq_no (guard_no rfl rfl rfl (bval_no h341) rfl) ?_
                        refine wpq_no (guard_no rfl rfl rfl (bval_no h341) rfl) ?_
                        refine wpq_no (guard_no rfl rfl rfl (bval_no h341) rfl) ?_
                        refine wpq_no (guard_no rfl rfl rfl (bval_no h341) rfl) ?_
                        refine q_pick false (v := Value.bool false) (bval_no h341) rfl ?_
                        refine wpq_nil ?_
                        cases H
                        exact ⟨rfl, _, rfl, (Gh.le_refl _), ⟨rfl, trivial⟩, hI332, trivial⟩
                    · clear hC
                      rintro e r ds wd338 ⟨rfl, G336, rfl, hG337, hHas, hI339, _⟩
                      rw [hHas.eq]; clear hHas
                      refine q_as (v := Value.bool v335) rfl ?_
                      refine wpq_nil ?_
                      refine hK313 _ _ _ ?_
                      refine wpc_ret ?_
                      have hI342 := Hp.sub (L := bx g10 [Value.int .i64 a1.Before, Value.int .i64 a1.Behind, Value.slice A2 a1.Keep.length c3] 24 :: tk (Value.slice A93 y92.length c94) 1 9 :: L) (L' := L) hI339 (List.Sublist.cons _ (List.Sublist.cons _ (List.Sublist.refl _)))
                      cases H
                      exact ⟨.inr rfl, rfl, _, ⟨_, _, rfl, rfl, rfl⟩, _, (Gh.le_trans (Gh.le_trans (Gh.le_trans (Gh.le_trans (Gh.le_trans (Gh.le_trans (Gh.le_trans (Gh.le_trans (Gh.le_trans (Gh.le_trans hG17 hG27) hG55) hG89) hG104) hG134) hG291) hG316) hG323) hG330) hG337), hI342, rfl⟩
end Go.Proofs.YtiahgcidgbalkaaDoor.LG
