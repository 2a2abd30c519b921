/-
  The walks: each function computes its plain function: printed by a program out of the translation.
-/
import Derived.Test.YtiahgcidgbalkaaDoorSc
set_option linter.unusedVariables false
set_option linter.unusedSimpArgs false
set_option maxRecDepth 100000
namespace Go.Proofs.YtiahgcidgbalkaaDoor.LG
open Go Go.LG Go.RowKit
open Go.Lib Go.Shelf Go.Proofs
set_option maxHeartbeats 1000000 in
theorem formelaw08_BreaksMatchesReference_spec {a1 : api_Breaks} {a6 : ByteArray} {A2 : Option Addr} {c3 : Nat} {r1197 : Bool} {G : Gh} {L : List Itm} {w : World} (hI : Hp G (L) w) (hl4 : a1.Keep.length ≤ c3) (hD5 : Dat Kd.str G A2 a1.Keep) (hgl : Gl G) (H : formelaw08_BreaksMatchesReference a1 a6 = some r1197) :
    Calls Tryd.prog 3 [Value.agg [Value.int .i64 a1.Before, Value.int .i64 a1.Behind, Value.slice A2 a1.Keep.length c3].toArray, Value.string a6].toArray w fun e w' => ∃ (G' : Gh), G ≤ G' ∧ Hp G' (L) w' ∧ e = .returned (Value.bool r1197) := by
  refine calls_intro (N := 81) Tryd.func3 rfl rfl (Nat.le_of_ble_eq_true rfl) ?_
  unfold formelaw08_BreaksMatchesReference at H
  refine wpc_seq_k fun K7 hK8 => ?_
  refine wpc_region ?_
  refine q_box hI (v := Value.agg [Value.int .i64 a1.Before, Value.int .i64 a1.Behind, Value.slice A2 a1.Keep.length c3].toArray) (vs := [Value.int .i64 a1.Before, Value.int .i64 a1.Behind, Value.slice A2 a1.Keep.length c3]) rfl rfl (fun g10 wd11 hI12 => ?_)
  refine q_as (v := Value.bool false) rfl ?_
  refine wpq_nil ?_
  refine hK8 _ _ _ ?_
  refine wpc_seq_k fun K13 hK14 => ?_
  refine wpc_region ?_
  obtain ⟨y20, hy15, H⟩ := bind_some H
  refine q_cv (vs := []) bo9 rfl rfl (formelaw08_head_spec hI12 (hgl.mono (Gh.le_refl _)) hy15) ?_
  rintro _ wd18 ⟨G16, hG17, hI19, rfl⟩
  refine ⟨_, rfl, ?_⟩
  refine q_as (v := Value.bool y20) rfl ?_
  refine wpq_nil ?_
  refine hK14 _ _ _ ?_
  refine wpc_seq_k fun K21 hK22 => ?_
  refine wpc_seq_k fun K23 hK24 => ?_
  refine wpc_region ?_
  refine q_fa (a' := ⟨g10, 2, none⟩) fl24_2 rfl (add_plain _ _ _) ?_
  refine q_ld hI19 0 (v := Value.slice A2 a1.Keep.length c3) ag22 rfl rfl rfl ?_
  refine q_len so22 rfl ?_
  refine q_gtr rfl rfl ?_
  refine q_mv (v := Value.bool (decide (30 < (a1.Keep.length : Int)))) rfl ?_
  obtain ⟨v25, hC, H⟩ := bind_some H
  refine wpq_split 9 (K := fun e r ds w => e = .normal ∧ ∃ (G26 : Gh), ds = [] ∧ G16 ≤ G26 ∧ Has [(1, Value.string a6), (2, Value.pointer (some ⟨g10, 0, none⟩)), (5, Value.bool y20), (26, Value.bool v25)] r ∧ Hp G26 (bx g10 [Value.int .i64 a1.Before, Value.int .i64 a1.Behind, Value.slice A2 a1.Keep.length c3] 24 :: L) w ∧ True) ?_ ?_
  · replace H := hC
    by_cases h31 : 30 < (a1.Keep.length : Int)
    · replace H := ite_yes h31 H
      refine wpq_no (guard_no rfl rfl rfl (bool_yes h31) rfl) ?_
      refine wpq_no (guard_no rfl rfl rfl (bool_yes h31) rfl) ?_
      refine wpq_no (guard_no rfl rfl rfl (bool_yes h31) rfl) ?_
      refine wpq_no (guard_no rfl rfl rfl (bool_yes h31) rfl) ?_
      refine wpq_no (guard_no rfl rfl rfl rfl rfl) ?_
      refine wpq_no (guard_no rfl rfl rfl rfl rfl) ?_
      refine wpq_no (guard_no rfl rfl rfl rfl rfl) ?_
      refine wpq_no (guard_no rfl rfl rfl (bool_yes h31) rfl) ?_
      refine q_pick true (v := Value.bool true) (bool_yes h31) rfl ?_
      refine wpq_nil ?_
      cases H
      exact ⟨rfl, _, rfl, (Gh.le_refl _), ⟨rfl, rfl, rfl, rfl, trivial⟩, hI19, trivial⟩
    · replace H := ite_no h31 H
      refine q_mv (v := Value.string a6) rfl ?_ (hw := guard_yes rfl rfl rfl (bool_no h31))
      refine q_lens so9 rfl ?_ (hw := guard_yes rfl rfl rfl (bool_no h31))
      refine q_gtr rfl rfl ?_ (hw := guard_yes rfl rfl rfl (bool_no h31))
      refine q_mv (v := Value.bool (decide (300 < (a6.size : Int)))) rfl ?_ (hw := guard_yes rfl rfl rfl (bool_no h31))
      obtain ⟨v32, hC, H⟩ := bind_some H
      refine wpq_split 4 (K := fun e r ds w => e = .normal ∧ ∃ (G33 : Gh), ds = [] ∧ G16 ≤ G33 ∧ Has [(1, Value.string a6), (2, Value.pointer (some ⟨g10, 0, none⟩)), (5, Value.bool y20), (17, Value.bool (decide (30 < (a1.Keep.length : Int)))), (25, Value.bool v32)] r ∧ Hp G33 (bx g10 [Value.int .i64 a1.Before, Value.int .i64 a1.Behind, Value.slice A2 a1.Keep.length c3] 24 :: L) w ∧ True) ?_ ?_
      · replace H := hC
        by_cases h38 : 300 < (a6.size : Int)
        · replace H := ite_yes h38 H
          refine q_mv (v := Value.string a6) rfl ?_ (hw := guard_yes rfl rfl rfl (bool_yes h38))
          refine q_lens so9 rfl ?_ (hw := guard_yes rfl rfl rfl (bool_yes h38))
          refine q_leq rfl rfl ?_ (hw := guard_yes rfl rfl rfl (bool_yes h38))
          refine q_pick true (v := Value.bool (decide ((a6.size : Int) ≤ 2000))) (bool_yes h38) rfl ?_ (hw := guard_yes rfl rfl rfl (bool_no h31))
          refine wpq_nil ?_
          cases H
          exact ⟨rfl, _, rfl, (Gh.le_refl _), ⟨rfl, rfl, rfl, rfl, rfl, trivial⟩, hI19, trivial⟩
        · replace H := ite_no h38 H
          refine wpq_no (guard_no rfl rfl rfl (bool_no h38) rfl) ?_
          refine wpq_no (guard_no rfl rfl rfl (bool_no h38) rfl) ?_
          refine wpq_no (guard_no rfl rfl rfl (bool_no h38) rfl) ?_
          refine q_pick false (v := Value.bool false) (bool_no h38) rfl ?_ (hw := guard_yes rfl rfl rfl (bool_no h31))
          refine wpq_nil ?_
          cases H
          exact ⟨rfl, _, rfl, (Gh.le_refl _), ⟨rfl, rfl, rfl, rfl, rfl, trivial⟩, hI19, trivial⟩
      · clear hC
        rintro e r ds wd35 ⟨rfl, G33, rfl, hG34, hHas, hI36, _⟩
        rw [hHas.eq]; clear hHas
        refine q_pick false (v := Value.bool v32) (bool_no h31) rfl ?_
        refine wpq_nil ?_
        cases H
        exact ⟨rfl, _, rfl, hG34, ⟨rfl, rfl, rfl, rfl, trivial⟩, hI36, trivial⟩
  · clear hC
    rintro e r ds wd28 ⟨rfl, G26, rfl, hG27, hHas, hI29, _⟩
    rw [hHas.eq]; clear hHas
    refine wpq_nil ?_
    refine hK24 _ _ _ ?_
    by_cases h39 : v25 = true
    · replace H := ite_yes h39 H
      refine wpc_true (bval_yes h39) ?_
      refine wpc_seq_k fun K40 hK41 => ?_
      refine wpc_region ?_
      refine q_mv (v := Value.bool y20) rfl ?_
      refine q_as (v := Value.bool y20) rfl ?_
      refine wpq_nil ?_
      refine hK41 _ _ _ ?_
      refine wpc_ret ?_
      have hI42 := Hp.sub (L := bx g10 [Value.int .i64 a1.Before, Value.int .i64 a1.Behind, Value.slice A2 a1.Keep.length c3] 24 :: L) (L' := L) hI29 (List.Sublist.cons _ (List.Sublist.refl _))
      cases H
      exact ⟨.inr rfl, rfl, _, ⟨_, _, rfl, rfl, rfl⟩, _, (Gh.le_trans hG17 hG27), hI42, rfl⟩
    · replace H := ite_no h39 H
      refine wpc_false (bval_no h39) ?_
      refine wpc_skip ?_
      refine hK22 _ _ _ ?_
      refine wpc_seq_k fun K43 hK44 => ?_
      refine wpc_region ?_
      refine q_ldA hI29 0 (cs := [Value.int .i64 a1.Before, Value.int .i64 a1.Behind, Value.slice A2 a1.Keep.length c3]) ag24 rfl rfl rfl rfl ?_
      refine q_mv (v := Value.string a6) rfl ?_
      obtain ⟨⟨y50, y57⟩, hy45, H⟩ := bind_some H
      refine q_cv (vs := [Value.agg [Value.int .i64 a1.Before, Value.int .i64 a1.Behind, Value.slice A2 a1.Keep.length c3].toArray, Value.string a6]) bo10 rfl rfl (breaks_List_spec (a1 := a1) (a6 := a6) hI29 hl4 (Dat.mono (Gh.le_trans hG17 hG27) hD5) hy45) ?_
      rintro _ wd48 ⟨A51, c52, G46, hG47, hI49, hl53, hD54, ho55, rfl⟩
      refine ⟨_, rfl, ?_⟩
      refine q_mv (v := Value.tuple [Value.slice A51 y50.length c52, Value.int .i64 y57].toArray) rfl ?_
      refine q_ex (v := Value.slice A51 y50.length c52) rfl rfl ?_
      refine q_ex (v := Value.int .i64 y57) rfl rfl ?_
      refine q_as (v := Value.slice A51 y50.length c52) rfl ?_
      refine q_as (v := Value.int .i64 y57) rfl ?_
      refine wpq_nil ?_
      refine hK44 _ _ _ ?_
      refine wpc_seq_k fun K58 hK59 => ?_
      refine wpc_region ?_
      refine q_ldA hI49 1 (cs := [Value.int .i64 a1.Before, Value.int .i64 a1.Behind, Value.slice A2 a1.Keep.length c3]) ag24 rfl rfl rfl rfl ?_
      refine q_mv (v := Value.string a6) rfl ?_
      obtain ⟨⟨y65, y72⟩, hy60, H⟩ := bind_some H
      refine q_cv (vs := [Value.agg [Value.int .i64 a1.Before, Value.int .i64 a1.Behind, Value.slice A2 a1.Keep.length c3].toArray, Value.string a6]) bo11 rfl rfl (formeref08_List_spec (a1 := a1) (a6 := a6) hI49 hl4 (Dat.mono (Gh.le_trans (Gh.le_trans hG17 hG27) hG47) hD5) hy60) ?_
      rintro _ wd63 ⟨A66, c67, G61, hG62, hI64, hl68, hD69, ho70, rfl⟩
      refine ⟨_, rfl, ?_⟩
      refine q_mv (v := Value.tuple [Value.slice A66 y65.length c67, Value.int .i64 y72].toArray) rfl ?_
      refine q_ex (v := Value.slice A66 y65.length c67) rfl rfl ?_
      refine q_ex (v := Value.int .i64 y72) rfl rfl ?_
      refine q_as (v := Value.slice A66 y65.length c67) rfl ?_
      refine q_as (v := Value.int .i64 y72) rfl ?_
      refine wpq_nil ?_
      refine hK59 _ _ _ ?_
      refine wpc_seq_k fun K73 hK74 => ?_
      obtain ⟨v75, hC, H⟩ := bind_some H
      refine wpc_mono (Q := fun e r ds w => e = .normal ∧ ∃ (G76 : Gh), ds = [] ∧ G61 ≤ G76 ∧ Has [(1, Value.string a6), (2, Value.pointer (some ⟨g10, 0, none⟩)), (5, Value.bool v75)] r ∧ Hp G76 (bx g10 [Value.int .i64 a1.Before, Value.int .i64 a1.Behind, Value.slice A2 a1.Keep.length c3] 24 :: tk (Value.slice A66 y65.length c67) 2 37 :: tk (Value.slice A51 y50.length c52) 2 37 :: L) w ∧ True) ?_ ?_
      · replace H := hC
        by_cases h81 : y20 = true
        · replace H := ite_yes h81 H
          obtain ⟨y87, hy82, H⟩ := bind_some H
          obtain ⟨y93, hy88, H⟩ := bind_some H
          by_cases h94 : y87 = y93
          · replace H := ite_yes h94 H
            obtain ⟨y100, hy95, H⟩ := bind_some H
            by_cases h101 : y100 = true
            · replace H := ite_yes h101 H
              refine wpc_drawL [0, 1, 3, 7, 3, 31, 63, 127, 255, 511, 511, 2047, 4095, 8191, 16383, 16383, 65535, 131071, 262143] (fun D r w => (∃ (G' : Gh), G61 ≤ G' ∧ Regs [(1, Value.string a6), (2, Value.pointer (some ⟨g10, 0, none⟩)), (6, Value.slice A51 y50.length c52), (7, Value.int .i64 y57), (8, Value.slice A66 y65.length c67), (9, Value.int .i64 y72)] [(5, Value.bool y20, 18)] [(0, 40, Value.bool y20), (1, 41, Value.bool y20), (2, 42, Value.agg [Value.int .i64 a1.Before, Value.int .i64 a1.Behind, Value.slice A2 a1.Keep.length c3].toArray), (3, 43, Value.bool y87), (4, 44, Value.agg [Value.int .i64 a1.Before, Value.int .i64 a1.Behind, Value.slice A2 a1.Keep.length c3].toArray), (5, 45, Value.bool y93), (6, 46, Value.bool (decide (y87 = y93))), (7, 47, Value.bool (decide (y87 = y93))), (8, 48, Value.bool (decide (y87 = y93))), (9, 49, Value.slice A51 y50.length c52), (10, 50, Value.slice A66 y65.length c67), (11, 51, Value.bool y100), (12, 52, Value.bool y100), (13, 53, Value.bool y100), (14, 54, Value.int .i64 y57), (15, 55, Value.int .i64 y72), (16, 56, Value.bool (decide (y57 = y72))), (17, 57, Value.bool (decide (y57 = y72))), (18, 5, Value.bool (decide (y57 = y72)))] D r ∧ Hp G' (tk (Value.slice A66 y65.length c67) 2 37 :: tk (Value.slice A51 y50.length c52) 2 37 :: bx g10 [Value.int .i64 a1.Before, Value.int .i64 a1.Behind, Value.slice A2 a1.Keep.length c3] 24 :: L) w)) mixo rfl rfl ?_ ?_ ?_
              · exact ⟨_, Gh.le_refl _, Regs.start ⟨rfl, rfl, rfl, rfl, rfl, rfl, trivial⟩ ⟨rfl, trivial⟩, hI64.drew⟩
              · refine ⟨?_, ?_, ?_, ?_, ?_, ?_, ?_, ?_, ?_, ?_, ?_, ?_, ?_, ?_, ?_, ?_, ?_, ?_, ?_, trivial⟩
                · intro D r wd106 hR hDi hpre hpost
                  obtain ⟨G102, hG103, hReg105, hI104⟩ := hR
                  have hH : Has [(5, Value.bool y20)] r := ⟨hReg105.get2 0 rfl (hpost 18 rfl), trivial⟩
                  obtain ⟨r0, rfl⟩ := hH.ex
                  refine q_mv (v := Value.bool y20) rfl ?_
                  refine wpq_nil ?_
                  exact ⟨rfl, ⟨_, hG103, (Regs.step hReg105 hDi rfl rfl rfl rfl), hI104⟩⟩
                · intro D r wd106 hR hDi hpre hpost
                  obtain ⟨G102, hG103, hReg105, hI104⟩ := hR
                  have hH : Has [(40, Value.bool y20)] r := ⟨hReg105.get 0 rfl (hpre 0 rfl), trivial⟩
                  obtain ⟨r0, rfl⟩ := hH.ex
                  refine q_mv (v := Value.bool y20) rfl ?_
                  refine wpq_nil ?_
                  exact ⟨rfl, ⟨_, hG103, (Regs.step hReg105 hDi rfl rfl rfl rfl), hI104⟩⟩
                · intro D r wd106 hR hDi hpre hpost
                  obtain ⟨G102, hG103, hReg105, hI104⟩ := hR
                  have hH : Has [(2, Value.pointer (some ⟨g10, 0, none⟩)), (41, Value.bool y20)] r := ⟨hReg105.ins.get 1 rfl, hReg105.get 1 rfl (hpre 1 rfl), trivial⟩
                  obtain ⟨r0, rfl⟩ := hH.ex
                  refine q_ldA hI104 2 (cs := [Value.int .i64 a1.Before, Value.int .i64 a1.Behind, Value.slice A2 a1.Keep.length c3]) ag24 rfl rfl rfl rfl ?_ (hw := guard_yes rfl rfl rfl (bval_yes h81))
                  refine wpq_nil ?_
                  exact ⟨rfl, ⟨_, hG103, (Regs.step hReg105 hDi rfl rfl rfl rfl), hI104⟩⟩
                · intro D r wd106 hR hDi hpre hpost
                  obtain ⟨G102, hG103, hReg105, hI104⟩ := hR
                  have hH : Has [(41, Value.bool y20), (42, Value.agg [Value.int .i64 a1.Before, Value.int .i64 a1.Behind, Value.slice A2 a1.Keep.length c3].toArray)] r := ⟨hReg105.get 1 rfl (hpre 1 rfl), hReg105.get 2 rfl (hpre 2 rfl), trivial⟩
                  obtain ⟨r0, rfl⟩ := hH.ex
                  refine q_cv (vs := [Value.agg [Value.int .i64 a1.Before, Value.int .i64 a1.Behind, Value.slice A2 a1.Keep.length c3].toArray]) bo12 rfl rfl (breaks_Valid_spec (a1 := a1) hI104 hl4 (Dat.mono (Gh.le_trans (Gh.le_trans (Gh.le_trans (Gh.le_trans hG17 hG27) hG47) hG62) hG103) hD5) hy82) ?_ (hw := guard_yes rfl rfl rfl (bval_yes h81))
                  rintro _ wd85 ⟨G83, hG84, hI86, rfl⟩
                  refine ⟨_, rfl, ?_⟩
                  refine wpq_nil ?_
                  exact ⟨rfl, ⟨_, (Gh.le_trans hG103 hG84), (Regs.step hReg105 hDi rfl rfl rfl rfl), hI86⟩⟩
                · intro D r wd106 hR hDi hpre hpost
                  obtain ⟨G102, hG103, hReg105, hI104⟩ := hR
                  have hH : Has [(2, Value.pointer (some ⟨g10, 0, none⟩)), (41, Value.bool y20)] r := ⟨hReg105.ins.get 1 rfl, hReg105.get 1 rfl (hpre 1 rfl), trivial⟩
                  obtain ⟨r0, rfl⟩ := hH.ex
                  refine q_ldA hI104 2 (cs := [Value.int .i64 a1.Before, Value.int .i64 a1.Behind, Value.slice A2 a1.Keep.length c3]) ag24 rfl rfl rfl rfl ?_ (hw := guard_yes rfl rfl rfl (bval_yes h81))
                  refine wpq_nil ?_
                  exact ⟨rfl, ⟨_, hG103, (Regs.step hReg105 hDi rfl rfl rfl rfl), hI104⟩⟩
                · intro D r wd106 hR hDi hpre hpost
                  obtain ⟨G102, hG103, hReg105, hI104⟩ := hR
                  have hH : Has [(41, Value.bool y20), (44, Value.agg [Value.int .i64 a1.Before, Value.int .i64 a1.Behind, Value.slice A2 a1.Keep.length c3].toArray)] r := ⟨hReg105.get 1 rfl (hpre 1 rfl), hReg105.get 4 rfl (hpre 4 rfl), trivial⟩
                  obtain ⟨r0, rfl⟩ := hH.ex
                  refine q_cv (vs := [Value.agg [Value.int .i64 a1.Before, Value.int .i64 a1.Behind, Value.slice A2 a1.Keep.length c3].toArray]) bo13 rfl rfl (formeref08_Valid_spec (a1 := a1) hI104 hl4 (Dat.mono (Gh.le_trans (Gh.le_trans (Gh.le_trans (Gh.le_trans hG17 hG27) hG47) hG62) hG103) hD5) hy88) ?_ (hw := guard_yes rfl rfl rfl (bval_yes h81))
                  rintro _ wd91 ⟨G89, hG90, hI92, rfl⟩
                  refine ⟨_, rfl, ?_⟩
                  refine wpq_nil ?_
                  exact ⟨rfl, ⟨_, (Gh.le_trans hG103 hG90), (Regs.step hReg105 hDi rfl rfl rfl rfl), hI92⟩⟩
                · intro D r wd106 hR hDi hpre hpost
                  obtain ⟨G102, hG103, hReg105, hI104⟩ := hR
                  have hH : Has [(41, Value.bool y20), (43, Value.bool y87), (45, Value.bool y93)] r := ⟨hReg105.get 1 rfl (hpre 1 rfl), hReg105.get 3 rfl (hpre 3 rfl), hReg105.get 5 rfl (hpre 5 rfl), trivial⟩
                  obtain ⟨r0, rfl⟩ := hH.ex
                  refine q_bool_eql rfl rfl so4 ?_ (hw := guard_yes rfl rfl rfl (bval_yes h81))
                  refine wpq_nil ?_
                  exact ⟨rfl, ⟨_, hG103, (Regs.step hReg105 hDi rfl rfl rfl rfl), hI104⟩⟩
                · intro D r wd106 hR hDi hpre hpost
                  obtain ⟨G102, hG103, hReg105, hI104⟩ := hR
                  have hH : Has [(41, Value.bool y20), (46, Value.bool (decide (y87 = y93)))] r := ⟨hReg105.get 1 rfl (hpre 1 rfl), hReg105.get 6 rfl (hpre 6 rfl), trivial⟩
                  obtain ⟨r0, rfl⟩ := hH.ex
                  refine q_pick true (v := Value.bool (decide (y87 = y93))) (bval_yes h81) rfl ?_
                  refine wpq_nil ?_
                  exact ⟨rfl, ⟨_, hG103, (Regs.step hReg105 hDi rfl rfl rfl rfl), hI104⟩⟩
                · intro D r wd106 hR hDi hpre hpost
                  obtain ⟨G102, hG103, hReg105, hI104⟩ := hR
                  have hH : Has [(47, Value.bool (decide (y87 = y93)))] r := ⟨hReg105.get 7 rfl (hpre 7 rfl), trivial⟩
                  obtain ⟨r0, rfl⟩ := hH.ex
                  refine q_mv (v := Value.bool (decide (y87 = y93))) rfl ?_
                  refine wpq_nil ?_
                  exact ⟨rfl, ⟨_, hG103, (Regs.step hReg105 hDi rfl rfl rfl rfl), hI104⟩⟩
                · intro D r wd106 hR hDi hpre hpost
                  obtain ⟨G102, hG103, hReg105, hI104⟩ := hR
                  have hH : Has [(6, Value.slice A51 y50.length c52), (48, Value.bool (decide (y87 = y93)))] r := ⟨hReg105.ins.get 2 rfl, hReg105.get 8 rfl (hpre 8 rfl), trivial⟩
                  obtain ⟨r0, rfl⟩ := hH.ex
                  refine q_mv (v := Value.slice A51 y50.length c52) rfl ?_ (hw := guard_yes rfl rfl rfl (bool_yes h94))
                  refine wpq_nil ?_
                  exact ⟨rfl, ⟨_, hG103, (Regs.step hReg105 hDi rfl rfl rfl rfl), hI104⟩⟩
                · intro D r wd106 hR hDi hpre hpost
                  obtain ⟨G102, hG103, hReg105, hI104⟩ := hR
                  have hH : Has [(8, Value.slice A66 y65.length c67), (48, Value.bool (decide (y87 = y93)))] r := ⟨hReg105.ins.get 4 rfl, hReg105.get 8 rfl (hpre 8 rfl), trivial⟩
                  obtain ⟨r0, rfl⟩ := hH.ex
                  refine q_mv (v := Value.slice A66 y65.length c67) rfl ?_ (hw := guard_yes rfl rfl rfl (bool_yes h94))
                  refine wpq_nil ?_
                  exact ⟨rfl, ⟨_, hG103, (Regs.step hReg105 hDi rfl rfl rfl rfl), hI104⟩⟩
                · intro D r wd106 hR hDi hpre hpost
                  obtain ⟨G102, hG103, hReg105, hI104⟩ := hR
                  have hH : Has [(48, Value.bool (decide (y87 = y93))), (49, Value.slice A51 y50.length c52), (50, Value.slice A66 y65.length c67)] r := ⟨hReg105.get 8 rfl (hpre 8 rfl), hReg105.get 9 rfl (hpre 9 rfl), hReg105.get 10 rfl (hpre 10 rfl), trivial⟩
                  obtain ⟨r0, rfl⟩ := hH.ex
                  refine q_cv (vs := [Value.slice A51 y50.length c52, Value.slice A66 y65.length c67]) bo14 rfl rfl (formeref08_Same_spec (a1 := y50) (a6 := y65) hI104 hl53 (Dat.mono (Gh.le_trans hG62 hG103) hD54) hl68 (Dat.mono hG103 hD69) hy95) ?_ (hw := guard_yes rfl rfl rfl (bool_yes h94))
                  rintro _ wd98 ⟨G96, hG97, hI99, rfl⟩
                  refine ⟨_, rfl, ?_⟩
                  refine wpq_nil ?_
                  exact ⟨rfl, ⟨_, (Gh.le_trans hG103 hG97), (Regs.step hReg105 hDi rfl rfl rfl rfl), hI99⟩⟩
                · intro D r wd106 hR hDi hpre hpost
                  obtain ⟨G102, hG103, hReg105, hI104⟩ := hR
                  have hH : Has [(48, Value.bool (decide (y87 = y93))), (51, Value.bool y100)] r := ⟨hReg105.get 8 rfl (hpre 8 rfl), hReg105.get 11 rfl (hpre 11 rfl), trivial⟩
                  obtain ⟨r0, rfl⟩ := hH.ex
                  refine q_pick true (v := Value.bool y100) (bool_yes h94) rfl ?_
                  refine wpq_nil ?_
                  exact ⟨rfl, ⟨_, hG103, (Regs.step hReg105 hDi rfl rfl rfl rfl), hI104⟩⟩
                · intro D r wd106 hR hDi hpre hpost
                  obtain ⟨G102, hG103, hReg105, hI104⟩ := hR
                  have hH : Has [(52, Value.bool y100)] r := ⟨hReg105.get 12 rfl (hpre 12 rfl), trivial⟩
                  obtain ⟨r0, rfl⟩ := hH.ex
                  refine q_mv (v := Value.bool y100) rfl ?_
                  refine wpq_nil ?_
                  exact ⟨rfl, ⟨_, hG103, (Regs.step hReg105 hDi rfl rfl rfl rfl), hI104⟩⟩
                · intro D r wd106 hR hDi hpre hpost
                  obtain ⟨G102, hG103, hReg105, hI104⟩ := hR
                  have hH : Has [(7, Value.int .i64 y57), (53, Value.bool y100)] r := ⟨hReg105.ins.get 3 rfl, hReg105.get 13 rfl (hpre 13 rfl), trivial⟩
                  obtain ⟨r0, rfl⟩ := hH.ex
                  refine q_mv (v := Value.int .i64 y57) rfl ?_ (hw := guard_yes rfl rfl rfl (bval_yes h101))
                  refine wpq_nil ?_
                  exact ⟨rfl, ⟨_, hG103, (Regs.step hReg105 hDi rfl rfl rfl rfl), hI104⟩⟩
                · intro D r wd106 hR hDi hpre hpost
                  obtain ⟨G102, hG103, hReg105, hI104⟩ := hR
                  have hH : Has [(9, Value.int .i64 y72), (53, Value.bool y100)] r := ⟨hReg105.ins.get 5 rfl, hReg105.get 13 rfl (hpre 13 rfl), trivial⟩
                  obtain ⟨r0, rfl⟩ := hH.ex
                  refine q_mv (v := Value.int .i64 y72) rfl ?_ (hw := guard_yes rfl rfl rfl (bval_yes h101))
                  refine wpq_nil ?_
                  exact ⟨rfl, ⟨_, hG103, (Regs.step hReg105 hDi rfl rfl rfl rfl), hI104⟩⟩
                · intro D r wd106 hR hDi hpre hpost
                  obtain ⟨G102, hG103, hReg105, hI104⟩ := hR
                  have hH : Has [(53, Value.bool y100), (54, Value.int .i64 y57), (55, Value.int .i64 y72)] r := ⟨hReg105.get 13 rfl (hpre 13 rfl), hReg105.get 14 rfl (hpre 14 rfl), hReg105.get 15 rfl (hpre 15 rfl), trivial⟩
                  obtain ⟨r0, rfl⟩ := hH.ex
                  refine q_eql rfl rfl ?_ (hw := guard_yes rfl rfl rfl (bval_yes h101))
                  refine wpq_nil ?_
                  exact ⟨rfl, ⟨_, hG103, (Regs.step hReg105 hDi rfl rfl rfl rfl), hI104⟩⟩
                · intro D r wd106 hR hDi hpre hpost
                  obtain ⟨G102, hG103, hReg105, hI104⟩ := hR
                  have hH : Has [(53, Value.bool y100), (56, Value.bool (decide (y57 = y72)))] r := ⟨hReg105.get 13 rfl (hpre 13 rfl), hReg105.get 16 rfl (hpre 16 rfl), trivial⟩
                  obtain ⟨r0, rfl⟩ := hH.ex
                  refine q_pick true (v := Value.bool (decide (y57 = y72))) (bval_yes h101) rfl ?_
                  refine wpq_nil ?_
                  exact ⟨rfl, ⟨_, hG103, (Regs.step hReg105 hDi rfl rfl rfl rfl), hI104⟩⟩
                · intro D r wd106 hR hDi hpre hpost
                  obtain ⟨G102, hG103, hReg105, hI104⟩ := hR
                  have hH : Has [(57, Value.bool (decide (y57 = y72)))] r := ⟨hReg105.get 17 rfl (hpre 17 rfl), trivial⟩
                  obtain ⟨r0, rfl⟩ := hH.ex
                  refine q_as (v := Value.bool (decide (y57 = y72))) rfl ?_
                  refine wpq_nil ?_
                  exact ⟨rfl, ⟨_, hG103, (Regs.step hReg105 hDi rfl rfl rfl rfl), hI104⟩⟩
              · intro D r wd106 hall hR
                obtain ⟨G102, hG103, hReg105, hI104⟩ := hR
                have hH : Has [(1, Value.string a6), (2, Value.pointer (some ⟨g10, 0, none⟩)), (5, Value.bool (decide (y57 = y72)))] r := ⟨hReg105.ins.get 0 rfl, hReg105.ins.get 1 rfl, hReg105.get 18 rfl (hall 18 (Nat.le_of_ble_eq_true rfl)), trivial⟩
                obtain ⟨r0, rfl⟩ := hH.ex
                have hI107 := Hp.front hI104 1 rfl
                have hI108 := Hp.front hI107 1 rfl
                have hI109 := Hp.front hI108 2 rfl
                cases H
                exact ⟨rfl, _, rfl, hG103, ⟨rfl, rfl, rfl, trivial⟩, hI109, trivial⟩
            · replace H := ite_no h101 H
              refine wpc_drawL [0, 1, 3, 7, 3, 31, 63, 127, 255, 511, 511, 2047, 4095, 8191, 16383, 16383, 65535, 131071, 262143] (fun D r w => (∃ (G' : Gh), G61 ≤ G' ∧ Regs [(1, Value.string a6), (2, Value.pointer (some ⟨g10, 0, none⟩)), (6, Value.slice A51 y50.length c52), (8, Value.slice A66 y65.length c67)] [(5, Value.bool y20, 18)] [(0, 40, Value.bool y20), (1, 41, Value.bool y20), (2, 42, Value.agg [Value.int .i64 a1.Before, Value.int .i64 a1.Behind, Value.slice A2 a1.Keep.length c3].toArray), (3, 43, Value.bool y87), (4, 44, Value.agg [Value.int .i64 a1.Before, Value.int .i64 a1.Behind, Value.slice A2 a1.Keep.length c3].toArray), (5, 45, Value.bool y93), (6, 46, Value.bool (decide (y87 = y93))), (7, 47, Value.bool (decide (y87 = y93))), (8, 48, Value.bool (decide (y87 = y93))), (9, 49, Value.slice A51 y50.length c52), (10, 50, Value.slice A66 y65.length c67), (11, 51, Value.bool y100), (12, 52, Value.bool y100), (13, 53, Value.bool y100), (14, 54, undef), (15, 55, undef), (16, 56, undef), (17, 57, Value.bool false), (18, 5, Value.bool false)] D r ∧ Hp G' (tk (Value.slice A66 y65.length c67) 2 37 :: tk (Value.slice A51 y50.length c52) 2 37 :: bx g10 [Value.int .i64 a1.Before, Value.int .i64 a1.Behind, Value.slice A2 a1.Keep.length c3] 24 :: L) w)) mixo rfl rfl ?_ ?_ ?_
              · exact ⟨_, Gh.le_refl _, Regs.start ⟨rfl, rfl, rfl, rfl, trivial⟩ ⟨rfl, trivial⟩, hI64.drew⟩
              · refine ⟨?_, ?_, ?_, ?_, ?_, ?_, ?_, ?_, ?_, ?_, ?_, ?_, ?_, ?_, ?_, ?_, ?_, ?_, ?_, trivial⟩
                · intro D r wd114 hR hDi hpre hpost
                  obtain ⟨G110, hG111, hReg113, hI112⟩ := hR
                  have hH : Has [(5, Value.bool y20)] r := ⟨hReg113.get2 0 rfl (hpost 18 rfl), trivial⟩
                  obtain ⟨r0, rfl⟩ := hH.ex
                  refine q_mv (v := Value.bool y20) rfl ?_
                  refine wpq_nil ?_
                  exact ⟨rfl, ⟨_, hG111, (Regs.step hReg113 hDi rfl rfl rfl rfl), hI112⟩⟩
                · intro D r wd114 hR hDi hpre hpost
                  obtain ⟨G110, hG111, hReg113, hI112⟩ := hR
                  have hH : Has [(40, Value.bool y20)] r := ⟨hReg113.get 0 rfl (hpre 0 rfl), trivial⟩
                  obtain ⟨r0, rfl⟩ := hH.ex
                  refine q_mv (v := Value.bool y20) rfl ?_
                  refine wpq_nil ?_
                  exact ⟨rfl, ⟨_, hG111, (Regs.step hReg113 hDi rfl rfl rfl rfl), hI112⟩⟩
                · intro D r wd114 hR hDi hpre hpost
                  obtain ⟨G110, hG111, hReg113, hI112⟩ := hR
                  have hH : Has [(2, Value.pointer (some ⟨g10, 0, none⟩)), (41, Value.bool y20)] r := ⟨hReg113.ins.get 1 rfl, hReg113.get 1 rfl (hpre 1 rfl), trivial⟩
                  obtain ⟨r0, rfl⟩ := hH.ex
                  refine q_ldA hI112 2 (cs := [Value.int .i64 a1.Before, Value.int .i64 a1.Behind, Value.slice A2 a1.Keep.length c3]) ag24 rfl rfl rfl rfl ?_ (hw := guard_yes rfl rfl rfl (bval_yes h81))
                  refine wpq_nil ?_
                  exact ⟨rfl, ⟨_, hG111, (Regs.step hReg113 hDi rfl rfl rfl rfl), hI112⟩⟩
                · intro D r wd114 hR hDi hpre hpost
                  obtain ⟨G110, hG111, hReg113, hI112⟩ := hR
                  have hH : Has [(41, Value.bool y20), (42, Value.agg [Value.int .i64 a1.Before, Value.int .i64 a1.Behind, Value.slice A2 a1.Keep.length c3].toArray)] r := ⟨hReg113.get 1 rfl (hpre 1 rfl), hReg113.get 2 rfl (hpre 2 rfl), trivial⟩
                  obtain ⟨r0, rfl⟩ := hH.ex
                  refine q_cv (vs := [Value.agg [Value.int .i64 a1.Before, Value.int .i64 a1.Behind, Value.slice A2 a1.Keep.length c3].toArray]) bo12 rfl rfl (breaks_Valid_spec (a1 := a1) hI112 hl4 (Dat.mono (Gh.le_trans (Gh.le_trans (Gh.le_trans (Gh.le_trans hG17 hG27) hG47) hG62) hG111) hD5) hy82) ?_ (hw := guard_yes rfl rfl rfl (bval_yes h81))
                  rintro _ wd85 ⟨G83, hG84, hI86, rfl⟩
                  refine ⟨_, rfl, ?_⟩
                  refine wpq_nil ?_
                  exact ⟨rfl, ⟨_, (Gh.le_trans hG111 hG84), (Regs.step hReg113 hDi rfl rfl rfl rfl), hI86⟩⟩
                · intro D r wd114 hR hDi hpre hpost
                  obtain ⟨G110, hG111, hReg113, hI112⟩ := hR
                  have hH : Has [(2, Value.pointer (some ⟨g10, 0, none⟩)), (41, Value.bool y20)] r := ⟨hReg113.ins.get 1 rfl, hReg113.get 1 rfl (hpre 1 rfl), trivial⟩
                  obtain ⟨r0, rfl⟩ := hH.ex
                  refine q_ldA hI112 2 (cs := [Value.int .i64 a1.Before, Value.int .i64 a1.Behind, Value.slice A2 a1.Keep.length c3]) ag24 rfl rfl rfl rfl ?_ (hw := guard_yes rfl rfl rfl (bval_yes h81))
                  refine wpq_nil ?_
                  exact ⟨rfl, ⟨_, hG111, (Regs.step hReg113 hDi rfl rfl rfl rfl), hI112⟩⟩
                · intro D r wd114 hR hDi hpre hpost
                  obtain ⟨G110, hG111, hReg113, hI112⟩ := hR
                  have hH : Has [(41, Value.bool y20), (44, Value.agg [Value.int .i64 a1.Before, Value.int .i64 a1.Behind, Value.slice A2 a1.Keep.length c3].toArray)] r := ⟨hReg113.get 1 rfl (hpre 1 rfl), hReg113.get 4 rfl (hpre 4 rfl), trivial⟩
                  obtain ⟨r0, rfl⟩ := hH.ex
                  refine q_cv (vs := [Value.agg [Value.int .i64 a1.Before, Value.int .i64 a1.Behind, Value.slice A2 a1.Keep.length c3].toArray]) bo13 rfl rfl (formeref08_Valid_spec (a1 := a1) hI112 hl4 (Dat.mono (Gh.le_trans (Gh.le_trans (Gh.le_trans (Gh.le_trans hG17 hG27) hG47) hG62) hG111) hD5) hy88) ?_ (hw := guard_yes rfl rfl rfl (bval_yes h81))
                  rintro _ wd91 ⟨G89, hG90, hI92, rfl⟩
                  refine ⟨_, rfl, ?_⟩
                  refine wpq_nil ?_
                  exact ⟨rfl, ⟨_, (Gh.le_trans hG111 hG90), (Regs.step hReg113 hDi rfl rfl rfl rfl), hI92⟩⟩
                · intro D r wd114 hR hDi hpre hpost
                  obtain ⟨G110, hG111, hReg113, hI112⟩ := hR
                  have hH : Has [(41, Value.bool y20), (43, Value.bool y87), (45, Value.bool y93)] r := ⟨hReg113.get 1 rfl (hpre 1 rfl), hReg113.get 3 rfl (hpre 3 rfl), hReg113.get 5 rfl (hpre 5 rfl), trivial⟩
                  obtain ⟨r0, rfl⟩ := hH.ex
                  refine q_bool_eql rfl rfl so4 ?_ (hw := guard_yes rfl rfl rfl (bval_yes h81))
                  refine wpq_nil ?_
                  exact ⟨rfl, ⟨_, hG111, (Regs.step hReg113 hDi rfl rfl rfl rfl), hI112⟩⟩
                · intro D r wd114 hR hDi hpre hpost
                  obtain ⟨G110, hG111, hReg113, hI112⟩ := hR
                  have hH : Has [(41, Value.bool y20), (46, Value.bool (decide (y87 = y93)))] r := ⟨hReg113.get 1 rfl (hpre 1 rfl), hReg113.get 6 rfl (hpre 6 rfl), trivial⟩
                  obtain ⟨r0, rfl⟩ := hH.ex
                  refine q_pick true (v := Value.bool (decide (y87 = y93))) (bval_yes h81) rfl ?_
                  refine wpq_nil ?_
                  exact ⟨rfl, ⟨_, hG111, (Regs.step hReg113 hDi rfl rfl rfl rfl), hI112⟩⟩
                · intro D r wd114 hR hDi hpre hpost
                  obtain ⟨G110, hG111, hReg113, hI112⟩ := hR
                  have hH : Has [(47, Value.bool (decide (y87 = y93)))] r := ⟨hReg113.get 7 rfl (hpre 7 rfl), trivial⟩
                  obtain ⟨r0, rfl⟩ := hH.ex
                  refine q_mv (v := Value.bool (decide (y87 = y93))) rfl ?_
                  refine wpq_nil ?_
                  exact ⟨rfl, ⟨_, hG111, (Regs.step hReg113 hDi rfl rfl rfl rfl), hI112⟩⟩
                · intro D r wd114 hR hDi hpre hpost
                  obtain ⟨G110, hG111, hReg113, hI112⟩ := hR
                  have hH : Has [(6, Value.slice A51 y50.length c52), (48, Value.bool (decide (y87 = y93)))] r := ⟨hReg113.ins.get 2 rfl, hReg113.get 8 rfl (hpre 8 rfl), trivial⟩
                  obtain ⟨r0, rfl⟩ := hH.ex
                  refine q_mv (v := Value.slice A51 y50.length c52) rfl ?_ (hw := guard_yes rfl rfl rfl (bool_yes h94))
                  refine wpq_nil ?_
                  exact ⟨rfl, ⟨_, hG111, (Regs.step hReg113 hDi rfl rfl rfl rfl), hI112⟩⟩
                · intro D r wd114 hR hDi hpre hpost
                  obtain ⟨G110, hG111, hReg113, hI112⟩ := hR
                  have hH : Has [(8, Value.slice A66 y65.length c67), (48, Value.bool (decide (y87 = y93)))] r := ⟨hReg113.ins.get 3 rfl, hReg113.get 8 rfl (hpre 8 rfl), trivial⟩
                  obtain ⟨r0, rfl⟩ := hH.ex
                  refine q_mv (v := Value.slice A66 y65.length c67) rfl ?_ (hw := guard_yes rfl rfl rfl (bool_yes h94))
                  refine wpq_nil ?_
                  exact ⟨rfl, ⟨_, hG111, (Regs.step hReg113 hDi rfl rfl rfl rfl), hI112⟩⟩
                · intro D r wd114 hR hDi hpre hpost
                  obtain ⟨G110, hG111, hReg113, hI112⟩ := hR
                  have hH : Has [(48, Value.bool (decide (y87 = y93))), (49, Value.slice A51 y50.length c52), (50, Value.slice A66 y65.length c67)] r := ⟨hReg113.get 8 rfl (hpre 8 rfl), hReg113.get 9 rfl (hpre 9 rfl), hReg113.get 10 rfl (hpre 10 rfl), trivial⟩
                  obtain ⟨r0, rfl⟩ := hH.ex
                  refine q_cv (vs := [Value.slice A51 y50.length c52, Value.slice A66 y65.length c67]) bo14 rfl rfl (formeref08_Same_spec (a1 := y50) (a6 := y65) hI112 hl53 (Dat.mono (Gh.le_trans hG62 hG111) hD54) hl68 (Dat.mono hG111 hD69) hy95) ?_ (hw := guard_yes rfl rfl rfl (bool_yes h94))
                  rintro _ wd98 ⟨G96, hG97, hI99, rfl⟩
                  refine ⟨_, rfl, ?_⟩
                  refine wpq_nil ?_
                  exact ⟨rfl, ⟨_, (Gh.le_trans hG111 hG97), (Regs.step hReg113 hDi rfl rfl rfl rfl), hI99⟩⟩
                · intro D r wd114 hR hDi hpre hpost
                  obtain ⟨G110, hG111, hReg113, hI112⟩ := hR
                  have hH : Has [(48, Value.bool (decide (y87 = y93))), (51, Value.bool y100)] r := ⟨hReg113.get 8 rfl (hpre 8 rfl), hReg113.get 11 rfl (hpre 11 rfl), trivial⟩
                  obtain ⟨r0, rfl⟩ := hH.ex
                  refine q_pick true (v := Value.bool y100) (bool_yes h94) rfl ?_
                  refine wpq_nil ?_
                  exact ⟨rfl, ⟨_, hG111, (Regs.step hReg113 hDi rfl rfl rfl rfl), hI112⟩⟩
                · intro D r wd114 hR hDi hpre hpost
                  obtain ⟨G110, hG111, hReg113, hI112⟩ := hR
                  have hH : Has [(52, Value.bool y100)] r := ⟨hReg113.get 12 rfl (hpre 12 rfl), trivial⟩
                  obtain ⟨r0, rfl⟩ := hH.ex
                  refine q_mv (v := Value.bool y100) rfl ?_
                  refine wpq_nil ?_
                  exact ⟨rfl, ⟨_, hG111, (Regs.step hReg113 hDi rfl rfl rfl rfl), hI112⟩⟩
                · intro D r wd114 hR hDi hpre hpost
                  obtain ⟨G110, hG111, hReg113, hI112⟩ := hR
                  have hH : Has [(53, Value.bool y100)] r := ⟨hReg113.get 13 rfl (hpre 13 rfl), trivial⟩
                  obtain ⟨r0, rfl⟩ := hH.ex
                  refine wpq_no (guard_no rfl rfl rfl (bval_no h101) rfl) ?_
                  refine wpq_nil ?_
                  exact ⟨rfl, ⟨_, hG111, (Regs.step hReg113 hDi rfl rfl rfl rfl), hI112⟩⟩
                · intro D r wd114 hR hDi hpre hpost
                  obtain ⟨G110, hG111, hReg113, hI112⟩ := hR
                  have hH : Has [(53, Value.bool y100)] r := ⟨hReg113.get 13 rfl (hpre 13 rfl), trivial⟩
                  obtain ⟨r0, rfl⟩ := hH.ex
                  refine wpq_no (guard_no rfl rfl rfl (bval_no h101) rfl) ?_
                  refine wpq_nil ?_
                  exact ⟨rfl, ⟨_, hG111, (Regs.step hReg113 hDi rfl rfl rfl rfl), hI112⟩⟩
                · intro D r wd114 hR hDi hpre hpost
                  obtain ⟨G110, hG111, hReg113, hI112⟩ := hR
                  have hH : Has [(53, Value.bool y100)] r := ⟨hReg113.get 13 rfl (hpre 13 rfl), trivial⟩
                  obtain ⟨r0, rfl⟩ := hH.ex
                  refine wpq_no (guard_no rfl rfl rfl (bval_no h101) rfl) ?_
                  refine wpq_nil ?_
                  exact ⟨rfl, ⟨_, hG111, (Regs.step hReg113 hDi rfl rfl rfl rfl), hI112⟩⟩
                · intro D r wd114 hR hDi hpre hpost
                  obtain ⟨G110, hG111, hReg113, hI112⟩ := hR
                  have hH : Has [(53, Value.bool y100), (56, undef)] r := ⟨hReg113.get 13 rfl (hpre 13 rfl), hReg113.get 16 rfl (hpre 16 rfl), trivial⟩
                  obtain ⟨r0, rfl⟩ := hH.ex
                  refine q_pick false (v := Value.bool false) (bval_no h101) rfl ?_
                  refine wpq_nil ?_
                  exact ⟨rfl, ⟨_, hG111, (Regs.step hReg113 hDi rfl rfl rfl rfl), hI112⟩⟩
                · intro D r wd114 hR hDi hpre hpost
                  obtain ⟨G110, hG111, hReg113, hI112⟩ := hR
                  have hH : Has [(57, Value.bool false)] r := ⟨hReg113.get 17 rfl (hpre 17 rfl), trivial⟩
                  obtain ⟨r0, rfl⟩ := hH.ex
                  refine q_as (v := Value.bool false) rfl ?_
                  refine wpq_nil ?_
                  exact ⟨rfl, ⟨_, hG111, (Regs.step hReg113 hDi rfl rfl rfl rfl), hI112⟩⟩
              · intro D r wd114 hall hR
                obtain ⟨G110, hG111, hReg113, hI112⟩ := hR
                have hH : Has [(1, Value.string a6), (2, Value.pointer (some ⟨g10, 0, none⟩)), (5, Value.bool false)] r := ⟨hReg113.ins.get 0 rfl, hReg113.ins.get 1 rfl, hReg113.get 18 rfl (hall 18 (Nat.le_of_ble_eq_true rfl)), trivial⟩
                obtain ⟨r0, rfl⟩ := hH.ex
                have hI115 := Hp.front hI112 1 rfl
                have hI116 := Hp.front hI115 1 rfl
                have hI117 := Hp.front hI116 2 rfl
                cases H
                exact ⟨rfl, _, rfl, hG111, ⟨rfl, rfl, rfl, trivial⟩, hI117, trivial⟩
          · replace H := ite_no h94 H
            refine wpc_drawL [0, 1, 3, 7, 3, 31, 63, 127, 255, 511, 511, 2047, 4095, 8191, 16383, 16383, 65535, 131071, 262143] (fun D r w => (∃ (G' : Gh), G61 ≤ G' ∧ Regs [(1, Value.string a6), (2, Value.pointer (some ⟨g10, 0, none⟩))] [(5, Value.bool y20, 18)] [(0, 40, Value.bool y20), (1, 41, Value.bool y20), (2, 42, Value.agg [Value.int .i64 a1.Before, Value.int .i64 a1.Behind, Value.slice A2 a1.Keep.length c3].toArray), (3, 43, Value.bool y87), (4, 44, Value.agg [Value.int .i64 a1.Before, Value.int .i64 a1.Behind, Value.slice A2 a1.Keep.length c3].toArray), (5, 45, Value.bool y93), (6, 46, Value.bool (decide (y87 = y93))), (7, 47, Value.bool (decide (y87 = y93))), (8, 48, Value.bool (decide (y87 = y93))), (9, 49, undef), (10, 50, undef), (11, 51, undef), (12, 52, Value.bool false), (13, 53, Value.bool false), (14, 54, undef), (15, 55, undef), (16, 56, undef), (17, 57, Value.bool false), (18, 5, Value.bool false)] D r ∧ Hp G' (tk (Value.slice A66 y65.length c67) 2 37 :: tk (Value.slice A51 y50.length c52) 2 37 :: bx g10 [Value.int .i64 a1.Before, Value.int .i64 a1.Behind, Value.slice A2 a1.Keep.length c3] 24 :: L) w)) mixo rfl rfl ?_ ?_ ?_
            · exact ⟨_, Gh.le_refl _, Regs.start ⟨rfl, rfl, trivial⟩ ⟨rfl, trivial⟩, hI64.drew⟩
            · refine ⟨?_, ?_, ?_, ?_, ?_, ?_, ?_, ?_, ?_, ?_, ?_, ?_, ?_, ?_, ?_, ?_, ?_, ?_, ?_, trivial⟩
              · intro D r wd122 hR hDi hpre hpost
                obtain ⟨G118, hG119, hReg121, hI120⟩ := hR
                have hH : Has [(5, Value.bool y20)] r := ⟨hReg121.get2 0 rfl (hpost 18 rfl), trivial⟩
                obtain ⟨r0, rfl⟩ := hH.ex
                refine q_mv (v := Value.bool y20) rfl ?_
                refine wpq_nil ?_
                exact ⟨rfl, ⟨_, hG119, (Regs.step hReg121 hDi rfl rfl rfl rfl), hI120⟩⟩
              · intro D r wd122 hR hDi hpre hpost
                obtain ⟨G118, hG119, hReg121, hI120⟩ := hR
                have hH : Has [(40, Value.bool y20)] r := ⟨hReg121.get 0 rfl (hpre 0 rfl), trivial⟩
                obtain ⟨r0, rfl⟩ := hH.ex
                refine q_mv (v := Value.bool y20) rfl ?_
                refine wpq_nil ?_
                exact ⟨rfl, ⟨_, hG119, (Regs.step hReg121 hDi rfl rfl rfl rfl), hI120⟩⟩
              · intro D r wd122 hR hDi hpre hpost
                obtain ⟨G118, hG119, hReg121, hI120⟩ := hR
                have hH : Has [(2, Value.pointer (some ⟨g10, 0, none⟩)), (41, Value.bool y20)] r := ⟨hReg121.ins.get 1 rfl, hReg121.get 1 rfl (hpre 1 rfl), trivial⟩
                obtain ⟨r0, rfl⟩ := hH.ex
                refine q_ldA hI120 2 (cs := [Value.int .i64 a1.Before, Value.int .i64 a1.Behind, Value.slice A2 a1.Keep.length c3]) ag24 rfl rfl rfl rfl ?_ (hw := guard_yes rfl rfl rfl (bval_yes h81))
                refine wpq_nil ?_
                exact ⟨rfl, ⟨_, hG119, (Regs.step hReg121 hDi rfl rfl rfl rfl), hI120⟩⟩
              · intro D r wd122 hR hDi hpre hpost
                obtain ⟨G118, hG119, hReg121, hI120⟩ := hR
                have hH : Has [(41, Value.bool y20), (42, Value.agg [Value.int .i64 a1.Before, Value.int .i64 a1.Behind, Value.slice A2 a1.Keep.length c3].toArray)] r := ⟨hReg121.get 1 rfl (hpre 1 rfl), hReg121.get 2 rfl (hpre 2 rfl), trivial⟩
                obtain ⟨r0, rfl⟩ := hH.ex
                refine q_cv (vs := [Value.agg [Value.int .i64 a1.Before, Value.int .i64 a1.Behind, Value.slice A2 a1.Keep.length c3].toArray]) bo12 rfl rfl (breaks_Valid_spec (a1 := a1) hI120 hl4 (Dat.mono (Gh.le_trans (Gh.le_trans (Gh.le_trans (Gh.le_trans hG17 hG27) hG47) hG62) hG119) hD5) hy82) ?_ (hw := guard_yes rfl rfl rfl (bval_yes h81))
                rintro _ wd85 ⟨G83, hG84, hI86, rfl⟩
                refine ⟨_, rfl, ?_⟩
                refine wpq_nil ?_
                exact ⟨rfl, ⟨_, (Gh.le_trans hG119 hG84), (Regs.step hReg121 hDi rfl rfl rfl rfl), hI86⟩⟩
              · intro D r wd122 hR hDi hpre hpost
                obtain ⟨G118, hG119, hReg121, hI120⟩ := hR
                have hH : Has [(2, Value.pointer (some ⟨g10, 0, none⟩)), (41, Value.bool y20)] r := ⟨hReg121.ins.get 1 rfl, hReg121.get 1 rfl (hpre 1 rfl), trivial⟩
                obtain ⟨r0, rfl⟩ := hH.ex
                refine q_ldA hI120 2 (cs := [Value.int .i64 a1.Before, Value.int .i64 a1.Behind, Value.slice A2 a1.Keep.length c3]) ag24 rfl rfl rfl rfl ?_ (hw := guard_yes rfl rfl rfl (bval_yes h81))
                refine wpq_nil ?_
                exact ⟨rfl, ⟨_, hG119, (Regs.step hReg121 hDi rfl rfl rfl rfl), hI120⟩⟩
              · intro D r wd122 hR hDi hpre hpost
                obtain ⟨G118, hG119, hReg121, hI120⟩ := hR
                have hH : Has [(41, Value.bool y20), (44, Value.agg [Value.int .i64 a1.Before, Value.int .i64 a1.Behind, Value.slice A2 a1.Keep.length c3].toArray)] r := ⟨hReg121.get 1 rfl (hpre 1 rfl), hReg121.get 4 rfl (hpre 4 rfl), trivial⟩
                obtain ⟨r0, rfl⟩ := hH.ex
                refine q_cv (vs := [Value.agg [Value.int .i64 a1.Before, Value.int .i64 a1.Behind, Value.slice A2 a1.Keep.length c3].toArray]) bo13 rfl rfl (formeref08_Valid_spec (a1 := a1) hI120 hl4 (Dat.mono (Gh.le_trans (Gh.le_trans (Gh.le_trans (Gh.le_trans hG17 hG27) hG47) hG62) hG119) hD5) hy88) ?_ (hw := guard_yes rfl rfl rfl (bval_yes h81))
                rintro _ wd91 ⟨G89, hG90, hI92, rfl⟩
                refine ⟨_, rfl, ?_⟩
                refine wpq_nil ?_
                exact ⟨rfl, ⟨_, (Gh.le_trans hG119 hG90), (Regs.step hReg121 hDi rfl rfl rfl rfl), hI92⟩⟩
              · intro D r wd122 hR hDi hpre hpost
                obtain ⟨G118, hG119, hReg121, hI120⟩ := hR
                have hH : Has [(41, Value.bool y20), (43, Value.bool y87), (45, Value.bool y93)] r := ⟨hReg121.get 1 rfl (hpre 1 rfl), hReg121.get 3 rfl (hpre 3 rfl), hReg121.get 5 rfl (hpre 5 rfl), trivial⟩
                obtain ⟨r0, rfl⟩ := hH.ex
                refine q_bool_eql rfl rfl so4 ?_ (hw := guard_yes rfl rfl rfl (bval_yes h81))
                refine wpq_nil ?_
                exact ⟨rfl, ⟨_, hG119, (Regs.step hReg121 hDi rfl rfl rfl rfl), hI120⟩⟩
              · intro D r wd122 hR hDi hpre hpost
                obtain ⟨G118, hG119, hReg121, hI120⟩ := hR
                have hH : Has [(41, Value.bool y20), (46, Value.bool (decide (y87 = y93)))] r := ⟨hReg121.get 1 rfl (hpre 1 rfl), hReg121.get 6 rfl (hpre 6 rfl), trivial⟩
                obtain ⟨r0, rfl⟩ := hH.ex
                refine q_pick true (v := Value.bool (decide (y87 = y93))) (bval_yes h81) rfl ?_
                refine wpq_nil ?_
                exact ⟨rfl, ⟨_, hG119, (Regs.step hReg121 hDi rfl rfl rfl rfl), hI120⟩⟩
              · intro D r wd122 hR hDi hpre hpost
                obtain ⟨G118, hG119, hReg121, hI120⟩ := hR
                have hH : Has [(47, Value.bool (decide (y87 = y93)))] r := ⟨hReg121.get 7 rfl (hpre 7 rfl), trivial⟩
                obtain ⟨r0, rfl⟩ := hH.ex
                refine q_mv (v := Value.bool (decide (y87 = y93))) rfl ?_
                refine wpq_nil ?_
                exact ⟨rfl, ⟨_, hG119, (Regs.step hReg121 hDi rfl rfl rfl rfl), hI120⟩⟩
              · intro D r wd122 hR hDi hpre hpost
                obtain ⟨G118, hG119, hReg121, hI120⟩ := hR
                have hH : Has [(48, Value.bool (decide (y87 = y93)))] r := ⟨hReg121.get 8 rfl (hpre 8 rfl), trivial⟩
                obtain ⟨r0, rfl⟩ := hH.ex
                refine wpq_no (guard_no rfl rfl rfl (bool_no h94) rfl) ?_
                refine wpq_nil ?_
                exact ⟨rfl, ⟨_, hG119, (Regs.step hReg121 hDi rfl rfl rfl rfl), hI120⟩⟩
              · intro D r wd122 hR hDi hpre hpost
                obtain ⟨G118, hG119, hReg121, hI120⟩ := hR
                have hH : Has [(48, Value.bool (decide (y87 = y93)))] r := ⟨hReg121.get 8 rfl (hpre 8 rfl), trivial⟩
                obtain ⟨r0, rfl⟩ := hH.ex
                refine wpq_no (guard_no rfl rfl rfl (bool_no h94) rfl) ?_
                refine wpq_nil ?_
                exact ⟨rfl, ⟨_, hG119, (Regs.step hReg121 hDi rfl rfl rfl rfl), hI120⟩⟩
              · intro D r wd122 hR hDi hpre hpost
                obtain ⟨G118, hG119, hReg121, hI120⟩ := hR
                have hH : Has [(48, Value.bool (decide (y87 = y93)))] r := ⟨hReg121.get 8 rfl (hpre 8 rfl), trivial⟩
                obtain ⟨r0, rfl⟩ := hH.ex
                refine wpq_no (guard_no rfl rfl rfl (bool_no h94) rfl) ?_
                refine wpq_nil ?_
                exact ⟨rfl, ⟨_, hG119, (Regs.step hReg121 hDi rfl rfl rfl rfl), hI120⟩⟩
              · intro D r wd122 hR hDi hpre hpost
                obtain ⟨G118, hG119, hReg121, hI120⟩ := hR
                have hH : Has [(48, Value.bool (decide (y87 = y93))), (51, undef)] r := ⟨hReg121.get 8 rfl (hpre 8 rfl), hReg121.get 11 rfl (hpre 11 rfl), trivial⟩
                obtain ⟨r0, rfl⟩ := hH.ex
                refine q_pick false (v := Value.bool false) (bool_no h94) rfl ?_
                refine wpq_nil ?_
                exact ⟨rfl, ⟨_, hG119, (Regs.step hReg121 hDi rfl rfl rfl rfl), hI120⟩⟩
              · intro D r wd122 hR hDi hpre hpost
                obtain ⟨G118, hG119, hReg121, hI120⟩ := hR
                have hH : Has [(52, Value.bool false)] r := ⟨hReg121.get 12 rfl (hpre 12 rfl), trivial⟩
                obtain ⟨r0, rfl⟩ := hH.ex
                refine q_mv (v := Value.bool false) rfl ?_
                refine wpq_nil ?_
                exact ⟨rfl, ⟨_, hG119, (Regs.step hReg121 hDi rfl rfl rfl rfl), hI120⟩⟩
              · intro D r wd122 hR hDi hpre hpost
                obtain ⟨G118, hG119, hReg121, hI120⟩ := hR
                have hH : Has [(53, Value.bool false)] r := ⟨hReg121.get 13 rfl (hpre 13 rfl), trivial⟩
                obtain ⟨r0, rfl⟩ := hH.ex
                refine wpq_no (guard_no rfl rfl rfl rfl rfl) ?_
                refine wpq_nil ?_
                exact ⟨rfl, ⟨_, hG119, (Regs.step hReg121 hDi rfl rfl rfl rfl), hI120⟩⟩
              · intro D r wd122 hR hDi hpre hpost
                obtain ⟨G118, hG119, hReg121, hI120⟩ := hR
                have hH : Has [(53, Value.bool false)] r := ⟨hReg121.get 13 rfl (hpre 13 rfl), trivial⟩
                obtain ⟨r0, rfl⟩ := hH.ex
                refine wpq_no (guard_no rfl rfl rfl rfl rfl) ?_
                refine wpq_nil ?_
                exact ⟨rfl, ⟨_, hG119, (Regs.step hReg121 hDi rfl rfl rfl rfl), hI120⟩⟩
              · intro D r wd122 hR hDi hpre hpost
                obtain ⟨G118, hG119, hReg121, hI120⟩ := hR
                have hH : Has [(53, Value.bool false)] r := ⟨hReg121.get 13 rfl (hpre 13 rfl), trivial⟩
                obtain ⟨r0, rfl⟩ := hH.ex
                refine wpq_no (guard_no rfl rfl rfl rfl rfl) ?_
                refine wpq_nil ?_
                exact ⟨rfl, ⟨_, hG119, (Regs.step hReg121 hDi rfl rfl rfl rfl), hI120⟩⟩
              · intro D r wd122 hR hDi hpre hpost
                obtain ⟨G118, hG119, hReg121, hI120⟩ := hR
                have hH : Has [(53, Value.bool false), (56, undef)] r := ⟨hReg121.get 13 rfl (hpre 13 rfl), hReg121.get 16 rfl (hpre 16 rfl), trivial⟩
                obtain ⟨r0, rfl⟩ := hH.ex
                refine q_pick false (v := Value.bool false) rfl rfl ?_
                refine wpq_nil ?_
                exact ⟨rfl, ⟨_, hG119, (Regs.step hReg121 hDi rfl rfl rfl rfl), hI120⟩⟩
              · intro D r wd122 hR hDi hpre hpost
                obtain ⟨G118, hG119, hReg121, hI120⟩ := hR
                have hH : Has [(57, Value.bool false)] r := ⟨hReg121.get 17 rfl (hpre 17 rfl), trivial⟩
                obtain ⟨r0, rfl⟩ := hH.ex
                refine q_as (v := Value.bool false) rfl ?_
                refine wpq_nil ?_
                exact ⟨rfl, ⟨_, hG119, (Regs.step hReg121 hDi rfl rfl rfl rfl), hI120⟩⟩
            · intro D r wd122 hall hR
              obtain ⟨G118, hG119, hReg121, hI120⟩ := hR
              have hH : Has [(1, Value.string a6), (2, Value.pointer (some ⟨g10, 0, none⟩)), (5, Value.bool false)] r := ⟨hReg121.ins.get 0 rfl, hReg121.ins.get 1 rfl, hReg121.get 18 rfl (hall 18 (Nat.le_of_ble_eq_true rfl)), trivial⟩
              obtain ⟨r0, rfl⟩ := hH.ex
              have hI123 := Hp.front hI120 1 rfl
              have hI124 := Hp.front hI123 1 rfl
              have hI125 := Hp.front hI124 2 rfl
              cases H
              exact ⟨rfl, _, rfl, hG119, ⟨rfl, rfl, rfl, trivial⟩, hI125, trivial⟩
        · replace H := ite_no h81 H
          refine wpc_drawL [0, 1, 3, 7, 3, 31, 63, 127, 255, 511, 511, 2047, 4095, 8191, 16383, 16383, 65535, 131071, 262143] (fun D r w => (∃ (G' : Gh), G61 ≤ G' ∧ Regs [(1, Value.string a6), (2, Value.pointer (some ⟨g10, 0, none⟩))] [(5, Value.bool y20, 18)] [(0, 40, Value.bool y20), (1, 41, Value.bool y20), (2, 42, undef), (3, 43, undef), (4, 44, undef), (5, 45, undef), (6, 46, undef), (7, 47, Value.bool false), (8, 48, Value.bool false), (9, 49, undef), (10, 50, undef), (11, 51, undef), (12, 52, Value.bool false), (13, 53, Value.bool false), (14, 54, undef), (15, 55, undef), (16, 56, undef), (17, 57, Value.bool false), (18, 5, Value.bool false)] D r ∧ Hp G' (tk (Value.slice A66 y65.length c67) 2 37 :: tk (Value.slice A51 y50.length c52) 2 37 :: bx g10 [Value.int .i64 a1.Before, Value.int .i64 a1.Behind, Value.slice A2 a1.Keep.length c3] 24 :: L) w)) mixo rfl rfl ?_ ?_ ?_
          · exact ⟨_, Gh.le_refl _, Regs.start ⟨rfl, rfl, trivial⟩ ⟨rfl, trivial⟩, hI64.drew⟩
          · refine ⟨?_, ?_, ?_, ?_, ?_, ?_, ?_, ?_, ?_, ?_, ?_, ?_, ?_, ?_, ?_, ?_, ?_, ?_, ?_, trivial⟩
            · intro D r wd130 hR hDi hpre hpost
              obtain ⟨G126, hG127, hReg129, hI128⟩ := hR
              have hH : Has [(5, Value.bool y20)] r := ⟨hReg129.get2 0 rfl (hpost 18 rfl), trivial⟩
              obtain ⟨r0, rfl⟩ := hH.ex
              refine q_mv (v := Value.bool y20) rfl ?_
              refine wpq_nil ?_
              exact ⟨rfl, ⟨_, hG127, (Regs.step hReg129 hDi rfl rfl rfl rfl), hI128⟩⟩
            · intro D r wd130 hR hDi hpre hpost
              obtain ⟨G126, hG127, hReg129, hI128⟩ := hR
              have hH : Has [(40, Value.bool y20)] r := ⟨hReg129.get 0 rfl (hpre 0 rfl), trivial⟩
              obtain ⟨r0, rfl⟩ := hH.ex
              refine q_mv (v := Value.bool y20) rfl ?_
              refine wpq_nil ?_
              exact ⟨rfl, ⟨_, hG127, (Regs.step hReg129 hDi rfl rfl rfl rfl), hI128⟩⟩
            · intro D r wd130 hR hDi hpre hpost
              obtain ⟨G126, hG127, hReg129, hI128⟩ := hR
              have hH : Has [(41, Value.bool y20)] r := ⟨hReg129.get 1 rfl (hpre 1 rfl), trivial⟩
              obtain ⟨r0, rfl⟩ := hH.ex
              refine wpq_no (guard_no rfl rfl rfl (bval_no h81) rfl) ?_
              refine wpq_nil ?_
              exact ⟨rfl, ⟨_, hG127, (Regs.step hReg129 hDi rfl rfl rfl rfl), hI128⟩⟩
            · intro D r wd130 hR hDi hpre hpost
              obtain ⟨G126, hG127, hReg129, hI128⟩ := hR
              have hH : Has [(41, Value.bool y20)] r := ⟨hReg129.get 1 rfl (hpre 1 rfl), trivial⟩
              obtain ⟨r0, rfl⟩ := hH.ex
              refine wpq_no (guard_no rfl rfl rfl (bval_no h81) rfl) ?_
              refine wpq_nil ?_
              exact ⟨rfl, ⟨_, hG127, (Regs.step hReg129 hDi rfl rfl rfl rfl), hI128⟩⟩
            · intro D r wd130 hR hDi hpre hpost
              obtain ⟨G126, hG127, hReg129, hI128⟩ := hR
              have hH : Has [(41, Value.bool y20)] r := ⟨hReg129.get 1 rfl (hpre 1 rfl), trivial⟩
              obtain ⟨r0, rfl⟩ := hH.ex
              refine wpq_no (guard_no rfl rfl rfl (bval_no h81) rfl) ?_
              refine wpq_nil ?_
              exact ⟨rfl, ⟨_, hG127, (Regs.step hReg129 hDi rfl rfl rfl rfl), hI128⟩⟩
            · intro D r wd130 hR hDi hpre hpost
              obtain ⟨G126, hG127, hReg129, hI128⟩ := hR
              have hH : Has [(41, Value.bool y20)] r := ⟨hReg129.get 1 rfl (hpre 1 rfl), trivial⟩
              obtain ⟨r0, rfl⟩ := hH.ex
              refine wpq_no (guard_no rfl rfl rfl (bval_no h81) rfl) ?_
              refine wpq_nil ?_
              exact ⟨rfl, ⟨_, hG127, (Regs.step hReg129 hDi rfl rfl rfl rfl), hI128⟩⟩
            · intro D r wd130 hR hDi hpre hpost
              obtain ⟨G126, hG127, hReg129, hI128⟩ := hR
              have hH : Has [(41, Value.bool y20)] r := ⟨hReg129.get 1 rfl (hpre 1 rfl), trivial⟩
              obtain ⟨r0, rfl⟩ := hH.ex
              refine wpq_no (guard_no rfl rfl rfl (bval_no h81) rfl) ?_
              refine wpq_nil ?_
              exact ⟨rfl, ⟨_, hG127, (Regs.step hReg129 hDi rfl rfl rfl rfl), hI128⟩⟩
            · intro D r wd130 hR hDi hpre hpost
              obtain ⟨G126, hG127, hReg129, hI128⟩ := hR
              have hH : Has [(41, Value.bool y20), (46, undef)] r := ⟨hReg129.get 1 rfl (hpre 1 rfl), hReg129.get 6 rfl (hpre 6 rfl), trivial⟩
              obtain ⟨r0, rfl⟩ := hH.ex
              refine q_pick false (v := Value.bool false) (bval_no h81) rfl ?_
              refine wpq_nil ?_
              exact ⟨rfl, ⟨_, hG127, (Regs.step hReg129 hDi rfl rfl rfl rfl), hI128⟩⟩
            · intro D r wd130 hR hDi hpre hpost
              obtain ⟨G126, hG127, hReg129, hI128⟩ := hR
              have hH : Has [(47, Value.bool false)] r := ⟨hReg129.get 7 rfl (hpre 7 rfl), trivial⟩
              obtain ⟨r0, rfl⟩ := hH.ex
              refine q_mv (v := Value.bool false) rfl ?_
              refine wpq_nil ?_
              exact ⟨rfl, ⟨_, hG127, (Regs.step hReg129 hDi rfl rfl rfl rfl), hI128⟩⟩
            · intro D r wd130 hR hDi hpre hpost
              obtain ⟨G126, hG127, hReg129, hI128⟩ := hR
              have hH : Has [(48, Value.bool false)] r := ⟨hReg129.get 8 rfl (hpre 8 rfl), trivial⟩
              obtain ⟨r0, rfl⟩ := hH.ex
              refine wpq_no (guard_no rfl rfl rfl rfl rfl) ?_
              refine wpq_nil ?_
              exact ⟨rfl, ⟨_, hG127, (Regs.step hReg129 hDi rfl rfl rfl rfl), hI128⟩⟩
            · intro D r wd130 hR hDi hpre hpost
              obtain ⟨G126, hG127, hReg129, hI128⟩ := hR
              have hH : Has [(48, Value.bool false)] r := ⟨hReg129.get 8 rfl (hpre 8 rfl), trivial⟩
              obtain ⟨r0, rfl⟩ := hH.ex
              refine wpq_no (guard_no rfl rfl rfl rfl rfl) ?_
              refine wpq_nil ?_
              exact ⟨rfl, ⟨_, hG127, (Regs.step hReg129 hDi rfl rfl rfl rfl), hI128⟩⟩
            · intro D r wd130 hR hDi hpre hpost
              obtain ⟨G126, hG127, hReg129, hI128⟩ := hR
              have hH : Has [(48, Value.bool false)] r := ⟨hReg129.get 8 rfl (hpre 8 rfl), trivial⟩
              obtain ⟨r0, rfl⟩ := hH.ex
              refine wpq_no (guard_no rfl rfl rfl rfl rfl) ?_
              refine wpq_nil ?_
              exact ⟨rfl, ⟨_, hG127, (Regs.step hReg129 hDi rfl rfl rfl rfl), hI128⟩⟩
            · intro D r wd130 hR hDi hpre hpost
              obtain ⟨G126, hG127, hReg129, hI128⟩ := hR
              have hH : Has [(48, Value.bool false), (51, undef)] r := ⟨hReg129.get 8 rfl (hpre 8 rfl), hReg129.get 11 rfl (hpre 11 rfl), trivial⟩
              obtain ⟨r0, rfl⟩ := hH.ex
              refine q_pick false (v := Value.bool false) rfl rfl ?_
              refine wpq_nil ?_
              exact ⟨rfl, ⟨_, hG127, (Regs.step hReg129 hDi rfl rfl rfl rfl), hI128⟩⟩
            · intro D r wd130 hR hDi hpre hpost
              obtain ⟨G126, hG127, hReg129, hI128⟩ := hR
              have hH : Has [(52, Value.bool false)] r := ⟨hReg129.get 12 rfl (hpre 12 rfl), trivial⟩
              obtain ⟨r0, rfl⟩ := hH.ex
              refine q_mv (v := Value.bool false) rfl ?_
              refine wpq_nil ?_
              exact ⟨rfl, ⟨_, hG127, (Regs.step hReg129 hDi rfl rfl rfl rfl), hI128⟩⟩
            · intro D r wd130 hR hDi hpre hpost
              obtain ⟨G126, hG127, hReg129, hI128⟩ := hR
              have hH : Has [(53, Value.bool false)] r := ⟨hReg129.get 13 rfl (hpre 13 rfl), trivial⟩
              obtain ⟨r0, rfl⟩ := hH.ex
              refine wpq_no (guard_no rfl rfl rfl rfl rfl) ?_
              refine wpq_nil ?_
              exact ⟨rfl, ⟨_, hG127, (Regs.step hReg129 hDi rfl rfl rfl rfl), hI128⟩⟩
            · intro D r wd130 hR hDi hpre hpost
              obtain ⟨G126, hG127, hReg129, hI128⟩ := hR
              have hH : Has [(53, Value.bool false)] r := ⟨hReg129.get 13 rfl (hpre 13 rfl), trivial⟩
              obtain ⟨r0, rfl⟩ := hH.ex
              refine wpq_no (guard_no rfl rfl rfl rfl rfl) ?_
              refine wpq_nil ?_
              exact ⟨rfl, ⟨_, hG127, (Regs.step hReg129 hDi rfl rfl rfl rfl), hI128⟩⟩
            · intro D r wd130 hR hDi hpre hpost
              obtain ⟨G126, hG127, hReg129, hI128⟩ := hR
              have hH : Has [(53, Value.bool false)] r := ⟨hReg129.get 13 rfl (hpre 13 rfl), trivial⟩
              obtain ⟨r0, rfl⟩ := hH.ex
              refine wpq_no (guard_no rfl rfl rfl rfl rfl) ?_
              refine wpq_nil ?_
              exact ⟨rfl, ⟨_, hG127, (Regs.step hReg129 hDi rfl rfl rfl rfl), hI128⟩⟩
            · intro D r wd130 hR hDi hpre hpost
              obtain ⟨G126, hG127, hReg129, hI128⟩ := hR
              have hH : Has [(53, Value.bool false), (56, undef)] r := ⟨hReg129.get 13 rfl (hpre 13 rfl), hReg129.get 16 rfl (hpre 16 rfl), trivial⟩
              obtain ⟨r0, rfl⟩ := hH.ex
              refine q_pick false (v := Value.bool false) rfl rfl ?_
              refine wpq_nil ?_
              exact ⟨rfl, ⟨_, hG127, (Regs.step hReg129 hDi rfl rfl rfl rfl), hI128⟩⟩
            · intro D r wd130 hR hDi hpre hpost
              obtain ⟨G126, hG127, hReg129, hI128⟩ := hR
              have hH : Has [(57, Value.bool false)] r := ⟨hReg129.get 17 rfl (hpre 17 rfl), trivial⟩
              obtain ⟨r0, rfl⟩ := hH.ex
              refine q_as (v := Value.bool false) rfl ?_
              refine wpq_nil ?_
              exact ⟨rfl, ⟨_, hG127, (Regs.step hReg129 hDi rfl rfl rfl rfl), hI128⟩⟩
          · intro D r wd130 hall hR
            obtain ⟨G126, hG127, hReg129, hI128⟩ := hR
            have hH : Has [(1, Value.string a6), (2, Value.pointer (some ⟨g10, 0, none⟩)), (5, Value.bool false)] r := ⟨hReg129.ins.get 0 rfl, hReg129.ins.get 1 rfl, hReg129.get 18 rfl (hall 18 (Nat.le_of_ble_eq_true rfl)), trivial⟩
            obtain ⟨r0, rfl⟩ := hH.ex
            have hI131 := Hp.front hI128 1 rfl
            have hI132 := Hp.front hI131 1 rfl
            have hI133 := Hp.front hI132 2 rfl
            cases H
            exact ⟨rfl, _, rfl, hG127, ⟨rfl, rfl, rfl, trivial⟩, hI133, trivial⟩
      · clear hC
        rintro e r ds wd78 ⟨rfl, G76, rfl, hG77, hHas, hI79, _⟩
        rw [hHas.eq]; clear hHas
        refine hK74 _ _ _ ?_
        refine wpc_seq_k fun K134 hK135 => ?_
        refine wpc_region ?_
        refine q_ldA hI79 0 (cs := [Value.int .i64 a1.Before, Value.int .i64 a1.Behind, Value.slice A2 a1.Keep.length c3]) ag24 rfl rfl rfl rfl ?_
        refine q_mv (v := Value.string a6) rfl ?_
        obtain ⟨⟨y141, y148⟩, hy136, H⟩ := bind_some H
        refine q_cv (vs := [Value.agg [Value.int .i64 a1.Before, Value.int .i64 a1.Behind, Value.slice A2 a1.Keep.length c3].toArray, Value.string a6]) bo15 rfl rfl (breaks_Least_spec (a1 := a1) (a6 := a6) hI79 hl4 (Dat.mono (Gh.le_trans (Gh.le_trans (Gh.le_trans (Gh.le_trans hG17 hG27) hG47) hG62) hG77) hD5) (hgl.mono (Gh.le_trans (Gh.le_trans (Gh.le_trans (Gh.le_trans hG17 hG27) hG47) hG62) hG77)) hy136) ?_
        rintro _ wd139 ⟨A142, c143, G137, hG138, hI140, hl144, hD145, ho146, rfl⟩
        refine ⟨_, rfl, ?_⟩
        refine q_mv (v := Value.tuple [Value.slice A142 y141.length c143, Value.int .i64 y148].toArray) rfl ?_
        refine q_ex (v := Value.slice A142 y141.length c143) rfl rfl ?_
        refine q_ex (v := Value.int .i64 y148) rfl rfl ?_
        refine q_as (v := Value.slice A142 y141.length c143) rfl ?_
        refine q_as (v := Value.int .i64 y148) rfl ?_
        refine wpq_nil ?_
        refine hK135 _ _ _ ?_
        refine wpc_seq_k fun K149 hK150 => ?_
        refine wpc_region ?_
        refine q_ldA hI140 1 (cs := [Value.int .i64 a1.Before, Value.int .i64 a1.Behind, Value.slice A2 a1.Keep.length c3]) ag24 rfl rfl rfl rfl ?_
        refine q_mv (v := Value.string a6) rfl ?_
        obtain ⟨⟨y156, y163⟩, hy151, H⟩ := bind_some H
        refine q_cv (vs := [Value.agg [Value.int .i64 a1.Before, Value.int .i64 a1.Behind, Value.slice A2 a1.Keep.length c3].toArray, Value.string a6]) bo16 rfl rfl (formeref08_Least_spec (a1 := a1) (a6 := a6) hI140 hl4 (Dat.mono (Gh.le_trans (Gh.le_trans (Gh.le_trans (Gh.le_trans (Gh.le_trans hG17 hG27) hG47) hG62) hG77) hG138) hD5) hy151) ?_
        rintro _ wd154 ⟨A157, c158, G152, hG153, hI155, hl159, hD160, ho161, rfl⟩
        refine ⟨_, rfl, ?_⟩
        refine q_mv (v := Value.tuple [Value.slice A157 y156.length c158, Value.int .i64 y163].toArray) rfl ?_
        refine q_ex (v := Value.slice A157 y156.length c158) rfl rfl ?_
        refine q_ex (v := Value.int .i64 y163) rfl rfl ?_
        refine q_as (v := Value.slice A157 y156.length c158) rfl ?_
        refine q_as (v := Value.int .i64 y163) rfl ?_
        refine wpq_nil ?_
        refine hK150 _ _ _ ?_
        refine wpc_seq_k fun K164 hK165 => ?_
        refine wpc_region ?_
        refine q_mv (v := Value.bool v75) rfl ?_
        refine q_mv (v := Value.bool v75) rfl ?_
        obtain ⟨v166, hC, H⟩ := bind_some H
        refine wpq_split 4 (K := fun e r ds w => e = .normal ∧ ∃ (G167 : Gh), ds = [] ∧ G152 ≤ G167 ∧ Has [(7, Value.int .i64 y148), (9, Value.int .i64 y163), (75, Value.bool v166)] r ∧ Hp G167 (bx g10 [Value.int .i64 a1.Before, Value.int .i64 a1.Behind, Value.slice A2 a1.Keep.length c3] 24 :: tk (Value.slice A157 y156.length c158) 1 9 :: tk (Value.slice A142 y141.length c143) 1 9 :: tk (Value.slice A66 y65.length c67) 2 37 :: tk (Value.slice A51 y50.length c52) 2 37 :: L) w ∧ True) ?_ ?_
        · replace H := hC
          by_cases h172 : v75 = true
          · replace H := ite_yes h172 H
            refine q_mv (v := Value.slice A142 y141.length c143) rfl ?_ (hw := guard_yes rfl rfl rfl (bval_yes h172))
            refine q_mv (v := Value.slice A157 y156.length c158) rfl ?_ (hw := guard_yes rfl rfl rfl (bval_yes h172))
            obtain ⟨y178, hy173, H⟩ := bind_some H
            refine q_cv (vs := [Value.slice A142 y141.length c143, Value.slice A157 y156.length c158]) bo17 rfl rfl (formeref08_SameTexts_spec (a1 := y141) (a6 := y156) hI155 hl144 (Dat.mono hG153 hD145) hl159 hD160 hy173) ?_ (hw := guard_yes rfl rfl rfl (bval_yes h172))
            rintro _ wd176 ⟨G174, hG175, hI177, rfl⟩
            refine ⟨_, rfl, ?_⟩
            refine q_pick true (v := Value.bool y178) (bval_yes h172) rfl ?_
            refine wpq_nil ?_
            have hI179 := Hp.front hI177 4 rfl
            have hI180 := Hp.front hI179 4 rfl
            have hI181 := Hp.front hI180 3 rfl
            have hI182 := Hp.front hI181 3 rfl
            have hI183 := Hp.front hI182 4 rfl
            cases H
            exact ⟨rfl, _, rfl, hG175, ⟨rfl, rfl, rfl, trivial⟩, hI183, trivial⟩
          · replace H := ite_no h172 H
            refine wpq_no (guard_no rfl rfl rfl (bval_no h172) rfl) ?_
            refine wpq_no (guard_no rfl rfl rfl (bval_no h172) rfl) ?_
            refine wpq_no (guard_no rfl rfl rfl (bval_no h172) rfl) ?_
            refine q_pick false (v := Value.bool false) (bval_no h172) rfl ?_
            refine wpq_nil ?_
            have hI184 := Hp.front hI155 4 rfl
            have hI185 := Hp.front hI184 4 rfl
            have hI186 := Hp.front hI185 3 rfl
            have hI187 := Hp.front hI186 3 rfl
            have hI188 := Hp.front hI187 4 rfl
            cases H
            exact ⟨rfl, _, rfl, (Gh.le_refl _), ⟨rfl, rfl, rfl, trivial⟩, hI188, trivial⟩
        · clear hC
          rintro e r ds wd169 ⟨rfl, G167, rfl, hG168, hHas, hI170, _⟩
          rw [hHas.eq]; clear hHas
          refine q_mv (v := Value.bool v166) rfl ?_
          obtain ⟨v189, hC, H⟩ := bind_some H
          refine wpq_split 4 (K := fun e r ds w => e = .normal ∧ ∃ (G190 : Gh), ds = [] ∧ G167 ≤ G190 ∧ Has [(80, Value.bool v189)] r ∧ Hp G190 (bx g10 [Value.int .i64 a1.Before, Value.int .i64 a1.Behind, Value.slice A2 a1.Keep.length c3] 24 :: tk (Value.slice A157 y156.length c158) 1 9 :: tk (Value.slice A142 y141.length c143) 1 9 :: tk (Value.slice A66 y65.length c67) 2 37 :: tk (Value.slice A51 y50.length c52) 2 37 :: L) w ∧ True) ?_ ?_
          · replace H := hC
            by_cases h195 : v166 = true
            · replace H := ite_yes h195 H
              refine q_mv (v := Value.int .i64 y148) rfl ?_ (hw := guard_yes rfl rfl rfl (bval_yes h195))
              refine q_mv (v := Value.int .i64 y163) rfl ?_ (hw := guard_yes rfl rfl rfl (bval_yes h195))
              refine q_eql rfl rfl ?_ (hw := guard_yes rfl rfl rfl (bval_yes h195))
              refine q_pick true (v := Value.bool (decide (y148 = y163))) (bval_yes h195) rfl ?_
              refine wpq_nil ?_
              cases H
              exact ⟨rfl, _, rfl, (Gh.le_refl _), ⟨rfl, trivial⟩, hI170, trivial⟩
            · replace H := ite_no h195 H
              refine wpq_no (guard_no rfl rfl rfl (bval_no h195) rfl) ?_
              refine wpq_no (guard_no rfl rfl rfl (bval_no h195) rfl) ?_
              refine wpq_no (guard_no rfl rfl rfl (bval_no h195) rfl) ?_
              refine q_pick false (v := Value.bool false) (bval_no h195) rfl ?_
              refine wpq_nil ?_
              cases H
              exact ⟨rfl, _, rfl, (Gh.le_refl _), ⟨rfl, trivial⟩, hI170, trivial⟩
          · clear hC
            rintro e r ds wd192 ⟨rfl, G190, rfl, hG191, hHas, hI193, _⟩
            rw [hHas.eq]; clear hHas
            refine q_as (v := Value.bool v189) rfl ?_
            refine wpq_nil ?_
            refine hK165 _ _ _ ?_
            refine wpc_ret ?_
            have hI196 := Hp.sub (L := bx g10 [Value.int .i64 a1.Before, Value.int .i64 a1.Behind, Value.slice A2 a1.Keep.length c3] 24 :: tk (Value.slice A157 y156.length c158) 1 9 :: tk (Value.slice A142 y141.length c143) 1 9 :: tk (Value.slice A66 y65.length c67) 2 37 :: tk (Value.slice A51 y50.length c52) 2 37 :: L) (L' := L) hI193 (List.Sublist.cons _ (List.Sublist.cons _ (List.Sublist.cons _ (List.Sublist.cons _ (List.Sublist.cons _ (List.Sublist.refl _))))))
            cases H
            exact ⟨.inr rfl, rfl, _, ⟨_, _, rfl, rfl, rfl⟩, _, (Gh.le_trans (Gh.le_trans (Gh.le_trans (Gh.le_trans (Gh.le_trans (Gh.le_trans (Gh.le_trans (Gh.le_trans hG17 hG27) hG47) hG62) hG77) hG138) hG153) hG168) hG191), hI196, rfl⟩
end Go.Proofs.YtiahgcidgbalkaaDoor.LG
