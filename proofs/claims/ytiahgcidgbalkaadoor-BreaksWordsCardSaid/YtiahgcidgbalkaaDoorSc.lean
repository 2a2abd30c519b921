/-
  The walks: each function computes its plain function: printed by a program out of the translation.
-/
import Derived.Test.YtiahgcidgbalkaaDoorSb
set_option linter.unusedVariables false
set_option linter.unusedSimpArgs false
set_option maxRecDepth 100000
namespace Go.Proofs.YtiahgcidgbalkaaDoor.LG
open Go Go.LG Go.RowKit
open Go.Lib Go.Shelf Go.Proofs
set_option maxHeartbeats 1000000 in
theorem formeref08_place_spec {a1 : api_Breaks} {a6 : ByteArray} {a7 : Int} {A2 : Option Addr} {c3 : Nat} {r1159 : Bool} {r1160 : Bool} {G : Gh} {L : List Itm} {w : World} (hI : Hp G (L) w) (hl4 : a1.Keep.length ≤ c3) (hD5 : Dat Kd.str G A2 a1.Keep) (H : formeref08_place a1 a6 a7 = some (r1159, r1160)) :
    Calls Tryd.prog 23 [Value.agg [Value.int .i64 a1.Before, Value.int .i64 a1.Behind, Value.slice A2 a1.Keep.length c3].toArray, Value.string a6, Value.int .i64 a7].toArray w fun e w' => ∃ (G' : Gh), G ≤ G' ∧ Hp G' (L) w' ∧ e = .returned (Value.tuple [Value.bool r1159, Value.bool r1160].toArray) := by
  refine calls_intro (N := 93) Tryd.func23 rfl rfl (Nat.le_of_ble_eq_true rfl) ?_
  unfold formeref08_place at H
  refine wpc_seq_k fun K8 hK9 => ?_
  refine wpc_region ?_
  refine q_box hI (v := Value.agg [Value.int .i64 a1.Before, Value.int .i64 a1.Behind, Value.slice A2 a1.Keep.length c3].toArray) (vs := [Value.int .i64 a1.Before, Value.int .i64 a1.Behind, Value.slice A2 a1.Keep.length c3]) rfl rfl (fun g11 wd12 hI13 => ?_)
  refine q_as (v := Value.bool false) rfl ?_
  refine q_as (v := Value.bool false) rfl ?_
  refine wpq_nil ?_
  refine hK9 _ _ _ ?_
  refine wpc_seq_k fun K14 hK15 => ?_
  refine wpc_region ?_
  refine q_mv (v := Value.string a6) rfl ?_
  refine q_mv (v := Value.int .i64 a7) rfl ?_
  refine q_sub rfl rfl ?_
  obtain ⟨⟨h16, h16'⟩, H⟩ := ite_some H
  refine q_is so9 rfl rfl h16 h16' rfl ?_
  refine q_as (v := Value.int .u8 (bt a6 (w64 (a7 - 1)))) rfl ?_
  refine wpq_nil ?_
  refine hK15 _ _ _ ?_
  refine wpc_seq_k fun K17 hK18 => ?_
  refine wpc_seq_k fun K19 hK20 => ?_
  refine wpc_region ?_
  refine q_mv (v := Value.int .u8 (bt a6 (w64 (a7 - 1)))) rfl ?_
  refine q_eql rfl rfl ?_
  refine wpq_nil ?_
  refine hK20 _ _ _ ?_
  by_cases h21 : (bt a6 (w64 (a7 - 1))) = 32
  · replace H := ite_yes h21 H
    refine wpc_true (bool_yes h21) ?_
    refine wpc_seq_k fun K22 hK23 => ?_
    refine wpc_region ?_
    refine q_mv (v := Value.string a6) rfl ?_
    refine q_mv (v := Value.int .i64 a7) rfl ?_
    obtain ⟨y29, hy24, H⟩ := bind_some H
    refine q_cv (vs := [Value.string a6, Value.int .i64 a7]) bo36 rfl rfl (formeref08_some_spec (a1 := a6) (a2 := a7) hI13 hy24) ?_
    rintro _ wd27 ⟨G25, hG26, hI28, rfl⟩
    refine ⟨_, rfl, ?_⟩
    refine q_as (v := Value.bool y29) rfl ?_
    refine wpq_nil ?_
    refine hK23 _ _ _ ?_
    refine wpc_seq_k fun K30 hK31 => ?_
    refine wpc_region ?_
    refine q_mv (v := Value.string a6) rfl ?_
    refine q_mv (v := Value.int .i64 a7) rfl ?_
    obtain ⟨⟨h32, h32'⟩, H⟩ := ite_some H
    refine q_is so9 rfl rfl h32 h32' rfl ?_
    refine q_neq rfl rfl ?_
    refine q_mv (v := Value.bool (decide (¬ (bt a6 a7) = 32))) rfl ?_
    obtain ⟨v33, hC, H⟩ := bind_some H
    refine wpq_split 2 (K := fun e r ds w => e = .normal ∧ ∃ (G34 : Gh), ds = [] ∧ G25 ≤ G34 ∧ Has [(33, Value.bool v33)] r ∧ Hp G34 (bx g11 [Value.int .i64 a1.Before, Value.int .i64 a1.Behind, Value.slice A2 a1.Keep.length c3] 24 :: L) w ∧ True) ?_ ?_
    · replace H := hC
      by_cases h39 : ¬ (bt a6 a7) = 32
      · replace H := ite_yes h39 H
        refine q_mv (v := Value.bool y29) rfl ?_ (hw := guard_yes rfl rfl rfl (bool_yes h39))
        refine q_pick true (v := Value.bool y29) (bool_yes h39) rfl ?_
        refine wpq_nil ?_
        cases H
        exact ⟨rfl, _, rfl, (Gh.le_refl _), ⟨rfl, trivial⟩, hI28, trivial⟩
      · replace H := ite_no h39 H
        refine wpq_no (guard_no rfl rfl rfl (bool_no h39) rfl) ?_
        refine q_pick false (v := Value.bool false) (bool_no h39) rfl ?_
        refine wpq_nil ?_
        cases H
        exact ⟨rfl, _, rfl, (Gh.le_refl _), ⟨rfl, trivial⟩, hI28, trivial⟩
    · clear hC
      rintro e r ds wd36 ⟨rfl, G34, rfl, hG35, hHas, hI37, _⟩
      rw [hHas.eq]; clear hHas
      refine q_as (v := Value.bool v33) rfl ?_
      refine q_as (v := Value.bool false) rfl ?_
      refine wpq_nil ?_
      refine hK31 _ _ _ ?_
      refine wpc_ret ?_
      have hI40 := Hp.sub (L := bx g11 [Value.int .i64 a1.Before, Value.int .i64 a1.Behind, Value.slice A2 a1.Keep.length c3] 24 :: L) (L' := L) hI37 (List.Sublist.cons _ (List.Sublist.refl _))
      cases H
      exact ⟨.inr rfl, rfl, _, ⟨_, _, rfl, rfl, ⟨_, _, rfl, rfl, rfl⟩⟩, _, (Gh.le_trans hG26 hG35), hI40, rfl⟩
  · replace H := ite_no h21 H
    refine wpc_false (bool_no h21) ?_
    refine wpc_skip ?_
    refine hK18 _ _ _ ?_
    refine wpc_seq_k fun K41 hK42 => ?_
    refine wpc_seq_k fun K43 hK44 => ?_
    refine wpc_region ?_
    refine q_mv (v := Value.int .u8 (bt a6 (w64 (a7 - 1)))) rfl ?_
    refine q_eql rfl rfl ?_
    refine wpq_nil ?_
    refine hK44 _ _ _ ?_
    by_cases h45 : (bt a6 (w64 (a7 - 1))) = 45
    · replace H := ite_yes h45 H
      refine wpc_true (bool_yes h45) ?_
      refine wpc_seq_k fun K46 hK47 => ?_
      refine wpc_seq_k fun K48 hK49 => ?_
      refine wpc_region ?_
      refine q_mv (v := Value.int .i64 a7) rfl ?_
      refine q_lss rfl rfl ?_
      refine wpq_nil ?_
      refine hK49 _ _ _ ?_
      by_cases h50 : a7 < 2
      · replace H := ite_yes h50 H
        refine wpc_true (bool_yes h50) ?_
        refine wpc_seq_k fun K51 hK52 => ?_
        refine wpc_region ?_
        refine q_as (v := Value.bool false) rfl ?_
        refine q_as (v := Value.bool false) rfl ?_
        refine wpq_nil ?_
        refine hK52 _ _ _ ?_
        refine wpc_ret ?_
        have hI53 := Hp.sub (L := bx g11 [Value.int .i64 a1.Before, Value.int .i64 a1.Behind, Value.slice A2 a1.Keep.length c3] 24 :: L) (L' := L) hI13 (List.Sublist.cons _ (List.Sublist.refl _))
        cases H
        exact ⟨.inr rfl, rfl, _, ⟨_, _, rfl, rfl, ⟨_, _, rfl, rfl, rfl⟩⟩, _, (Gh.le_refl _), hI53, rfl⟩
      · replace H := ite_no h50 H
        refine wpc_false (bool_no h50) ?_
        refine wpc_skip ?_
        refine hK47 _ _ _ ?_
        refine wpc_seq_k fun K54 hK55 => ?_
        refine wpc_region ?_
        refine q_mv (v := Value.string a6) rfl ?_
        refine q_mv (v := Value.int .i64 a7) rfl ?_
        refine q_sub rfl rfl ?_
        obtain ⟨⟨h56, h56'⟩, H⟩ := ite_some H
        refine q_is so9 rfl rfl h56 h56' rfl ?_
        obtain ⟨y62, hy57, H⟩ := bind_some H
        refine q_cv (vs := [Value.int .u8 (bt a6 (w64 (a7 - 2)))]) bo37 rfl rfl (formeref08_solid_spec (a1 := bt a6 (w64 (a7 - 2))) hI13 hy57) ?_
        rintro _ wd60 ⟨G58, hG59, hI61, rfl⟩
        refine ⟨_, rfl, ?_⟩
        refine q_as (v := Value.bool y62) rfl ?_
        refine wpq_nil ?_
        refine hK55 _ _ _ ?_
        refine wpc_seq_k fun K63 hK64 => ?_
        refine wpc_region ?_
        refine q_mv (v := Value.string a6) rfl ?_
        refine q_mv (v := Value.int .i64 a7) rfl ?_
        obtain ⟨⟨h65, h65'⟩, H⟩ := ite_some H
        refine q_is so9 rfl rfl h65 h65' rfl ?_
        obtain ⟨y71, hy66, H⟩ := bind_some H
        refine q_cv (vs := [Value.int .u8 (bt a6 a7)]) bo37 rfl rfl (formeref08_solid_spec (a1 := bt a6 a7) hI61 hy66) ?_
        rintro _ wd69 ⟨G67, hG68, hI70, rfl⟩
        refine ⟨_, rfl, ?_⟩
        refine q_as (v := Value.bool y71) rfl ?_
        refine wpq_nil ?_
        refine hK64 _ _ _ ?_
        refine wpc_seq_k fun K72 hK73 => ?_
        refine wpc_region ?_
        refine q_mv (v := Value.bool y62) rfl ?_
        refine q_mv (v := Value.bool y62) rfl ?_
        obtain ⟨v74, hC, H⟩ := bind_some H
        refine wpq_split 2 (K := fun e r ds w => e = .normal ∧ ∃ (G75 : Gh), ds = [] ∧ G67 ≤ G75 ∧ Has [(50, Value.bool v74)] r ∧ Hp G75 (bx g11 [Value.int .i64 a1.Before, Value.int .i64 a1.Behind, Value.slice A2 a1.Keep.length c3] 24 :: L) w ∧ True) ?_ ?_
        · replace H := hC
          by_cases h80 : y62 = true
          · replace H := ite_yes h80 H
            refine q_mv (v := Value.bool y71) rfl ?_ (hw := guard_yes rfl rfl rfl (bval_yes h80))
            refine q_pick true (v := Value.bool y71) (bval_yes h80) rfl ?_
            refine wpq_nil ?_
            cases H
            exact ⟨rfl, _, rfl, (Gh.le_refl _), ⟨rfl, trivial⟩, hI70, trivial⟩
          · replace H := ite_no h80 H
            refine wpq_no (guard_no rfl rfl rfl (bval_no h80) rfl) ?_
            refine q_pick false (v := Value.bool false) (bval_no h80) rfl ?_
            refine wpq_nil ?_
            cases H
            exact ⟨rfl, _, rfl, (Gh.le_refl _), ⟨rfl, trivial⟩, hI70, trivial⟩
        · clear hC
          rintro e r ds wd77 ⟨rfl, G75, rfl, hG76, hHas, hI78, _⟩
          rw [hHas.eq]; clear hHas
          refine q_as (v := Value.bool v74) rfl ?_
          refine q_as (v := Value.bool false) rfl ?_
          refine wpq_nil ?_
          refine hK73 _ _ _ ?_
          refine wpc_ret ?_
          have hI81 := Hp.sub (L := bx g11 [Value.int .i64 a1.Before, Value.int .i64 a1.Behind, Value.slice A2 a1.Keep.length c3] 24 :: L) (L' := L) hI78 (List.Sublist.cons _ (List.Sublist.refl _))
          cases H
          exact ⟨.inr rfl, rfl, _, ⟨_, _, rfl, rfl, ⟨_, _, rfl, rfl, rfl⟩⟩, _, (Gh.le_trans (Gh.le_trans hG59 hG68) hG76), hI81, rfl⟩
    · replace H := ite_no h45 H
      refine wpc_false (bool_no h45) ?_
      refine wpc_skip ?_
      refine hK42 _ _ _ ?_
      refine wpc_seq_k fun K82 hK83 => ?_
      refine wpc_seq_k fun K84 hK85 => ?_
      refine wpc_region ?_
      refine q_mv (v := Value.int .u8 (bt a6 (w64 (a7 - 1)))) rfl ?_
      refine q_neq rfl rfl ?_
      refine wpq_nil ?_
      refine hK85 _ _ _ ?_
      by_cases h86 : ¬ (bt a6 (w64 (a7 - 1))) = 126
      · replace H := ite_yes h86 H
        refine wpc_true (bool_yes h86) ?_
        refine wpc_seq_k fun K87 hK88 => ?_
        refine wpc_region ?_
        refine q_as (v := Value.bool false) rfl ?_
        refine q_as (v := Value.bool false) rfl ?_
        refine wpq_nil ?_
        refine hK88 _ _ _ ?_
        refine wpc_ret ?_
        have hI89 := Hp.sub (L := bx g11 [Value.int .i64 a1.Before, Value.int .i64 a1.Behind, Value.slice A2 a1.Keep.length c3] 24 :: L) (L' := L) hI13 (List.Sublist.cons _ (List.Sublist.refl _))
        cases H
        exact ⟨.inr rfl, rfl, _, ⟨_, _, rfl, rfl, ⟨_, _, rfl, rfl, rfl⟩⟩, _, (Gh.le_refl _), hI89, rfl⟩
      · replace H := ite_no h86 H
        refine wpc_false (bool_no h86) ?_
        refine wpc_skip ?_
        refine hK83 _ _ _ ?_
        refine wpc_seq_k fun K90 hK91 => ?_
        refine wpc_seq_k fun K92 hK93 => ?_
        refine wpc_region ?_
        refine q_mv (v := Value.int .i64 a7) rfl ?_
        refine q_lss rfl rfl ?_
        refine wpq_nil ?_
        refine hK93 _ _ _ ?_
        by_cases h94 : a7 < 2
        · replace H := ite_yes h94 H
          refine wpc_true (bool_yes h94) ?_
          refine wpc_seq_k fun K95 hK96 => ?_
          refine wpc_region ?_
          refine q_as (v := Value.bool false) rfl ?_
          refine q_as (v := Value.bool false) rfl ?_
          refine wpq_nil ?_
          refine hK96 _ _ _ ?_
          refine wpc_ret ?_
          have hI97 := Hp.sub (L := bx g11 [Value.int .i64 a1.Before, Value.int .i64 a1.Behind, Value.slice A2 a1.Keep.length c3] 24 :: L) (L' := L) hI13 (List.Sublist.cons _ (List.Sublist.refl _))
          cases H
          exact ⟨.inr rfl, rfl, _, ⟨_, _, rfl, rfl, ⟨_, _, rfl, rfl, rfl⟩⟩, _, (Gh.le_refl _), hI97, rfl⟩
        · replace H := ite_no h94 H
          refine wpc_false (bool_no h94) ?_
          refine wpc_skip ?_
          refine hK91 _ _ _ ?_
          refine wpc_seq_k fun K98 hK99 => ?_
          refine wpc_region ?_
          refine q_mv (v := Value.string a6) rfl ?_
          refine q_mv (v := Value.int .i64 a7) rfl ?_
          refine q_sub rfl rfl ?_
          obtain ⟨⟨h100, h100'⟩, H⟩ := ite_some H
          refine q_is so9 rfl rfl h100 h100' rfl ?_
          obtain ⟨y106, hy101, H⟩ := bind_some H
          refine q_cv (vs := [Value.int .u8 (bt a6 (w64 (a7 - 2)))]) bo38 rfl rfl (formeref08_letter_spec (a1 := bt a6 (w64 (a7 - 2))) hI13 hy101) ?_
          rintro _ wd104 ⟨G102, hG103, hI105, rfl⟩
          refine ⟨_, rfl, ?_⟩
          refine q_as (v := Value.bool y106) rfl ?_
          refine wpq_nil ?_
          refine hK99 _ _ _ ?_
          refine wpc_seq_k fun K107 hK108 => ?_
          refine wpc_seq_k fun K109 hK110 => ?_
          refine wpc_region ?_
          refine q_mv (v := Value.bool y106) rfl ?_
          refine q_not rfl ?_
          refine wpq_nil ?_
          refine hK110 _ _ _ ?_
          by_cases h111 : (!y106) = true
          · replace H := ite_yes h111 H
            refine wpc_true (bval_yes h111) ?_
            refine wpc_seq_k fun K112 hK113 => ?_
            refine wpc_region ?_
            refine q_as (v := Value.bool false) rfl ?_
            refine q_as (v := Value.bool false) rfl ?_
            refine wpq_nil ?_
            refine hK113 _ _ _ ?_
            refine wpc_ret ?_
            have hI114 := Hp.sub (L := bx g11 [Value.int .i64 a1.Before, Value.int .i64 a1.Behind, Value.slice A2 a1.Keep.length c3] 24 :: L) (L' := L) hI105 (List.Sublist.cons _ (List.Sublist.refl _))
            cases H
            exact ⟨.inr rfl, rfl, _, ⟨_, _, rfl, rfl, ⟨_, _, rfl, rfl, rfl⟩⟩, _, hG103, hI114, rfl⟩
          · replace H := ite_no h111 H
            refine wpc_false (bval_no h111) ?_
            refine wpc_skip ?_
            refine hK108 _ _ _ ?_
            refine wpc_seq_k fun K115 hK116 => ?_
            refine wpc_region ?_
            refine q_mv (v := Value.string a6) rfl ?_
            refine q_mv (v := Value.int .i64 a7) rfl ?_
            refine q_sub rfl rfl ?_
            obtain ⟨⟨y122, y123⟩, hy117, H⟩ := bind_some H
            refine q_cv (vs := [Value.string a6, Value.int .i64 (w64 (a7 - 2)), Value.int .i64 (-1)]) bo39 rfl rfl (formeref08_run_spec (a1 := a6) (a2 := w64 (a7 - 2)) (a3 := (-1)) hI105 hy117) ?_
            rintro _ wd120 ⟨G118, hG119, hI121, rfl⟩
            refine ⟨_, rfl, ?_⟩
            refine q_mv (v := Value.tuple [Value.int .i64 y122, Value.int .u8 y123].toArray) rfl ?_
            refine q_ex (v := Value.int .i64 y122) rfl rfl ?_
            refine q_ex (v := Value.int .u8 y123) rfl rfl ?_
            refine q_as (v := Value.int .i64 y122) rfl ?_
            refine q_as (v := Value.int .u8 y123) rfl ?_
            refine wpq_nil ?_
            refine hK116 _ _ _ ?_
            refine wpc_seq_k fun K124 hK125 => ?_
            refine wpc_region ?_
            refine q_mv (v := Value.string a6) rfl ?_
            refine q_mv (v := Value.int .i64 a7) rfl ?_
            obtain ⟨⟨y131, y132⟩, hy126, H⟩ := bind_some H
            refine q_cv (vs := [Value.string a6, Value.int .i64 a7, Value.int .i64 1]) bo39 rfl rfl (formeref08_run_spec (a1 := a6) (a2 := a7) (a3 := 1) hI121 hy126) ?_
            rintro _ wd129 ⟨G127, hG128, hI130, rfl⟩
            refine ⟨_, rfl, ?_⟩
            refine q_mv (v := Value.tuple [Value.int .i64 y131, Value.int .u8 y132].toArray) rfl ?_
            refine q_ex (v := Value.int .i64 y131) rfl rfl ?_
            refine q_ex (v := Value.int .u8 y132) rfl rfl ?_
            refine q_as (v := Value.int .i64 y131) rfl ?_
            refine q_as (v := Value.int .u8 y132) rfl ?_
            refine wpq_nil ?_
            refine hK125 _ _ _ ?_
            refine wpc_seq_k fun K133 hK134 => ?_
            refine wpc_seq_k fun K135 hK136 => ?_
            refine wpc_region ?_
            refine q_mv (v := Value.int .i64 y122) rfl ?_
            refine q_fa (a' := ⟨g11, 0, none⟩) fl24_0 rfl (add_plain _ _ _) ?_
            refine q_ld hI130 0 (v := Value.int .i64 a1.Before) ag3 rfl rfl rfl ?_
            refine q_lss rfl rfl ?_
            refine q_mv (v := Value.bool (decide (y122 < a1.Before))) rfl ?_
            obtain ⟨v137, hC, H⟩ := bind_some H
            refine wpq_split 5 (K := fun e r ds w => e = .normal ∧ ∃ (G138 : Gh), ds = [] ∧ G127 ≤ G138 ∧ Has [(3, Value.pointer (some ⟨g11, 0, none⟩)), (14, Value.int .u8 y123), (16, Value.int .u8 y132), (84, Value.bool v137)] r ∧ Hp G138 (bx g11 [Value.int .i64 a1.Before, Value.int .i64 a1.Behind, Value.slice A2 a1.Keep.length c3] 24 :: L) w ∧ True) ?_ ?_
            · replace H := hC
              by_cases h143 : y122 < a1.Before
              · replace H := ite_yes h143 H
                refine wpq_no (guard_no rfl rfl rfl (bool_yes h143) rfl) ?_
                refine wpq_no (guard_no rfl rfl rfl (bool_yes h143) rfl) ?_
                refine wpq_no (guard_no rfl rfl rfl (bool_yes h143) rfl) ?_
                refine wpq_no (guard_no rfl rfl rfl (bool_yes h143) rfl) ?_
                refine q_pick true (v := Value.bool true) (bool_yes h143) rfl ?_
                refine wpq_nil ?_
                cases H
                exact ⟨rfl, _, rfl, (Gh.le_refl _), ⟨rfl, rfl, rfl, rfl, trivial⟩, hI130, trivial⟩
              · replace H := ite_no h143 H
                refine q_mv (v := Value.int .i64 y131) rfl ?_ (hw := guard_yes rfl rfl rfl (bool_no h143))
                refine q_fa (a' := ⟨g11, 1, none⟩) fl24_1 rfl (add_plain _ _ _) ?_ (hw := guard_yes rfl rfl rfl (bool_no h143))
                refine q_ld hI130 0 (v := Value.int .i64 a1.Behind) ag3 rfl rfl rfl ?_ (hw := guard_yes rfl rfl rfl (bool_no h143))
                refine q_lss rfl rfl ?_ (hw := guard_yes rfl rfl rfl (bool_no h143))
                refine q_pick false (v := Value.bool (decide (y131 < a1.Behind))) (bool_no h143) rfl ?_
                refine wpq_nil ?_
                cases H
                exact ⟨rfl, _, rfl, (Gh.le_refl _), ⟨rfl, rfl, rfl, rfl, trivial⟩, hI130, trivial⟩
            · clear hC
              rintro e r ds wd140 ⟨rfl, G138, rfl, hG139, hHas, hI141, _⟩
              rw [hHas.eq]; clear hHas
              refine wpq_nil ?_
              refine hK136 _ _ _ ?_
              by_cases h144 : v137 = true
              · replace H := ite_yes h144 H
                refine wpc_true (bval_yes h144) ?_
                refine wpc_seq_k fun K145 hK146 => ?_
                refine wpc_region ?_
                refine q_as (v := Value.bool false) rfl ?_
                refine q_as (v := Value.bool false) rfl ?_
                refine wpq_nil ?_
                refine hK146 _ _ _ ?_
                refine wpc_ret ?_
                have hI147 := Hp.sub (L := bx g11 [Value.int .i64 a1.Before, Value.int .i64 a1.Behind, Value.slice A2 a1.Keep.length c3] 24 :: L) (L' := L) hI141 (List.Sublist.cons _ (List.Sublist.refl _))
                cases H
                exact ⟨.inr rfl, rfl, _, ⟨_, _, rfl, rfl, ⟨_, _, rfl, rfl, rfl⟩⟩, _, (Gh.le_trans (Gh.le_trans (Gh.le_trans hG103 hG119) hG128) hG139), hI147, rfl⟩
              · replace H := ite_no h144 H
                refine wpc_false (bval_no h144) ?_
                refine wpc_skip ?_
                refine hK134 _ _ _ ?_
                refine wpc_seq_k fun K148 hK149 => ?_
                refine wpc_region ?_
                refine q_ldA hI141 0 (cs := [Value.int .i64 a1.Before, Value.int .i64 a1.Behind, Value.slice A2 a1.Keep.length c3]) ag24 rfl rfl rfl rfl ?_
                refine q_mv (v := Value.int .u8 y123) rfl ?_
                refine q_mv (v := Value.int .u8 y132) rfl ?_
                obtain ⟨y155, hy150, H⟩ := bind_some H
                refine q_cv (vs := [Value.agg [Value.int .i64 a1.Before, Value.int .i64 a1.Behind, Value.slice A2 a1.Keep.length c3].toArray, Value.int .u8 y123, Value.int .u8 y132]) bo40 rfl rfl (formeref08_kept_spec (a1 := a1) (a6 := y123) (a7 := y132) hI141 hl4 (Dat.mono (Gh.le_trans (Gh.le_trans (Gh.le_trans hG103 hG119) hG128) hG139) hD5) hy150) ?_
                rintro _ wd153 ⟨G151, hG152, hI154, rfl⟩
                refine ⟨_, rfl, ?_⟩
                refine q_as (v := Value.bool y155) rfl ?_
                refine wpq_nil ?_
                refine hK149 _ _ _ ?_
                refine wpc_seq_k fun K156 hK157 => ?_
                refine wpc_region ?_
                refine q_mv (v := Value.bool y155) rfl ?_
                refine q_not rfl ?_
                refine q_mv (v := Value.bool y155) rfl ?_
                refine q_not rfl ?_
                refine q_as (v := Value.bool (!y155)) rfl ?_
                refine q_as (v := Value.bool (!y155)) rfl ?_
                refine wpq_nil ?_
                refine hK157 _ _ _ ?_
                refine wpc_ret ?_
                have hI158 := Hp.sub (L := bx g11 [Value.int .i64 a1.Before, Value.int .i64 a1.Behind, Value.slice A2 a1.Keep.length c3] 24 :: L) (L' := L) hI154 (List.Sublist.cons _ (List.Sublist.refl _))
                cases H
                exact ⟨.inr rfl, rfl, _, ⟨_, _, rfl, rfl, ⟨_, _, rfl, rfl, rfl⟩⟩, _, (Gh.le_trans (Gh.le_trans (Gh.le_trans (Gh.le_trans hG103 hG119) hG128) hG139) hG152), hI158, rfl⟩
set_option maxHeartbeats 1000000 in
theorem formeref08_List_spec {a1 : api_Breaks} {a6 : ByteArray} {A2 : Option Addr} {c3 : Nat} {r1148 : List api_Break} {r1155 : Int} {G : Gh} {L : List Itm} {w : World} (hI : Hp G (L) w) (hl4 : a1.Keep.length ≤ c3) (hD5 : Dat Kd.str G A2 a1.Keep) (H : formeref08_List a1 a6 = some (r1148, r1155)) :
    Calls Tryd.prog 11 [Value.agg [Value.int .i64 a1.Before, Value.int .i64 a1.Behind, Value.slice A2 a1.Keep.length c3].toArray, Value.string a6].toArray w fun e w' => ∃ (A1149 : Option Addr) (c1150 : Nat) (G' : Gh), G ≤ G' ∧ Hp G' (tk (Value.slice A1149 r1148.length c1150) 2 37 :: L) w' ∧ r1148.length ≤ c1150 ∧ Dat k_api_Break G' A1149 r1148 ∧ Own A1149 c1150 ∧ e = .returned (Value.tuple [Value.slice A1149 r1148.length c1150, Value.int .i64 r1155].toArray) := by
  refine calls_intro (N := 43) Tryd.func11 rfl rfl (Nat.le_of_ble_eq_true rfl) ?_
  unfold formeref08_List at H
  refine wpc_seq_k fun K7 hK8 => ?_
  refine wpc_region ?_
  refine q_box hI (v := Value.agg [Value.int .i64 a1.Before, Value.int .i64 a1.Behind, Value.slice A2 a1.Keep.length c3].toArray) (vs := [Value.int .i64 a1.Before, Value.int .i64 a1.Behind, Value.slice A2 a1.Keep.length c3]) rfl rfl (fun g10 wd11 hI12 => ?_)
  refine q_as (v := Value.slice none 0 0) rfl ?_
  refine q_as (v := Value.int .i64 0) rfl ?_
  refine wpq_nil ?_
  refine hK8 _ _ _ ?_
  refine wpc_seq_k fun K13 hK14 => ?_
  refine wpc_region ?_
  refine q_ldA hI12 0 (cs := [Value.int .i64 a1.Before, Value.int .i64 a1.Behind, Value.slice A2 a1.Keep.length c3]) ag24 rfl rfl rfl rfl ?_
  obtain ⟨y20, hy15, H⟩ := bind_some H
  refine q_cv (vs := [Value.agg [Value.int .i64 a1.Before, Value.int .i64 a1.Behind, Value.slice A2 a1.Keep.length c3].toArray]) bo13 rfl rfl (formeref08_Valid_spec (a1 := a1) hI12 hl4 hD5 hy15) ?_
  rintro _ wd18 ⟨G16, hG17, hI19, rfl⟩
  refine ⟨_, rfl, ?_⟩
  refine q_as (v := Value.bool y20) rfl ?_
  refine wpq_nil ?_
  refine hK14 _ _ _ ?_
  refine wpc_seq_k fun K21 hK22 => ?_
  refine wpc_region ?_
  refine q_mv (v := Value.string a6) rfl ?_
  obtain ⟨y28, hy23, H⟩ := bind_some H
  refine q_cv (vs := [Value.string a6]) bo22 rfl rfl (formeref06_Valid_spec (a1 := a6) hI19 hy23) ?_
  rintro _ wd26 ⟨G24, hG25, hI27, rfl⟩
  refine ⟨_, rfl, ?_⟩
  refine q_as (v := Value.bool y28) rfl ?_
  refine wpq_nil ?_
  refine hK22 _ _ _ ?_
  refine wpc_seq_k fun K29 hK30 => ?_
  refine wpc_seq_k fun K31 hK32 => ?_
  refine wpc_region ?_
  refine q_mv (v := Value.bool y20) rfl ?_
  refine q_not rfl ?_
  refine q_mv (v := Value.bool (!y20)) rfl ?_
  obtain ⟨v33, hC, H⟩ := bind_some H
  refine wpq_split 3 (K := fun e r ds w => e = .normal ∧ ∃ (G34 : Gh), ds = [] ∧ G24 ≤ G34 ∧ Has [(1, Value.string a6), (2, Value.pointer (some ⟨g10, 0, none⟩)), (21, Value.bool v33)] r ∧ Hp G34 (bx g10 [Value.int .i64 a1.Before, Value.int .i64 a1.Behind, Value.slice A2 a1.Keep.length c3] 24 :: L) w ∧ True) ?_ ?_
  · replace H := hC
    by_cases h39 : (!y20) = true
    · replace H := ite_yes h39 H
      refine wpq_no (guard_no rfl rfl rfl (bval_yes h39) rfl) ?_
      refine wpq_no (guard_no rfl rfl rfl (bval_yes h39) rfl) ?_
      refine q_pick true (v := Value.bool true) (bval_yes h39) rfl ?_
      refine wpq_nil ?_
      cases H
      exact ⟨rfl, _, rfl, (Gh.le_refl _), ⟨rfl, rfl, rfl, trivial⟩, hI27, trivial⟩
    · replace H := ite_no h39 H
      refine q_mv (v := Value.bool y28) rfl ?_ (hw := guard_yes rfl rfl rfl (bval_no h39))
      refine q_not rfl ?_ (hw := guard_yes rfl rfl rfl (bval_no h39))
      refine q_pick false (v := Value.bool (!y28)) (bval_no h39) rfl ?_
      refine wpq_nil ?_
      cases H
      exact ⟨rfl, _, rfl, (Gh.le_refl _), ⟨rfl, rfl, rfl, trivial⟩, hI27, trivial⟩
  · clear hC
    rintro e r ds wd36 ⟨rfl, G34, rfl, hG35, hHas, hI37, _⟩
    rw [hHas.eq]; clear hHas
    refine wpq_nil ?_
    refine hK32 _ _ _ ?_
    by_cases h40 : v33 = true
    · replace H := ite_yes h40 H
      refine wpc_true (bval_yes h40) ?_
      refine wpc_seq_k fun K41 hK42 => ?_
      refine wpc_region ?_
      refine q_as (v := Value.slice none 0 0) rfl ?_
      refine q_as (v := Value.int .i64 1) rfl ?_
      refine wpq_nil ?_
      refine hK42 _ _ _ ?_
      refine wpc_ret ?_
      have hI43 := Hp.emp hI37
      have hI45 := Hp.sub (L := tk (Value.slice none 0 0) 2 37 :: bx g10 [Value.int .i64 a1.Before, Value.int .i64 a1.Behind, Value.slice A2 a1.Keep.length c3] 24 :: L) (L' := tk (Value.slice none 0 0) 2 37 :: L) hI43 (List.Sublist.cons_cons _ (List.Sublist.cons _ (List.Sublist.refl _)))
      cases H
      exact ⟨.inr rfl, rfl, _, ⟨_, _, rfl, rfl, ⟨_, _, rfl, rfl, rfl⟩⟩, none, 0, _, (Gh.le_trans (Gh.le_trans hG17 hG25) hG35), hI45, (show ([] : List api_Break).length ≤ 0 from Nat.le_refl 0), (Dat.nil _ _ _), Own.nil, rfl⟩
    · replace H := ite_no h40 H
      refine wpc_false (bval_no h40) ?_
      refine wpc_skip ?_
      refine hK30 _ _ _ ?_
      refine wpc_seq_k fun K46 hK47 => ?_
      refine wpc_region ?_
      refine q_as (v := Value.slice none 0 0) rfl ?_
      refine wpq_nil ?_
      refine hK47 _ _ _ ?_
      refine wpc_seq_k fun K48 hK49 => ?_
      refine wpc_seq_k fun K50 hK51 => ?_
      refine wpc_region ?_
      refine q_as (v := Value.int .i64 1) rfl ?_
      refine wpq_nil ?_
      refine hK51 _ _ _ ?_
      refine wpc_block ?_
      obtain ⟨v77, hC, H⟩ := bind_some H
      refine wpc_mono (Q := fun e r ds w => e = .exit 0 ∧ ∃ (A78 : Option Addr) (c79 : Nat) (G84 : Gh), ds = [] ∧ G34 ≤ G84 ∧ Has [(8, Value.slice A78 v77.length c79)] r ∧ Hp G84 (bx g10 [Value.int .i64 a1.Before, Value.int .i64 a1.Behind, Value.slice A2 a1.Keep.length c3] 24 :: tk (Value.slice A78 v77.length c79) 2 37 :: L) w ∧ v77.length ≤ c79 ∧ Dat k_api_Break G84 A78 v77 ∧ Own A78 c79 ∧ True) ?_ ?_
      · clear H
        have hI141 := Hp.emp hI37
        have hI143 := Hp.front hI141 1 rfl
        refine wpc_loop fun I hLp => ?_
        refine formeref08_List_l76.partial_correctness a1 a6 (fun v56 v63 o => ∀ (A57 : Option Addr) (c58 : Nat) (G89 : Gh) (r : Rg) (w : World), G34 ≤ G89 → Has [(1, Value.string a6), (2, Value.pointer (some ⟨g10, 0, none⟩)), (8, Value.slice A57 v56.length c58), (9, Value.int .i64 v63)] r → Hp G89 (bx g10 [Value.int .i64 a1.Before, Value.int .i64 a1.Behind, Value.slice A2 a1.Keep.length c3] 24 :: tk (Value.slice A57 v56.length c58) 2 37 :: L) w → v56.length ≤ c58 → Dat k_api_Break G89 A57 v56 → Own A57 c58 → o = v77 → I r [] w) ?_ ([] : List api_Break) 1 _ hC none 0 _ _ _ (Gh.le_refl _) ⟨rfl, rfl, rfl, rfl, trivial⟩ hI143 (show ([] : List api_Break).length ≤ 0 from Nat.le_refl 0) (Dat.nil _ _ _) Own.nil rfl
        intro _ ih v56 v63 o H A57 c58 G89 r wd91 hG90 hHas hI92 hl59 hD60 ho61 ho
        rw [ho] at H; clear ho
        rw [hHas.eq]; clear hHas
        refine hLp _ _ _ ?_
        refine wpc_seq_k fun K93 hK94 => ?_
        refine wpc_seq_k fun K95 hK96 => ?_
        refine wpc_region ?_
        refine q_mv (v := Value.int .i64 v63) rfl ?_
        refine q_mv (v := Value.string a6) rfl ?_
        refine q_lens so9 rfl ?_
        refine q_lss rfl rfl ?_
        refine wpq_nil ?_
        refine hK96 _ _ _ ?_
        by_cases h97 : v63 < (a6.size : Int)
        · replace H := ite_yes h97 H
          refine wpc_true (bool_yes h97) ?_
          refine wpc_skip ?_
          refine hK94 _ _ _ ?_
          refine wpc_seq_k fun K98 hK99 => ?_
          obtain ⟨v100, hC, H⟩ := bind_some H
          refine wpc_mono (Q := fun e r ds w => e = .normal ∧ ∃ (A101 : Option Addr) (c102 : Nat) (G107 : Gh), ds = [] ∧ G89 ≤ G107 ∧ Has [(1, Value.string a6), (2, Value.pointer (some ⟨g10, 0, none⟩)), (8, Value.slice A101 v100.length c102), (9, Value.int .i64 v63)] r ∧ Hp G107 (bx g10 [Value.int .i64 a1.Before, Value.int .i64 a1.Behind, Value.slice A2 a1.Keep.length c3] 24 :: tk (Value.slice A101 v100.length c102) 2 37 :: L) w ∧ v100.length ≤ c102 ∧ Dat k_api_Break G107 A101 v100 ∧ Own A101 c102 ∧ True) ?_ ?_
          · replace H := hC
            refine wpc_block ?_
            refine wpc_seq_k fun K112 hK113 => ?_
            refine wpc_region ?_
            refine q_ldA hI92 0 (cs := [Value.int .i64 a1.Before, Value.int .i64 a1.Behind, Value.slice A2 a1.Keep.length c3]) ag24 rfl rfl rfl rfl ?_
            refine q_mv (v := Value.string a6) rfl ?_
            refine q_mv (v := Value.int .i64 v63) rfl ?_
            obtain ⟨⟨y119, y120⟩, hy114, H⟩ := bind_some H
            refine q_cv (vs := [Value.agg [Value.int .i64 a1.Before, Value.int .i64 a1.Behind, Value.slice A2 a1.Keep.length c3].toArray, Value.string a6, Value.int .i64 v63]) bo23 rfl rfl (formeref08_place_spec (a1 := a1) (a6 := a6) (a7 := v63) hI92 hl4 (Dat.mono (Gh.le_trans (Gh.le_trans (Gh.le_trans hG17 hG25) hG35) hG90) hD5) hy114) ?_
            rintro _ wd117 ⟨G115, hG116, hI118, rfl⟩
            refine ⟨_, rfl, ?_⟩
            refine q_mv (v := Value.tuple [Value.bool y119, Value.bool y120].toArray) rfl ?_
            refine q_ex (v := Value.bool y119) rfl rfl ?_
            refine q_ex (v := Value.bool y120) rfl rfl ?_
            refine q_as (v := Value.bool y119) rfl ?_
            refine q_as (v := Value.bool y120) rfl ?_
            refine wpq_nil ?_
            refine hK113 _ _ _ ?_
            refine wpc_seq_k fun K121 hK122 => ?_
            refine wpc_region ?_
            refine q_mv (v := Value.bool y119) rfl ?_
            refine wpq_nil ?_
            refine hK122 _ _ _ ?_
            by_cases h123 : y119 = true
            · replace H := ite_yes h123 H
              refine wpc_true (bval_yes h123) ?_
              refine wpc_region ?_
              refine q_mv (v := Value.slice A57 v56.length c58) rfl ?_
              refine q_mv (v := Value.int .i64 v63) rfl ?_
              refine q_mv (v := Value.bool y120) rfl ?_
              refine q_build (vs := [(0, Value.int .i64 v63), (1, Value.bool y120)]) (cs := [Value.int .i64 v63, Value.bool y120]) ze37 pl37 rfl rfl ?_
              refine q_bs hI118 (vs := [(0, Value.agg [Value.int .i64 v63, Value.bool y120].toArray)]) (cs := [Value.int .i64 v63, Value.bool y120]) el26 ze37 rfl (by decide) rfl rfl (fun g125 wd126 hI127 => ?_)
              obtain ⟨h137, H⟩ := ite_some H
              refine q_app (xs := v56) (ys := [(⟨v63, y120⟩ : api_Break)]) k_api_Break hI127 2 el26 ze37 rfl rfl rfl rfl ho61 hl59 (Dat.mono hG116 hD60) (src_bx hI127 0 so26 rfl rfl) ⟨[Value.int .i64 v63, Value.bool y120], _, rfl, (mk_api_Break (x := (⟨v63, y120⟩ : api_Break))), rfl⟩ rfl (by simp only [List.length_cons, List.length_nil]; omega) (by simp only [List.length_cons, List.length_nil]; omega) (fun A128 c129 G130 wd131 hG132 ho133 hl134 hD135 hI136 => ?_)
              refine q_as (v := Value.slice A128 (v56 ++ [(⟨v63, y120⟩ : api_Break)]).length c129) rfl ?_
              refine wpq_nil ?_
              have hI138 := Hp.front hI136 2 rfl
              have hI139 := Hp.front hI138 2 rfl
              have hI140 := Hp.sub (L := bx g10 [Value.int .i64 a1.Before, Value.int .i64 a1.Behind, Value.slice A2 a1.Keep.length c3] 24 :: tk (Value.slice A128 (v56 ++ [(⟨v63, y120⟩ : api_Break)]).length c129) 2 37 :: bx g125 [Value.int .i64 v63, Value.bool y120] 37 :: L) (L' := bx g10 [Value.int .i64 a1.Before, Value.int .i64 a1.Behind, Value.slice A2 a1.Keep.length c3] 24 :: tk (Value.slice A128 (v56 ++ [(⟨v63, y120⟩ : api_Break)]).length c129) 2 37 :: L) hI139 (List.Sublist.cons_cons _ (List.Sublist.cons_cons _ (List.Sublist.cons _ (List.Sublist.refl _))))
              cases H
              exact ⟨rfl, A128, c129, _, rfl, (Gh.le_trans hG116 hG132), ⟨rfl, rfl, rfl, rfl, trivial⟩, hI140, hl134, hD135, ho133, trivial⟩
            · replace H := ite_no h123 H
              refine wpc_false (bval_no h123) ?_
              refine wpc_skip ?_
              cases H
              exact ⟨rfl, A57, c58, _, rfl, hG116, ⟨rfl, rfl, rfl, rfl, trivial⟩, hI118, hl59, (Dat.mono hG116 hD60), ho61, trivial⟩
          · clear hC
            rintro e r ds wd109 ⟨rfl, A101, c102, G107, rfl, hG108, hHas, hI110, hl103, hD104, ho105, _⟩
            rw [hHas.eq]; clear hHas
            refine hK99 _ _ _ ?_
            refine wpc_region ?_
            refine q_mv (v := Value.int .i64 v63) rfl ?_
            refine q_add rfl rfl ?_
            refine q_as (v := Value.int .i64 (w64 (v63 + 1))) rfl ?_
            refine wpq_nil ?_
            exact ih _ _ _ H A101 c102 _ _ _ (Gh.le_trans hG90 hG108) ⟨rfl, rfl, rfl, rfl, trivial⟩ hI110 hl103 hD104 ho105 rfl
        · replace H := ite_no h97 H
          refine wpc_false (bool_no h97) ?_
          refine wpc_exit ?_
          cases H
          exact ⟨rfl, A57, c58, _, rfl, hG90, ⟨rfl, trivial⟩, hI92, hl59, hD60, ho61, trivial⟩
      · clear hC
        rintro e r ds wd86 ⟨rfl, A78, c79, G84, rfl, hG85, hHas, hI87, hl80, hD81, ho82, _⟩
        rw [hHas.eq]; clear hHas
        refine hK49 _ _ _ ?_
        refine wpc_seq_k fun K144 hK145 => ?_
        refine wpc_region ?_
        refine q_mv (v := Value.slice A78 v77.length c79) rfl ?_
        refine q_as (v := Value.slice A78 v77.length c79) rfl ?_
        refine q_as (v := Value.int .i64 0) rfl ?_
        refine wpq_nil ?_
        refine hK145 _ _ _ ?_
        refine wpc_ret ?_
        have hI146 := Hp.front hI87 1 rfl
        have hI147 := Hp.sub (L := tk (Value.slice A78 v77.length c79) 2 37 :: bx g10 [Value.int .i64 a1.Before, Value.int .i64 a1.Behind, Value.slice A2 a1.Keep.length c3] 24 :: L) (L' := tk (Value.slice A78 v77.length c79) 2 37 :: L) hI146 (List.Sublist.cons_cons _ (List.Sublist.cons _ (List.Sublist.refl _)))
        cases H
        exact ⟨.inr rfl, rfl, _, ⟨_, _, rfl, rfl, ⟨_, _, rfl, rfl, rfl⟩⟩, A78, c79, _, (Gh.le_trans (Gh.le_trans (Gh.le_trans hG17 hG25) hG35) hG85), hI147, hl80, hD81, ho82, rfl⟩
set_option maxHeartbeats 1000000 in
theorem formeref06_shown_spec {a1 : ByteArray} {r1096 : ByteArray} {G : Gh} {L : List Itm} {w : World} (hI : Hp G (L) w) (H : formeref06_shown a1 = some r1096) :
    Calls Tryd.prog 62 [Value.string a1].toArray w fun e w' => ∃ (G' : Gh), G ≤ G' ∧ Hp G' (L) w' ∧ e = .returned (Value.string r1096) := by
  refine calls_intro (N := 23) Tryd.func62 rfl rfl (Nat.le_of_ble_eq_true rfl) ?_
  unfold formeref06_shown at H
  refine wpc_seq_k fun K2 hK3 => ?_
  refine wpc_region ?_
  refine q_as (v := Value.string (⟨#[]⟩ : ByteArray)) rfl ?_
  refine wpq_nil ?_
  refine hK3 _ _ _ ?_
  refine wpc_seq_k fun K4 hK5 => ?_
  refine wpc_region ?_
  refine q_as (v := Value.slice none 0 0) rfl ?_
  refine wpq_nil ?_
  refine hK5 _ _ _ ?_
  refine wpc_seq_k fun K6 hK7 => ?_
  refine wpc_seq_k fun K8 hK9 => ?_
  refine wpc_region ?_
  refine q_as (v := Value.int .i64 0) rfl ?_
  refine wpq_nil ?_
  refine hK9 _ _ _ ?_
  refine wpc_block ?_
  obtain ⟨v35, hC, H⟩ := bind_some H
  refine wpc_mono (Q := fun e r ds w => e = .exit 0 ∧ ∃ (A36 : Option Addr) (c37 : Nat) (G42 : Gh), ds = [] ∧ G ≤ G42 ∧ Has [(3, Value.slice A36 v35.length c37)] r ∧ Hp G42 (tk (Value.slice A36 v35.length c37) 1 5 :: L) w ∧ v35.length ≤ c37 ∧ Dat (Kd.int .u8) G42 A36 v35 ∧ Own A36 c37 ∧ True) ?_ ?_
  · clear H
    have hI91 := Hp.emp hI
    refine wpc_loop fun I hLp => ?_
    refine formeref06_shown_l34.partial_correctness a1 (fun v14 v21 o => ∀ (A15 : Option Addr) (c16 : Nat) (G47 : Gh) (r : Rg) (w : World), G ≤ G47 → Has [(0, Value.string a1), (3, Value.slice A15 v14.length c16), (4, Value.int .i64 v21)] r → Hp G47 (tk (Value.slice A15 v14.length c16) 1 5 :: L) w → v14.length ≤ c16 → Dat (Kd.int .u8) G47 A15 v14 → Own A15 c16 → o = v35 → I r [] w) ?_ ([] : List Int) 0 _ hC none 0 _ _ _ (Gh.le_refl _) ⟨rfl, rfl, rfl, trivial⟩ hI91 (show ([] : List Int).length ≤ 0 from Nat.le_refl 0) (Dat.nil _ _ _) Own.nil rfl
    intro _ ih v14 v21 o H A15 c16 G47 r wd49 hG48 hHas hI50 hl17 hD18 ho19 ho
    rw [ho] at H; clear ho
    rw [hHas.eq]; clear hHas
    refine hLp _ _ _ ?_
    refine wpc_seq_k fun K51 hK52 => ?_
    refine wpc_seq_k fun K53 hK54 => ?_
    refine wpc_region ?_
    refine q_mv (v := Value.int .i64 v21) rfl ?_
    refine q_mv (v := Value.string a1) rfl ?_
    refine q_lens so9 rfl ?_
    refine q_lss rfl rfl ?_
    refine wpq_nil ?_
    refine hK54 _ _ _ ?_
    by_cases h55 : v21 < (a1.size : Int)
    · replace H := ite_yes h55 H
      refine wpc_true (bool_yes h55) ?_
      refine wpc_skip ?_
      refine hK52 _ _ _ ?_
      refine wpc_seq_k fun K56 hK57 => ?_
      obtain ⟨v58, hC, H⟩ := bind_some H
      refine wpc_mono (Q := fun e r ds w => e = .normal ∧ ∃ (A59 : Option Addr) (c60 : Nat) (G65 : Gh), ds = [] ∧ G47 ≤ G65 ∧ Has [(0, Value.string a1), (3, Value.slice A59 v58.length c60), (4, Value.int .i64 v21)] r ∧ Hp G65 (tk (Value.slice A59 v58.length c60) 1 5 :: L) w ∧ v58.length ≤ c60 ∧ Dat (Kd.int .u8) G65 A59 v58 ∧ Own A59 c60 ∧ True) ?_ ?_
      · replace H := hC
        refine wpc_block ?_
        refine wpc_seq_k fun K70 hK71 => ?_
        refine wpc_region ?_
        refine q_mv (v := Value.string a1) rfl ?_
        refine q_mv (v := Value.int .i64 v21) rfl ?_
        obtain ⟨⟨h72, h72'⟩, H⟩ := ite_some H
        refine q_is so9 rfl rfl h72 h72' rfl ?_
        refine q_neq rfl rfl ?_
        refine wpq_nil ?_
        refine hK71 _ _ _ ?_
        by_cases h73 : ¬ (bt a1 v21) = 126
        · replace H := ite_yes h73 H
          refine wpc_true (bool_yes h73) ?_
          refine wpc_region ?_
          refine q_mv (v := Value.slice A15 v14.length c16) rfl ?_
          refine q_mv (v := Value.string a1) rfl ?_
          refine q_mv (v := Value.int .i64 v21) rfl ?_
          obtain ⟨⟨h74, h74'⟩, H⟩ := ite_some H
          refine q_is so9 rfl rfl h74 h74' rfl ?_
          refine q_bs hI50 (vs := [(0, Value.int .u8 (bt a1 v21))]) (cs := [Value.int .u8 (bt a1 v21)]) el38 ze5 rfl (by decide) rfl rfl (fun g76 wd77 hI78 => ?_)
          obtain ⟨h88, H⟩ := ite_some H
          refine q_app (xs := v14) (ys := [bt a1 v21]) (Kd.int .u8) hI78 1 el38 ze5 rfl rfl rfl rfl ho19 hl17 hD18 (src_bx hI78 0 so38 rfl rfl) ⟨[Value.int .u8 (bt a1 v21)], _, rfl, rfl, rfl⟩ rfl (by simp only [List.length_cons, List.length_nil]; omega) (by simp only [List.length_cons, List.length_nil]; omega) (fun A79 c80 G81 wd82 hG83 ho84 hl85 hD86 hI87 => ?_)
          refine q_as (v := Value.slice A79 (v14 ++ [bt a1 v21]).length c80) rfl ?_
          refine wpq_nil ?_
          have hI89 := Hp.front hI87 1 rfl
          have hI90 := Hp.sub (L := tk (Value.slice A79 (v14 ++ [bt a1 v21]).length c80) 1 5 :: bx g76 [Value.int .u8 (bt a1 v21)] 5 :: L) (L' := tk (Value.slice A79 (v14 ++ [bt a1 v21]).length c80) 1 5 :: L) hI89 (List.Sublist.cons_cons _ (List.Sublist.cons _ (List.Sublist.refl _)))
          cases H
          exact ⟨rfl, A79, c80, _, rfl, hG83, ⟨rfl, rfl, rfl, trivial⟩, hI90, hl85, hD86, ho84, trivial⟩
        · replace H := ite_no h73 H
          refine wpc_false (bool_no h73) ?_
          refine wpc_skip ?_
          cases H
          exact ⟨rfl, A15, c16, _, rfl, (Gh.le_refl _), ⟨rfl, rfl, rfl, trivial⟩, hI50, hl17, hD18, ho19, trivial⟩
      · clear hC
        rintro e r ds wd67 ⟨rfl, A59, c60, G65, rfl, hG66, hHas, hI68, hl61, hD62, ho63, _⟩
        rw [hHas.eq]; clear hHas
        refine hK57 _ _ _ ?_
        refine wpc_region ?_
        refine q_mv (v := Value.int .i64 v21) rfl ?_
        refine q_add rfl rfl ?_
        refine q_as (v := Value.int .i64 (w64 (v21 + 1))) rfl ?_
        refine wpq_nil ?_
        exact ih _ _ _ H A59 c60 _ _ _ (Gh.le_trans hG48 hG66) ⟨rfl, rfl, rfl, trivial⟩ hI68 hl61 hD62 ho63 rfl
    · replace H := ite_no h55 H
      refine wpc_false (bool_no h55) ?_
      refine wpc_exit ?_
      cases H
      exact ⟨rfl, A15, c16, _, rfl, hG48, ⟨rfl, trivial⟩, hI50, hl17, hD18, ho19, trivial⟩
  · clear hC
    rintro e r ds wd44 ⟨rfl, A36, c37, G42, rfl, hG43, hHas, hI45, hl38, hD39, ho40, _⟩
    rw [hHas.eq]; clear hHas
    refine hK7 _ _ _ ?_
    refine wpc_seq_k fun K93 hK94 => ?_
    refine wpc_region ?_
    refine q_mv (v := Value.slice A36 v35.length c37) rfl ?_
    refine q_cvb hI45 el38 ik5 so9 rfl rfl hD39 ?_
    refine q_as (v := Value.string (bstr v35)) rfl ?_
    refine wpq_nil ?_
    refine hK94 _ _ _ ?_
    refine wpc_ret ?_
    have hI95 := Hp.sub (L := tk (Value.slice A36 v35.length c37) 1 5 :: L) (L' := L) hI45 (List.Sublist.cons _ (List.Sublist.refl _))
    cases H
    exact ⟨.inr rfl, rfl, _, ⟨_, _, rfl, rfl, rfl⟩, _, hG43, hI95, rfl⟩
set_option maxHeartbeats 1000000 in
theorem formeref06_Shown_spec {a1 : ByteArray} {r1025 : ByteArray} {r1026 : Int} {G : Gh} {L : List Itm} {w : World} (hI : Hp G (L) w) (H : formeref06_Shown a1 = some (r1025, r1026)) :
    Calls Tryd.prog 49 [Value.string a1].toArray w fun e w' => ∃ (G' : Gh), G ≤ G' ∧ Hp G' (L) w' ∧ e = .returned (Value.tuple [Value.string r1025, Value.int .i64 r1026].toArray) := by
  refine calls_intro (N := 9) Tryd.func49 rfl rfl (Nat.le_of_ble_eq_true rfl) ?_
  unfold formeref06_Shown at H
  refine wpc_seq_k fun K2 hK3 => ?_
  refine wpc_region ?_
  refine q_as (v := Value.string (⟨#[]⟩ : ByteArray)) rfl ?_
  refine q_as (v := Value.int .i64 0) rfl ?_
  refine wpq_nil ?_
  refine hK3 _ _ _ ?_
  refine wpc_seq_k fun K4 hK5 => ?_
  refine wpc_seq_k fun K6 hK7 => ?_
  refine wpc_region ?_
  refine q_mv (v := Value.string a1) rfl ?_
  obtain ⟨y13, hy8, H⟩ := bind_some H
  refine q_cv (vs := [Value.string a1]) bo22 rfl rfl (formeref06_Valid_spec (a1 := a1) hI hy8) ?_
  rintro _ wd11 ⟨G9, hG10, hI12, rfl⟩
  refine ⟨_, rfl, ?_⟩
  refine q_not rfl ?_
  refine wpq_nil ?_
  refine hK7 _ _ _ ?_
  by_cases h14 : (!y13) = true
  · replace H := ite_yes h14 H
    refine wpc_true (bval_yes h14) ?_
    refine wpc_seq_k fun K15 hK16 => ?_
    refine wpc_region ?_
    refine q_as (v := Value.string (⟨#[]⟩ : ByteArray)) rfl ?_
    refine q_as (v := Value.int .i64 1) rfl ?_
    refine wpq_nil ?_
    refine hK16 _ _ _ ?_
    refine wpc_ret ?_
    cases H
    exact ⟨.inr rfl, rfl, _, ⟨_, _, rfl, rfl, ⟨_, _, rfl, rfl, rfl⟩⟩, _, hG10, hI12, rfl⟩
  · replace H := ite_no h14 H
    refine wpc_false (bval_no h14) ?_
    refine wpc_skip ?_
    refine hK5 _ _ _ ?_
    refine wpc_seq_k fun K17 hK18 => ?_
    refine wpc_region ?_
    refine q_mv (v := Value.string a1) rfl ?_
    obtain ⟨y24, hy19, H⟩ := bind_some H
    refine q_cv (vs := [Value.string a1]) bo62 rfl rfl (formeref06_shown_spec (a1 := a1) hI12 hy19) ?_
    rintro _ wd22 ⟨G20, hG21, hI23, rfl⟩
    refine ⟨_, rfl, ?_⟩
    refine q_as (v := Value.string y24) rfl ?_
    refine q_as (v := Value.int .i64 0) rfl ?_
    refine wpq_nil ?_
    refine hK18 _ _ _ ?_
    refine wpc_ret ?_
    cases H
    exact ⟨.inr rfl, rfl, _, ⟨_, _, rfl, rfl, ⟨_, _, rfl, rfl, rfl⟩⟩, _, (Gh.le_trans hG10 hG21), hI23, rfl⟩
set_option maxHeartbeats 1000000 in
theorem formeref06_Trim_spec {a1 : ByteArray} {r1097 : ByteArray} {r1098 : Int} {G : Gh} {L : List Itm} {w : World} (hI : Hp G (L) w) (H : formeref06_Trim a1 = some (r1097, r1098)) :
    Calls Tryd.prog 50 [Value.string a1].toArray w fun e w' => ∃ (G' : Gh), G ≤ G' ∧ Hp G' (L) w' ∧ e = .returned (Value.tuple [Value.string r1097, Value.int .i64 r1098].toArray) := by
  refine calls_intro (N := 34) Tryd.func50 rfl rfl (Nat.le_of_ble_eq_true rfl) ?_
  unfold formeref06_Trim at H
  refine wpc_seq_k fun K2 hK3 => ?_
  refine wpc_region ?_
  refine q_as (v := Value.string (⟨#[]⟩ : ByteArray)) rfl ?_
  refine q_as (v := Value.int .i64 0) rfl ?_
  refine wpq_nil ?_
  refine hK3 _ _ _ ?_
  refine wpc_seq_k fun K4 hK5 => ?_
  refine wpc_seq_k fun K6 hK7 => ?_
  refine wpc_region ?_
  refine q_mv (v := Value.string a1) rfl ?_
  obtain ⟨y13, hy8, H⟩ := bind_some H
  refine q_cv (vs := [Value.string a1]) bo22 rfl rfl (formeref06_Valid_spec (a1 := a1) hI hy8) ?_
  rintro _ wd11 ⟨G9, hG10, hI12, rfl⟩
  refine ⟨_, rfl, ?_⟩
  refine q_not rfl ?_
  refine wpq_nil ?_
  refine hK7 _ _ _ ?_
  by_cases h14 : (!y13) = true
  · replace H := ite_yes h14 H
    refine wpc_true (bval_yes h14) ?_
    refine wpc_seq_k fun K15 hK16 => ?_
    refine wpc_region ?_
    refine q_as (v := Value.string (⟨#[]⟩ : ByteArray)) rfl ?_
    refine q_as (v := Value.int .i64 1) rfl ?_
    refine wpq_nil ?_
    refine hK16 _ _ _ ?_
    refine wpc_ret ?_
    cases H
    exact ⟨.inr rfl, rfl, _, ⟨_, _, rfl, rfl, ⟨_, _, rfl, rfl, rfl⟩⟩, _, hG10, hI12, rfl⟩
  · replace H := ite_no h14 H
    refine wpc_false (bval_no h14) ?_
    refine wpc_skip ?_
    refine hK5 _ _ _ ?_
    refine wpc_seq_k fun K17 hK18 => ?_
    refine wpc_block ?_
    obtain ⟨v30, hC, H⟩ := bind_some H
    refine wpc_mono (Q := fun e r ds w => e = .exit 0 ∧ ∃ (G31 : Gh), ds = [] ∧ G9 ≤ G31 ∧ Has [(0, Value.string v30)] r ∧ Hp G31 (L) w ∧ True) ?_ ?_
    · clear H
      refine wpc_loop fun I hLp => ?_
      refine formeref06_Trim_l29.partial_correctness (fun v23 o => ∀ (G36 : Gh) (r : Rg) (w : World), G9 ≤ G36 → Has [(0, Value.string v23)] r → Hp G36 (L) w → o = v30 → I r [] w) ?_ a1 _ hC _ _ _ (Gh.le_refl _) ⟨rfl, trivial⟩ hI12 rfl
      intro _ ih v23 o H G36 r wd38 hG37 hHas hI39 ho
      rw [ho] at H; clear ho
      rw [hHas.eq]; clear hHas
      refine hLp _ _ _ ?_
      refine wpc_seq_k fun K40 hK41 => ?_
      refine wpc_seq_k fun K42 hK43 => ?_
      refine wpc_region ?_
      refine q_mv (v := Value.string v23) rfl ?_
      refine q_lens so9 rfl ?_
      refine q_gtr rfl rfl ?_
      refine q_mv (v := Value.bool (decide (0 < (v23.size : Int)))) rfl ?_
      obtain ⟨v44, hC, H⟩ := bind_some H
      refine wpq_split 4 (K := fun e r ds w => e = .normal ∧ ∃ (G45 : Gh), ds = [] ∧ G36 ≤ G45 ∧ Has [(0, Value.string v23), (14, Value.bool v44)] r ∧ Hp G45 (L) w ∧ True) ?_ ?_
      · replace H := hC
        by_cases h50 : 0 < (v23.size : Int)
        · replace H := ite_yes h50 H
          refine q_mv (v := Value.string v23) rfl ?_ (hw := guard_yes rfl rfl rfl (bool_yes h50))
          obtain ⟨⟨h51, h51'⟩, H⟩ := ite_some H
          refine q_is so9 rfl rfl h51 h51' rfl ?_ (hw := guard_yes rfl rfl rfl (bool_yes h50))
          refine q_eql rfl rfl ?_ (hw := guard_yes rfl rfl rfl (bool_yes h50))
          refine q_pick true (v := Value.bool (decide ((bt v23 0) = 32))) (bool_yes h50) rfl ?_
          refine wpq_nil ?_
          cases H
          exact ⟨rfl, _, rfl, (Gh.le_refl _), ⟨rfl, rfl, trivial⟩, hI39, trivial⟩
        · replace H := ite_no h50 H
          refine wpq_no (guard_no rfl rfl rfl (bool_no h50) rfl) ?_
          refine wpq_no (guard_no rfl rfl rfl (bool_no h50) rfl) ?_
          refine wpq_no (guard_no rfl rfl rfl (bool_no h50) rfl) ?_
          refine q_pick false (v := Value.bool false) (bool_no h50) rfl ?_
          refine wpq_nil ?_
          cases H
          exact ⟨rfl, _, rfl, (Gh.le_refl _), ⟨rfl, rfl, trivial⟩, hI39, trivial⟩
      · clear hC
        rintro e r ds wd47 ⟨rfl, G45, rfl, hG46, hHas, hI48, _⟩
        rw [hHas.eq]; clear hHas
        refine wpq_nil ?_
        refine hK43 _ _ _ ?_
        by_cases h52 : v44 = true
        · replace H := ite_yes h52 H
          refine wpc_true (bval_yes h52) ?_
          refine wpc_skip ?_
          refine hK41 _ _ _ ?_
          refine wpc_block ?_
          refine wpc_region ?_
          refine q_mv (v := Value.string v23) rfl ?_
          obtain ⟨⟨h53, h54⟩, H⟩ := ite_some H
          refine q_ss (l := 1) (h := (v23.size : Int)) so9 rfl (.inr ⟨_, rfl, rfl⟩) (.inl ⟨rfl, rfl⟩) h53 h54 (Int.le_refl _) ?_
          refine q_as (v := Value.string (sub v23 1 (v23.size : Int))) rfl ?_
          refine wpq_nil ?_
          exact ih _ _ H _ _ _ (Gh.le_trans hG37 hG46) ⟨rfl, trivial⟩ hI48 rfl
        · replace H := ite_no h52 H
          refine wpc_false (bval_no h52) ?_
          refine wpc_exit ?_
          cases H
          exact ⟨rfl, _, rfl, (Gh.le_trans hG37 hG46), ⟨rfl, trivial⟩, hI48, trivial⟩
    · clear hC
      rintro e r ds wd33 ⟨rfl, G31, rfl, hG32, hHas, hI34, _⟩
      rw [hHas.eq]; clear hHas
      refine hK18 _ _ _ ?_
      refine wpc_seq_k fun K56 hK57 => ?_
      refine wpc_block ?_
      obtain ⟨v69, hC, H⟩ := bind_some H
      refine wpc_mono (Q := fun e r ds w => e = .exit 2 ∧ ∃ (G70 : Gh), ds = [] ∧ G31 ≤ G70 ∧ Has [(0, Value.string v69)] r ∧ Hp G70 (L) w ∧ True) ?_ ?_
      · clear H
        refine wpc_loop fun I hLp => ?_
        refine formeref06_Trim_l68.partial_correctness (fun v62 o => ∀ (G75 : Gh) (r : Rg) (w : World), G31 ≤ G75 → Has [(0, Value.string v62)] r → Hp G75 (L) w → o = v69 → I r [] w) ?_ v30 _ hC _ _ _ (Gh.le_refl _) ⟨rfl, trivial⟩ hI34 rfl
        intro _ ih v62 o H G75 r wd77 hG76 hHas hI78 ho
        rw [ho] at H; clear ho
        rw [hHas.eq]; clear hHas
        refine hLp _ _ _ ?_
        refine wpc_seq_k fun K79 hK80 => ?_
        refine wpc_seq_k fun K81 hK82 => ?_
        refine wpc_region ?_
        refine q_mv (v := Value.string v62) rfl ?_
        refine q_lens so9 rfl ?_
        refine q_gtr rfl rfl ?_
        refine q_mv (v := Value.bool (decide (0 < (v62.size : Int)))) rfl ?_
        obtain ⟨v83, hC, H⟩ := bind_some H
        refine wpq_split 7 (K := fun e r ds w => e = .normal ∧ ∃ (G84 : Gh), ds = [] ∧ G75 ≤ G84 ∧ Has [(0, Value.string v62), (27, Value.bool v83)] r ∧ Hp G84 (L) w ∧ True) ?_ ?_
        · replace H := hC
          by_cases h89 : 0 < (v62.size : Int)
          · replace H := ite_yes h89 H
            refine q_mv (v := Value.string v62) rfl ?_ (hw := guard_yes rfl rfl rfl (bool_yes h89))
            refine q_mv (v := Value.string v62) rfl ?_ (hw := guard_yes rfl rfl rfl (bool_yes h89))
            refine q_lens so9 rfl ?_ (hw := guard_yes rfl rfl rfl (bool_yes h89))
            refine q_sub rfl rfl ?_ (hw := guard_yes rfl rfl rfl (bool_yes h89))
            obtain ⟨⟨h90, h90'⟩, H⟩ := ite_some H
            refine q_is so9 rfl rfl h90 h90' rfl ?_ (hw := guard_yes rfl rfl rfl (bool_yes h89))
            refine q_eql rfl rfl ?_ (hw := guard_yes rfl rfl rfl (bool_yes h89))
            refine q_pick true (v := Value.bool (decide ((bt v62 (w64 ((v62.size : Int) - 1))) = 32))) (bool_yes h89) rfl ?_
            refine wpq_nil ?_
            cases H
            exact ⟨rfl, _, rfl, (Gh.le_refl _), ⟨rfl, rfl, trivial⟩, hI78, trivial⟩
          · replace H := ite_no h89 H
            refine wpq_no (guard_no rfl rfl rfl (bool_no h89) rfl) ?_
            refine wpq_no (guard_no rfl rfl rfl (bool_no h89) rfl) ?_
            refine wpq_no (guard_no rfl rfl rfl (bool_no h89) rfl) ?_
            refine wpq_no (guard_no rfl rfl rfl (bool_no h89) rfl) ?_
            refine wpq_no (guard_no rfl rfl rfl (bool_no h89) rfl) ?_
            refine wpq_no (guard_no rfl rfl rfl (bool_no h89) rfl) ?_
            refine q_pick false (v := Value.bool false) (bool_no h89) rfl ?_
            refine wpq_nil ?_
            cases H
            exact ⟨rfl, _, rfl, (Gh.le_refl _), ⟨rfl, rfl, trivial⟩, hI78, trivial⟩
        · clear hC
          rintro e r ds wd86 ⟨rfl, G84, rfl, hG85, hHas, hI87, _⟩
          rw [hHas.eq]; clear hHas
          refine wpq_nil ?_
          refine hK82 _ _ _ ?_
          by_cases h91 : v83 = true
          · replace H := ite_yes h91 H
            refine wpc_true (bval_yes h91) ?_
            refine wpc_skip ?_
            refine hK80 _ _ _ ?_
            refine wpc_block ?_
            refine wpc_region ?_
            refine q_mv (v := Value.string v62) rfl ?_
            refine q_mv (v := Value.string v62) rfl ?_
            refine q_lens so9 rfl ?_
            refine q_sub rfl rfl ?_
            obtain ⟨⟨h93, h94⟩, H⟩ := ite_some H
            refine q_ss (l := 0) (h := w64 ((v62.size : Int) - 1)) so9 rfl (.inl ⟨rfl, rfl⟩) (.inr ⟨_, rfl, rfl⟩) (Int.le_refl 0) h93 h94 ?_
            refine q_as (v := Value.string (sub v62 0 (w64 ((v62.size : Int) - 1)))) rfl ?_
            refine wpq_nil ?_
            exact ih _ _ H _ _ _ (Gh.le_trans hG76 hG85) ⟨rfl, trivial⟩ hI87 rfl
          · replace H := ite_no h91 H
            refine wpc_false (bval_no h91) ?_
            refine wpc_exit ?_
            cases H
            exact ⟨rfl, _, rfl, (Gh.le_trans hG76 hG85), ⟨rfl, trivial⟩, hI87, trivial⟩
      · clear hC
        rintro e r ds wd72 ⟨rfl, G70, rfl, hG71, hHas, hI73, _⟩
        rw [hHas.eq]; clear hHas
        refine hK57 _ _ _ ?_
        refine wpc_seq_k fun K95 hK96 => ?_
        refine wpc_region ?_
        refine q_mv (v := Value.string v69) rfl ?_
        refine q_as (v := Value.string v69) rfl ?_
        refine q_as (v := Value.int .i64 0) rfl ?_
        refine wpq_nil ?_
        refine hK96 _ _ _ ?_
        refine wpc_ret ?_
        cases H
        exact ⟨.inr rfl, rfl, _, ⟨_, _, rfl, rfl, ⟨_, _, rfl, rfl, rfl⟩⟩, _, (Gh.le_trans (Gh.le_trans hG10 hG32) hG71), hI73, rfl⟩
set_option maxHeartbeats 1000000 in
theorem formeref08_Part_spec {a1 : ByteArray} {a2 : Int} {a3 : Int} {a4 : Bool} {r1038 : ByteArray} {G : Gh} {L : List Itm} {w : World} (hI : Hp G (L) w) (H : formeref08_Part a1 a2 a3 a4 = some r1038) :
    Calls Tryd.prog 29 [Value.string a1, Value.int .i64 a2, Value.int .i64 a3, Value.bool a4].toArray w fun e w' => ∃ (G' : Gh), G ≤ G' ∧ Hp G' (L) w' ∧ e = .returned (Value.string r1038) := by
  refine calls_intro (N := 30) Tryd.func29 rfl rfl (Nat.le_of_ble_eq_true rfl) ?_
  unfold formeref08_Part at H
  refine wpc_seq_k fun K5 hK6 => ?_
  refine wpc_region ?_
  refine q_as (v := Value.string (⟨#[]⟩ : ByteArray)) rfl ?_
  refine wpq_nil ?_
  refine hK6 _ _ _ ?_
  refine wpc_seq_k fun K7 hK8 => ?_
  refine wpc_region ?_
  refine q_mv (v := Value.string a1) rfl ?_
  refine q_mv (v := Value.int .i64 a2) rfl ?_
  refine q_mv (v := Value.int .i64 a3) rfl ?_
  obtain ⟨⟨h9, h10, h11⟩, H⟩ := ite_some H
  refine q_ss (l := a2) (h := a3) so9 rfl (.inr ⟨_, rfl, rfl⟩) (.inr ⟨_, rfl, rfl⟩) h9 h10 h11 ?_
  obtain ⟨⟨y17, y18⟩, hy12, H⟩ := bind_some H
  refine q_cv (vs := [Value.string (sub a1 a2 a3)]) bo49 rfl rfl (formeref06_Shown_spec (a1 := sub a1 a2 a3) hI hy12) ?_
  rintro _ wd15 ⟨G13, hG14, hI16, rfl⟩
  refine ⟨_, rfl, ?_⟩
  refine q_mv (v := Value.tuple [Value.string y17, Value.int .i64 y18].toArray) rfl ?_
  refine q_ex (v := Value.string y17) rfl rfl ?_
  refine q_ex (v := Value.int .i64 y18) rfl rfl ?_
  refine q_as (v := Value.string y17) rfl ?_
  refine q_as (v := Value.int .i64 y18) rfl ?_
  refine wpq_nil ?_
  refine hK8 _ _ _ ?_
  refine wpc_seq_k fun K19 hK20 => ?_
  refine wpc_region ?_
  refine q_mv (v := Value.string y17) rfl ?_
  obtain ⟨⟨y26, y27⟩, hy21, H⟩ := bind_some H
  refine q_cv (vs := [Value.string y17]) bo50 rfl rfl (formeref06_Trim_spec (a1 := y17) hI16 hy21) ?_
  rintro _ wd24 ⟨G22, hG23, hI25, rfl⟩
  refine ⟨_, rfl, ?_⟩
  refine q_mv (v := Value.tuple [Value.string y26, Value.int .i64 y27].toArray) rfl ?_
  refine q_ex (v := Value.string y26) rfl rfl ?_
  refine q_ex (v := Value.int .i64 y27) rfl rfl ?_
  refine q_as (v := Value.string y26) rfl ?_
  refine q_as (v := Value.int .i64 y27) rfl ?_
  refine wpq_nil ?_
  refine hK20 _ _ _ ?_
  refine wpc_seq_k fun K28 hK29 => ?_
  refine wpc_seq_k fun K30 hK31 => ?_
  refine wpc_region ?_
  refine q_mv (v := Value.bool a4) rfl ?_
  refine wpq_nil ?_
  refine hK31 _ _ _ ?_
  by_cases h32 : a4 = true
  · replace H := ite_yes h32 H
    refine wpc_true (bval_yes h32) ?_
    refine wpc_seq_k fun K33 hK34 => ?_
    refine wpc_region ?_
    refine q_mv (v := Value.string y26) rfl ?_
    obtain ⟨h35, H⟩ := ite_some H
    refine q_str_add rfl rfl h35 ?_
    refine q_as (v := Value.string (y26 ++ (⟨#[45]⟩ : ByteArray))) rfl ?_
    refine wpq_nil ?_
    refine hK34 _ _ _ ?_
    refine wpc_ret ?_
    cases H
    exact ⟨.inr rfl, rfl, _, ⟨_, _, rfl, rfl, rfl⟩, _, (Gh.le_trans hG14 hG23), hI25, rfl⟩
  · replace H := ite_no h32 H
    refine wpc_false (bval_no h32) ?_
    refine wpc_skip ?_
    refine hK29 _ _ _ ?_
    refine wpc_seq_k fun K36 hK37 => ?_
    refine wpc_region ?_
    refine q_mv (v := Value.string y26) rfl ?_
    refine q_as (v := Value.string y26) rfl ?_
    refine wpq_nil ?_
    refine hK37 _ _ _ ?_
    refine wpc_ret ?_
    cases H
    exact ⟨.inr rfl, rfl, _, ⟨_, _, rfl, rfl, rfl⟩, _, (Gh.le_trans hG14 hG23), hI25, rfl⟩
set_option maxHeartbeats 1000000 in
theorem formeref08_Least_spec {a1 : api_Breaks} {a6 : ByteArray} {A2 : Option Addr} {c3 : Nat} {r1204 : List ByteArray} {r1211 : Int} {G : Gh} {L : List Itm} {w : World} (hI : Hp G (L) w) (hl4 : a1.Keep.length ≤ c3) (hD5 : Dat Kd.str G A2 a1.Keep) (H : formeref08_Least a1 a6 = some (r1204, r1211)) :
    Calls Tryd.prog 16 [Value.agg [Value.int .i64 a1.Before, Value.int .i64 a1.Behind, Value.slice A2 a1.Keep.length c3].toArray, Value.string a6].toArray w fun e w' => ∃ (A1205 : Option Addr) (c1206 : Nat) (G' : Gh), G ≤ G' ∧ Hp G' (tk (Value.slice A1205 r1204.length c1206) 1 9 :: L) w' ∧ r1204.length ≤ c1206 ∧ Dat Kd.str G' A1205 r1204 ∧ Own A1205 c1206 ∧ e = .returned (Value.tuple [Value.slice A1205 r1204.length c1206, Value.int .i64 r1211].toArray) := by
  refine calls_intro (N := 58) Tryd.func16 rfl rfl (Nat.le_of_ble_eq_true rfl) ?_
  unfold formeref08_Least at H
  refine wpc_seq_k fun K7 hK8 => ?_
  refine wpc_region ?_
  refine q_box hI (v := Value.agg [Value.int .i64 a1.Before, Value.int .i64 a1.Behind, Value.slice A2 a1.Keep.length c3].toArray) (vs := [Value.int .i64 a1.Before, Value.int .i64 a1.Behind, Value.slice A2 a1.Keep.length c3]) rfl rfl (fun g10 wd11 hI12 => ?_)
  refine q_as (v := Value.slice none 0 0) rfl ?_
  refine q_as (v := Value.int .i64 0) rfl ?_
  refine wpq_nil ?_
  refine hK8 _ _ _ ?_
  refine wpc_seq_k fun K13 hK14 => ?_
  refine wpc_region ?_
  refine q_ldA hI12 0 (cs := [Value.int .i64 a1.Before, Value.int .i64 a1.Behind, Value.slice A2 a1.Keep.length c3]) ag24 rfl rfl rfl rfl ?_
  refine q_mv (v := Value.string a6) rfl ?_
  obtain ⟨⟨y20, y27⟩, hy15, H⟩ := bind_some H
  refine q_cv (vs := [Value.agg [Value.int .i64 a1.Before, Value.int .i64 a1.Behind, Value.slice A2 a1.Keep.length c3].toArray, Value.string a6]) bo11 rfl rfl (formeref08_List_spec (a1 := a1) (a6 := a6) hI12 hl4 hD5 hy15) ?_
  rintro _ wd18 ⟨A21, c22, G16, hG17, hI19, hl23, hD24, ho25, rfl⟩
  refine ⟨_, rfl, ?_⟩
  refine q_mv (v := Value.tuple [Value.slice A21 y20.length c22, Value.int .i64 y27].toArray) rfl ?_
  refine q_ex (v := Value.slice A21 y20.length c22) rfl rfl ?_
  refine q_ex (v := Value.int .i64 y27) rfl rfl ?_
  refine q_as (v := Value.slice A21 y20.length c22) rfl ?_
  refine q_as (v := Value.int .i64 y27) rfl ?_
  refine wpq_nil ?_
  refine hK14 _ _ _ ?_
  refine wpc_seq_k fun K28 hK29 => ?_
  refine wpc_seq_k fun K30 hK31 => ?_
  refine wpc_region ?_
  refine q_mv (v := Value.int .i64 y27) rfl ?_
  refine q_neq rfl rfl ?_
  refine wpq_nil ?_
  refine hK31 _ _ _ ?_
  by_cases h32 : ¬ y27 = 0
  · replace H := ite_yes h32 H
    refine wpc_true (bool_yes h32) ?_
    refine wpc_seq_k fun K33 hK34 => ?_
    refine wpc_region ?_
    refine q_mv (v := Value.int .i64 y27) rfl ?_
    refine q_as (v := Value.slice none 0 0) rfl ?_
    refine q_as (v := Value.int .i64 y27) rfl ?_
    refine wpq_nil ?_
    refine hK34 _ _ _ ?_
    refine wpc_ret ?_
    have hI35 := Hp.emp hI19
    have hI37 := Hp.sub (L := tk (Value.slice none 0 0) 1 9 :: tk (Value.slice A21 y20.length c22) 2 37 :: bx g10 [Value.int .i64 a1.Before, Value.int .i64 a1.Behind, Value.slice A2 a1.Keep.length c3] 24 :: L) (L' := tk (Value.slice none 0 0) 1 9 :: L) hI35 (List.Sublist.cons_cons _ (List.Sublist.cons _ (List.Sublist.cons _ (List.Sublist.refl _))))
    cases H
    exact ⟨.inr rfl, rfl, _, ⟨_, _, rfl, rfl, ⟨_, _, rfl, rfl, rfl⟩⟩, none, 0, _, hG17, hI37, (show ([] : List ByteArray).length ≤ 0 from Nat.le_refl 0), (Dat.nil _ _ _), Own.nil, rfl⟩
  · replace H := ite_no h32 H
    refine wpc_false (bool_no h32) ?_
    refine wpc_skip ?_
    refine hK29 _ _ _ ?_
    refine wpc_seq_k fun K38 hK39 => ?_
    refine wpc_region ?_
    refine q_as (v := Value.slice none 0 0) rfl ?_
    refine wpq_nil ?_
    refine hK39 _ _ _ ?_
    refine wpc_seq_k fun K40 hK41 => ?_
    refine wpc_region ?_
    refine q_as (v := Value.int .i64 0) rfl ?_
    refine wpq_nil ?_
    refine hK41 _ _ _ ?_
    refine wpc_seq_k fun K42 hK43 => ?_
    refine wpc_seq_k fun K44 hK45 => ?_
    refine wpc_region ?_
    refine q_as (v := Value.int .i64 0) rfl ?_
    refine wpq_nil ?_
    refine hK45 _ _ _ ?_
    refine wpc_block ?_
    obtain ⟨v73, hC, H⟩ := bind_some H
    refine wpc_mono (Q := fun e r ds w => e = .exit 0 ∧ ∃ (A74 : Option Addr) (c75 : Nat) (G80 : Gh), ds = [] ∧ G16 ≤ G80 ∧ Has [(8, Value.slice A74 v73.length c75)] r ∧ Hp G80 (bx g10 [Value.int .i64 a1.Before, Value.int .i64 a1.Behind, Value.slice A2 a1.Keep.length c3] 24 :: tk (Value.slice A21 y20.length c22) 2 37 :: tk (Value.slice A74 v73.length c75) 1 9 :: L) w ∧ v73.length ≤ c75 ∧ Dat Kd.str G80 A74 v73 ∧ Own A74 c75 ∧ True) ?_ ?_
    · clear H
      have hI196 := Hp.emp hI19
      have hI198 := Hp.front hI196 1 rfl
      have hI199 := Hp.front hI198 2 rfl
      refine wpc_loop fun I hLp => ?_
      refine formeref08_Least_l72.partial_correctness a6 y20 (fun v50 v57 v58 o => ∀ (A51 : Option Addr) (c52 : Nat) (G85 : Gh) (r : Rg) (w : World), G16 ≤ G85 → Has [(1, Value.string a6), (6, Value.slice A21 y20.length c22), (8, Value.slice A51 v50.length c52), (9, Value.int .i64 v57), (10, Value.int .i64 v58)] r → Hp G85 (bx g10 [Value.int .i64 a1.Before, Value.int .i64 a1.Behind, Value.slice A2 a1.Keep.length c3] 24 :: tk (Value.slice A21 y20.length c22) 2 37 :: tk (Value.slice A51 v50.length c52) 1 9 :: L) w → v50.length ≤ c52 → Dat Kd.str G85 A51 v50 → Own A51 c52 → o = v73 → I r [] w) ?_ ([] : List ByteArray) 0 0 _ hC none 0 _ _ _ (Gh.le_refl _) ⟨rfl, rfl, rfl, rfl, rfl, trivial⟩ hI199 (show ([] : List ByteArray).length ≤ 0 from Nat.le_refl 0) (Dat.nil _ _ _) Own.nil rfl
      intro _ ih v50 v57 v58 o H A51 c52 G85 r wd87 hG86 hHas hI88 hl53 hD54 ho55 ho
      rw [ho] at H; clear ho
      rw [hHas.eq]; clear hHas
      refine hLp _ _ _ ?_
      refine wpc_seq_k fun K89 hK90 => ?_
      refine wpc_seq_k fun K91 hK92 => ?_
      refine wpc_region ?_
      refine q_mv (v := Value.int .i64 v58) rfl ?_
      refine q_mv (v := Value.slice A21 y20.length c22) rfl ?_
      refine q_len so26 rfl ?_
      refine q_leq rfl rfl ?_
      refine wpq_nil ?_
      refine hK92 _ _ _ ?_
      by_cases h93 : v58 ≤ (y20.length : Int)
      · replace H := ite_yes h93 H
        refine wpc_true (bool_yes h93) ?_
        refine wpc_skip ?_
        refine hK90 _ _ _ ?_
        refine wpc_seq_k fun K94 hK95 => ?_
        obtain ⟨⟨v96, v103⟩, hC, H⟩ := bind_some H
        refine wpc_mono (Q := fun e r ds w => e = .normal ∧ ∃ (A97 : Option Addr) (c98 : Nat) (G104 : Gh), ds = [] ∧ G85 ≤ G104 ∧ Has [(1, Value.string a6), (6, Value.slice A21 y20.length c22), (8, Value.slice A97 v96.length c98), (9, Value.int .i64 v103), (10, Value.int .i64 v58)] r ∧ Hp G104 (bx g10 [Value.int .i64 a1.Before, Value.int .i64 a1.Behind, Value.slice A2 a1.Keep.length c3] 24 :: tk (Value.slice A21 y20.length c22) 2 37 :: tk (Value.slice A97 v96.length c98) 1 9 :: L) w ∧ v96.length ≤ c98 ∧ Dat Kd.str G104 A97 v96 ∧ Own A97 c98 ∧ True) ?_ ?_
        · replace H := hC
          refine wpc_block ?_
          refine wpc_seq_k fun K109 hK110 => ?_
          refine wpc_region ?_
          refine q_mv (v := Value.string a6) rfl ?_
          refine q_lens so9 rfl ?_
          refine q_as (v := Value.int .i64 (a6.size : Int)) rfl ?_
          refine wpq_nil ?_
          refine hK110 _ _ _ ?_
          refine wpc_seq_k fun K111 hK112 => ?_
          refine wpc_region ?_
          refine q_as (v := Value.bool false) rfl ?_
          refine wpq_nil ?_
          refine hK112 _ _ _ ?_
          refine wpc_seq_k fun K113 hK114 => ?_
          refine wpc_seq_k fun K115 hK116 => ?_
          refine wpc_region ?_
          refine q_mv (v := Value.int .i64 v58) rfl ?_
          refine q_mv (v := Value.slice A21 y20.length c22) rfl ?_
          refine q_len so26 rfl ?_
          refine q_lss rfl rfl ?_
          refine wpq_nil ?_
          refine hK116 _ _ _ ?_
          by_cases h117 : v58 < (y20.length : Int)
          · replace H := ite_yes h117 H
            refine wpc_true (bool_yes h117) ?_
            refine wpc_seq_k fun K118 hK119 => ?_
            refine wpc_region ?_
            refine q_mv (v := Value.slice A21 y20.length c22) rfl ?_
            refine q_mv (v := Value.int .i64 v58) rfl ?_
            obtain ⟨⟨h120, h120'⟩, H⟩ := ite_some H
            obtain ⟨ad121, cs122, hA123, hK124, hn125, hc126⟩ := Dat.get (Dat.mono hG86 hD24) z_api_Break (v58) h120 h120'
            obtain ⟨rfl⟩ := open_api_Break hK124
            refine q_ia el26 rfl hA123 rfl h120 h120' ?_
            refine q_fa (a' := (ad121.add (Int.toNat v58 * 2)).add 0) fl37_0 rfl rfl ?_
            refine q_lf hI88 (v := Value.int .i64 ((y20.getD (Int.toNat v58) z_api_Break).At)) ag3 rfl ((Gh.le_refl _).cel _ _ (hc126 0 _ rfl)) ?_
            refine q_as (v := Value.int .i64 ((y20.getD (Int.toNat v58) z_api_Break).At)) rfl ?_
            refine wpq_nil ?_
            refine hK119 _ _ _ ?_
            refine wpc_region ?_
            refine q_mv (v := Value.slice A21 y20.length c22) rfl ?_
            refine q_mv (v := Value.int .i64 v58) rfl ?_
            obtain ⟨⟨h127, h127'⟩, H⟩ := ite_some H
            obtain ⟨ad128, cs129, hA130, hK131, hn132, hc133⟩ := Dat.get (Dat.mono hG86 hD24) z_api_Break (v58) h127 h127'
            obtain ⟨rfl⟩ := open_api_Break hK131
            refine q_ia el26 rfl hA130 rfl h127 h127' ?_
            refine q_fa (a' := (ad128.add (Int.toNat v58 * 2)).add 1) fl37_1 rfl rfl ?_
            refine q_lf hI88 (v := Value.bool ((y20.getD (Int.toNat v58) z_api_Break).Hyphen)) ag4 rfl ((Gh.le_refl _).cel _ _ (hc133 1 _ rfl)) ?_
            refine q_as (v := Value.bool ((y20.getD (Int.toNat v58) z_api_Break).Hyphen)) rfl ?_
            refine wpq_nil ?_
            refine hK114 _ _ _ ?_
            refine wpc_seq_k fun K134 hK135 => ?_
            refine wpc_region ?_
            refine q_mv (v := Value.string a6) rfl ?_
            refine q_mv (v := Value.int .i64 v57) rfl ?_
            refine q_mv (v := Value.int .i64 ((y20.getD (Int.toNat v58) z_api_Break).At)) rfl ?_
            refine q_mv (v := Value.bool ((y20.getD (Int.toNat v58) z_api_Break).Hyphen)) rfl ?_
            obtain ⟨y141, hy136, H⟩ := bind_some H
            refine q_cv (vs := [Value.string a6, Value.int .i64 v57, Value.int .i64 ((y20.getD (Int.toNat v58) z_api_Break).At), Value.bool ((y20.getD (Int.toNat v58) z_api_Break).Hyphen)]) bo29 rfl rfl (formeref08_Part_spec (a1 := a6) (a2 := v57) (a3 := (y20.getD (Int.toNat v58) z_api_Break).At) (a4 := (y20.getD (Int.toNat v58) z_api_Break).Hyphen) hI88 hy136) ?_
            rintro _ wd139 ⟨G137, hG138, hI140, rfl⟩
            refine ⟨_, rfl, ?_⟩
            refine q_as (v := Value.string y141) rfl ?_
            refine wpq_nil ?_
            refine hK135 _ _ _ ?_
            refine wpc_seq_k fun K142 hK143 => ?_
            refine wpc_seq_k fun K144 hK145 => ?_
            refine wpc_region ?_
            refine q_mv (v := Value.string y141) rfl ?_
            refine q_str_neq rfl rfl ?_
            refine wpq_nil ?_
            refine hK145 _ _ _ ?_
            by_cases h146 : ¬ y141 = (⟨#[]⟩ : ByteArray)
            · replace H := ite_yes h146 H
              refine wpc_true (bool_yes h146) ?_
              refine wpc_region ?_
              refine q_mv (v := Value.slice A51 v50.length c52) rfl ?_
              refine q_mv (v := Value.string y141) rfl ?_
              refine q_bs hI140 (vs := [(0, Value.string y141)]) (cs := [Value.string y141]) el22 ze9 rfl (by decide) rfl rfl (fun g148 wd149 hI150 => ?_)
              obtain ⟨h160, H⟩ := ite_some H
              refine q_app (xs := v50) (ys := [y141]) Kd.str hI150 3 el22 ze9 rfl rfl rfl rfl ho55 hl53 (Dat.mono hG138 hD54) (src_bx hI150 0 so22 rfl rfl) ⟨[Value.string y141], _, rfl, rfl, rfl⟩ rfl (by simp only [List.length_cons, List.length_nil]; omega) (by simp only [List.length_cons, List.length_nil]; omega) (fun A151 c152 G153 wd154 hG155 ho156 hl157 hD158 hI159 => ?_)
              refine q_as (v := Value.slice A151 (v50 ++ [y141]).length c152) rfl ?_
              refine wpq_nil ?_
              refine hK143 _ _ _ ?_
              refine wpc_region ?_
              refine q_mv (v := Value.int .i64 ((y20.getD (Int.toNat v58) z_api_Break).At)) rfl ?_
              refine q_as (v := Value.int .i64 ((y20.getD (Int.toNat v58) z_api_Break).At)) rfl ?_
              refine wpq_nil ?_
              have hI161 := Hp.front hI159 3 rfl
              have hI162 := Hp.front hI161 3 rfl
              have hI163 := Hp.front hI162 3 rfl
              have hI164 := Hp.sub (L := bx g10 [Value.int .i64 a1.Before, Value.int .i64 a1.Behind, Value.slice A2 a1.Keep.length c3] 24 :: tk (Value.slice A21 y20.length c22) 2 37 :: tk (Value.slice A151 (v50 ++ [y141]).length c152) 1 9 :: bx g148 [Value.string y141] 9 :: L) (L' := bx g10 [Value.int .i64 a1.Before, Value.int .i64 a1.Behind, Value.slice A2 a1.Keep.length c3] 24 :: tk (Value.slice A21 y20.length c22) 2 37 :: tk (Value.slice A151 (v50 ++ [y141]).length c152) 1 9 :: L) hI163 (List.Sublist.cons_cons _ (List.Sublist.cons_cons _ (List.Sublist.cons_cons _ (List.Sublist.cons _ (List.Sublist.refl _)))))
              cases H
              exact ⟨rfl, A151, c152, _, rfl, (Gh.le_trans hG138 hG155), ⟨rfl, rfl, rfl, rfl, rfl, trivial⟩, hI164, hl157, hD158, ho156, trivial⟩
            · replace H := ite_no h146 H
              refine wpc_false (bool_no h146) ?_
              refine wpc_skip ?_
              refine hK143 _ _ _ ?_
              refine wpc_region ?_
              refine q_mv (v := Value.int .i64 ((y20.getD (Int.toNat v58) z_api_Break).At)) rfl ?_
              refine q_as (v := Value.int .i64 ((y20.getD (Int.toNat v58) z_api_Break).At)) rfl ?_
              refine wpq_nil ?_
              cases H
              exact ⟨rfl, A51, c52, _, rfl, hG138, ⟨rfl, rfl, rfl, rfl, rfl, trivial⟩, hI140, hl53, (Dat.mono hG138 hD54), ho55, trivial⟩
          · replace H := ite_no h117 H
            refine wpc_false (bool_no h117) ?_
            refine wpc_skip ?_
            refine hK114 _ _ _ ?_
            refine wpc_seq_k fun K165 hK166 => ?_
            refine wpc_region ?_
            refine q_mv (v := Value.string a6) rfl ?_
            refine q_mv (v := Value.int .i64 v57) rfl ?_
            refine q_mv (v := Value.int .i64 (a6.size : Int)) rfl ?_
            refine q_mv (v := Value.bool false) rfl ?_
            obtain ⟨y172, hy167, H⟩ := bind_some H
            refine q_cv (vs := [Value.string a6, Value.int .i64 v57, Value.int .i64 (a6.size : Int), Value.bool false]) bo29 rfl rfl (formeref08_Part_spec (a1 := a6) (a2 := v57) (a3 := (a6.size : Int)) (a4 := false) hI88 hy167) ?_
            rintro _ wd170 ⟨G168, hG169, hI171, rfl⟩
            refine ⟨_, rfl, ?_⟩
            refine q_as (v := Value.string y172) rfl ?_
            refine wpq_nil ?_
            refine hK166 _ _ _ ?_
            refine wpc_seq_k fun K173 hK174 => ?_
            refine wpc_seq_k fun K175 hK176 => ?_
            refine wpc_region ?_
            refine q_mv (v := Value.string y172) rfl ?_
            refine q_str_neq rfl rfl ?_
            refine wpq_nil ?_
            refine hK176 _ _ _ ?_
            by_cases h177 : ¬ y172 = (⟨#[]⟩ : ByteArray)
            · replace H := ite_yes h177 H
              refine wpc_true (bool_yes h177) ?_
              refine wpc_region ?_
              refine q_mv (v := Value.slice A51 v50.length c52) rfl ?_
              refine q_mv (v := Value.string y172) rfl ?_
              refine q_bs hI171 (vs := [(0, Value.string y172)]) (cs := [Value.string y172]) el22 ze9 rfl (by decide) rfl rfl (fun g179 wd180 hI181 => ?_)
              obtain ⟨h191, H⟩ := ite_some H
              refine q_app (xs := v50) (ys := [y172]) Kd.str hI181 3 el22 ze9 rfl rfl rfl rfl ho55 hl53 (Dat.mono hG169 hD54) (src_bx hI181 0 so22 rfl rfl) ⟨[Value.string y172], _, rfl, rfl, rfl⟩ rfl (by simp only [List.length_cons, List.length_nil]; omega) (by simp only [List.length_cons, List.length_nil]; omega) (fun A182 c183 G184 wd185 hG186 ho187 hl188 hD189 hI190 => ?_)
              refine q_as (v := Value.slice A182 (v50 ++ [y172]).length c183) rfl ?_
              refine wpq_nil ?_
              refine hK174 _ _ _ ?_
              refine wpc_region ?_
              refine q_mv (v := Value.int .i64 (a6.size : Int)) rfl ?_
              refine q_as (v := Value.int .i64 (a6.size : Int)) rfl ?_
              refine wpq_nil ?_
              have hI192 := Hp.front hI190 3 rfl
              have hI193 := Hp.front hI192 3 rfl
              have hI194 := Hp.front hI193 3 rfl
              have hI195 := Hp.sub (L := bx g10 [Value.int .i64 a1.Before, Value.int .i64 a1.Behind, Value.slice A2 a1.Keep.length c3] 24 :: tk (Value.slice A21 y20.length c22) 2 37 :: tk (Value.slice A182 (v50 ++ [y172]).length c183) 1 9 :: bx g179 [Value.string y172] 9 :: L) (L' := bx g10 [Value.int .i64 a1.Before, Value.int .i64 a1.Behind, Value.slice A2 a1.Keep.length c3] 24 :: tk (Value.slice A21 y20.length c22) 2 37 :: tk (Value.slice A182 (v50 ++ [y172]).length c183) 1 9 :: L) hI194 (List.Sublist.cons_cons _ (List.Sublist.cons_cons _ (List.Sublist.cons_cons _ (List.Sublist.cons _ (List.Sublist.refl _)))))
              cases H
              exact ⟨rfl, A182, c183, _, rfl, (Gh.le_trans hG169 hG186), ⟨rfl, rfl, rfl, rfl, rfl, trivial⟩, hI195, hl188, hD189, ho187, trivial⟩
            · replace H := ite_no h177 H
              refine wpc_false (bool_no h177) ?_
              refine wpc_skip ?_
              refine hK174 _ _ _ ?_
              refine wpc_region ?_
              refine q_mv (v := Value.int .i64 (a6.size : Int)) rfl ?_
              refine q_as (v := Value.int .i64 (a6.size : Int)) rfl ?_
              refine wpq_nil ?_
              cases H
              exact ⟨rfl, A51, c52, _, rfl, hG169, ⟨rfl, rfl, rfl, rfl, rfl, trivial⟩, hI171, hl53, (Dat.mono hG169 hD54), ho55, trivial⟩
        · clear hC
          rintro e r ds wd106 ⟨rfl, A97, c98, G104, rfl, hG105, hHas, hI107, hl99, hD100, ho101, _⟩
          rw [hHas.eq]; clear hHas
          refine hK95 _ _ _ ?_
          refine wpc_region ?_
          refine q_mv (v := Value.int .i64 v58) rfl ?_
          refine q_add rfl rfl ?_
          refine q_as (v := Value.int .i64 (w64 (v58 + 1))) rfl ?_
          refine wpq_nil ?_
          exact ih _ _ _ _ H A97 c98 _ _ _ (Gh.le_trans hG86 hG105) ⟨rfl, rfl, rfl, rfl, rfl, trivial⟩ hI107 hl99 hD100 ho101 rfl
      · replace H := ite_no h93 H
        refine wpc_false (bool_no h93) ?_
        refine wpc_exit ?_
        cases H
        exact ⟨rfl, A51, c52, _, rfl, hG86, ⟨rfl, trivial⟩, hI88, hl53, hD54, ho55, trivial⟩
    · clear hC
      rintro e r ds wd82 ⟨rfl, A74, c75, G80, rfl, hG81, hHas, hI83, hl76, hD77, ho78, _⟩
      rw [hHas.eq]; clear hHas
      refine hK43 _ _ _ ?_
      refine wpc_seq_k fun K200 hK201 => ?_
      refine wpc_region ?_
      refine q_mv (v := Value.slice A74 v73.length c75) rfl ?_
      refine q_as (v := Value.slice A74 v73.length c75) rfl ?_
      refine q_as (v := Value.int .i64 0) rfl ?_
      refine wpq_nil ?_
      refine hK201 _ _ _ ?_
      refine wpc_ret ?_
      have hI202 := Hp.front hI83 2 rfl
      have hI203 := Hp.sub (L := tk (Value.slice A74 v73.length c75) 1 9 :: bx g10 [Value.int .i64 a1.Before, Value.int .i64 a1.Behind, Value.slice A2 a1.Keep.length c3] 24 :: tk (Value.slice A21 y20.length c22) 2 37 :: L) (L' := tk (Value.slice A74 v73.length c75) 1 9 :: L) hI202 (List.Sublist.cons_cons _ (List.Sublist.cons _ (List.Sublist.cons _ (List.Sublist.refl _))))
      cases H
      exact ⟨.inr rfl, rfl, _, ⟨_, _, rfl, rfl, ⟨_, _, rfl, rfl, rfl⟩⟩, A74, c75, _, (Gh.le_trans hG17 hG81), hI203, hl76, hD77, ho78, rfl⟩
set_option maxHeartbeats 1000000 in
theorem formelaw08_usable_spec {a1 : api_Breaks} {a6 : ByteArray} {A2 : Option Addr} {c3 : Nat} {r1042 : Bool} {G : Gh} {L : List Itm} {w : World} (hI : Hp G (L) w) (hl4 : a1.Keep.length ≤ c3) (hD5 : Dat Kd.str G A2 a1.Keep) (H : formelaw08_usable a1 a6 = some r1042) :
    Calls Tryd.prog 18 [Value.agg [Value.int .i64 a1.Before, Value.int .i64 a1.Behind, Value.slice A2 a1.Keep.length c3].toArray, Value.string a6].toArray w fun e w' => ∃ (G' : Gh), G ≤ G' ∧ Hp G' (L) w' ∧ e = .returned (Value.bool r1042) := by
  refine calls_intro (N := 16) Tryd.func18 rfl rfl (Nat.le_of_ble_eq_true rfl) ?_
  unfold formelaw08_usable at H
  refine wpc_seq_k fun K7 hK8 => ?_
  refine wpc_region ?_
  refine q_box hI (v := Value.agg [Value.int .i64 a1.Before, Value.int .i64 a1.Behind, Value.slice A2 a1.Keep.length c3].toArray) (vs := [Value.int .i64 a1.Before, Value.int .i64 a1.Behind, Value.slice A2 a1.Keep.length c3]) rfl rfl (fun g10 wd11 hI12 => ?_)
  refine q_as (v := Value.bool false) rfl ?_
  refine wpq_nil ?_
  refine hK8 _ _ _ ?_
  refine wpc_seq_k fun K13 hK14 => ?_
  refine wpc_region ?_
  refine q_mv (v := Value.string a6) rfl ?_
  refine q_lens so9 rfl ?_
  refine q_leq rfl rfl ?_
  refine q_mv (v := Value.bool (decide ((a6.size : Int) ≤ 300))) rfl ?_
  obtain ⟨v15, hC, H⟩ := bind_some H
  refine wpq_split 3 (K := fun e r ds w => e = .normal ∧ ∃ (G16 : Gh), ds = [] ∧ G ≤ G16 ∧ Has [(1, Value.string a6), (11, Value.bool v15)] r ∧ Hp G16 (bx g10 [Value.int .i64 a1.Before, Value.int .i64 a1.Behind, Value.slice A2 a1.Keep.length c3] 24 :: L) w ∧ True) ?_ ?_
  · replace H := hC
    by_cases h21 : (a6.size : Int) ≤ 300
    · replace H := ite_yes h21 H
      refine q_ldA hI12 0 (cs := [Value.int .i64 a1.Before, Value.int .i64 a1.Behind, Value.slice A2 a1.Keep.length c3]) ag24 rfl rfl rfl rfl ?_ (hw := guard_yes rfl rfl rfl (bool_yes h21))
      obtain ⟨y27, hy22, H⟩ := bind_some H
      refine q_cv (vs := [Value.agg [Value.int .i64 a1.Before, Value.int .i64 a1.Behind, Value.slice A2 a1.Keep.length c3].toArray]) bo13 rfl rfl (formeref08_Valid_spec (a1 := a1) hI12 hl4 hD5 hy22) ?_ (hw := guard_yes rfl rfl rfl (bool_yes h21))
      rintro _ wd25 ⟨G23, hG24, hI26, rfl⟩
      refine ⟨_, rfl, ?_⟩
      refine q_pick true (v := Value.bool y27) (bool_yes h21) rfl ?_
      refine wpq_nil ?_
      cases H
      exact ⟨rfl, _, rfl, hG24, ⟨rfl, rfl, trivial⟩, hI26, trivial⟩
    · replace H := ite_no h21 H
      refine wpq_no (guard_no rfl rfl rfl (bool_no h21) rfl) ?_
      refine wpq_no (guard_no rfl rfl rfl (bool_no h21) rfl) ?_
      refine q_pick false (v := Value.bool false) (bool_no h21) rfl ?_
      refine wpq_nil ?_
      cases H
      exact ⟨rfl, _, rfl, (Gh.le_refl _), ⟨rfl, rfl, trivial⟩, hI12, trivial⟩
  · clear hC
    rintro e r ds wd18 ⟨rfl, G16, rfl, hG17, hHas, hI19, _⟩
    rw [hHas.eq]; clear hHas
    refine q_mv (v := Value.bool v15) rfl ?_
    obtain ⟨v28, hC, H⟩ := bind_some H
    refine wpq_split 3 (K := fun e r ds w => e = .normal ∧ ∃ (G29 : Gh), ds = [] ∧ G16 ≤ G29 ∧ Has [(15, Value.bool v28)] r ∧ Hp G29 (bx g10 [Value.int .i64 a1.Before, Value.int .i64 a1.Behind, Value.slice A2 a1.Keep.length c3] 24 :: L) w ∧ True) ?_ ?_
    · replace H := hC
      by_cases h34 : v15 = true
      · replace H := ite_yes h34 H
        refine q_mv (v := Value.string a6) rfl ?_ (hw := guard_yes rfl rfl rfl (bval_yes h34))
        obtain ⟨y40, hy35, H⟩ := bind_some H
        refine q_cv (vs := [Value.string a6]) bo22 rfl rfl (formeref06_Valid_spec (a1 := a6) hI19 hy35) ?_ (hw := guard_yes rfl rfl rfl (bval_yes h34))
        rintro _ wd38 ⟨G36, hG37, hI39, rfl⟩
        refine ⟨_, rfl, ?_⟩
        refine q_pick true (v := Value.bool y40) (bval_yes h34) rfl ?_
        refine wpq_nil ?_
        cases H
        exact ⟨rfl, _, rfl, hG37, ⟨rfl, trivial⟩, hI39, trivial⟩
      · replace H := ite_no h34 H
        refine wpq_no (guard_no rfl rfl rfl (bval_no h34) rfl) ?_
        refine wpq_no (guard_no rfl rfl rfl (bval_no h34) rfl) ?_
        refine q_pick false (v := Value.bool false) (bval_no h34) rfl ?_
        refine wpq_nil ?_
        cases H
        exact ⟨rfl, _, rfl, (Gh.le_refl _), ⟨rfl, trivial⟩, hI19, trivial⟩
    · clear hC
      rintro e r ds wd31 ⟨rfl, G29, rfl, hG30, hHas, hI32, _⟩
      rw [hHas.eq]; clear hHas
      refine q_as (v := Value.bool v28) rfl ?_
      refine wpq_nil ?_
      refine hK14 _ _ _ ?_
      refine wpc_ret ?_
      have hI41 := Hp.sub (L := bx g10 [Value.int .i64 a1.Before, Value.int .i64 a1.Behind, Value.slice A2 a1.Keep.length c3] 24 :: L) (L' := L) hI32 (List.Sublist.cons _ (List.Sublist.refl _))
      cases H
      exact ⟨.inr rfl, rfl, _, ⟨_, _, rfl, rfl, rfl⟩, _, (Gh.le_trans hG17 hG30), hI41, rfl⟩
set_option maxHeartbeats 1000000 in
theorem text_Words_spec {a1 : ByteArray} {r1138 : Int} {r1139 : Int} {G : Gh} {L : List Itm} {w : World} (hI : Hp G (L) w) (H : text_Words a1 = some (r1138, r1139)) :
    Calls Tryd.prog 19 [Value.string a1].toArray w fun e w' => ∃ (G' : Gh), G ≤ G' ∧ Hp G' (L) w' ∧ e = .returned (Value.tuple [Value.int .i64 r1138, Value.int .i64 r1139].toArray) := by
  refine calls_intro (N := 32) Tryd.func19 rfl rfl (Nat.le_of_ble_eq_true rfl) ?_
  unfold text_Words at H
  refine wpc_seq_k fun K2 hK3 => ?_
  refine wpc_region ?_
  refine q_as (v := Value.int .i64 0) rfl ?_
  refine q_as (v := Value.int .i64 0) rfl ?_
  refine wpq_nil ?_
  refine hK3 _ _ _ ?_
  refine wpc_seq_k fun K4 hK5 => ?_
  refine wpc_seq_k fun K6 hK7 => ?_
  refine wpc_region ?_
  refine q_mv (v := Value.string a1) rfl ?_
  obtain ⟨y13, hy8, H⟩ := bind_some H
  refine q_cv (vs := [Value.string a1]) bo30 rfl rfl (text_Valid_spec (a1 := a1) hI hy8) ?_
  rintro _ wd11 ⟨G9, hG10, hI12, rfl⟩
  refine ⟨_, rfl, ?_⟩
  refine q_not rfl ?_
  refine wpq_nil ?_
  refine hK7 _ _ _ ?_
  by_cases h14 : (!y13) = true
  · replace H := ite_yes h14 H
    refine wpc_true (bval_yes h14) ?_
    refine wpc_seq_k fun K15 hK16 => ?_
    refine wpc_region ?_
    refine q_as (v := Value.int .i64 0) rfl ?_
    refine q_as (v := Value.int .i64 1) rfl ?_
    refine wpq_nil ?_
    refine hK16 _ _ _ ?_
    refine wpc_ret ?_
    cases H
    exact ⟨.inr rfl, rfl, _, ⟨_, _, rfl, rfl, ⟨_, _, rfl, rfl, rfl⟩⟩, _, hG10, hI12, rfl⟩
  · replace H := ite_no h14 H
    refine wpc_false (bval_no h14) ?_
    refine wpc_skip ?_
    refine hK5 _ _ _ ?_
    refine wpc_seq_k fun K17 hK18 => ?_
    refine wpc_region ?_
    refine q_as (v := Value.int .i64 0) rfl ?_
    refine q_as (v := Value.bool false) rfl ?_
    refine wpq_nil ?_
    refine hK18 _ _ _ ?_
    refine wpc_seq_k fun K19 hK20 => ?_
    refine wpc_seq_k fun K21 hK22 => ?_
    refine wpc_region ?_
    refine q_mv (v := Value.string a1) rfl ?_
    refine q_rgs hI12 so9 rfl (fun g24 wd25 hI26 => ?_)
    refine wpq_nil ?_
    refine hK22 _ _ _ ?_
    refine wpc_block ?_
    obtain ⟨⟨v42, v43⟩, hC, H⟩ := bind_some H
    refine wpc_mono (Q := fun e r ds w => e = .exit 0 ∧ ∃ (G44 : Gh), ds = [] ∧ G9 ≤ G44 ∧ Has [(4, Value.int .i64 v42)] r ∧ Hp G44 (ob g24 (Obj.stringIter a1 v43) :: L) w ∧ True) ?_ ?_
    · clear H
      refine wpc_loop fun I hLp => ?_
      refine text_Words_l41.partial_correctness a1 (fun v31 v32 v33 o => ∀ (G49 : Gh) (r : Rg) (w : World), G9 ≤ G49 → Has [(4, Value.int .i64 v31), (5, Value.bool v32), (12, Value.pointer (some ⟨g24, 0, none⟩))] r → Hp G49 (ob g24 (Obj.stringIter a1 v33) :: L) w → o = (v42, v43) → I r [] w) ?_ 0 false 0 _ hC _ _ _ (Gh.le_refl _) ⟨rfl, rfl, rfl, trivial⟩ hI26 rfl
      intro _ ih v31 v32 v33 o H G49 r wd51 hG50 hHas hI52 ho
      rw [ho] at H; clear ho
      rw [hHas.eq]; clear hHas
      refine hLp _ _ _ ?_
      refine wpc_seq_k fun K53 hK54 => ?_
      refine wpc_region ?_
      by_cases h55 : v33 < a1.size
      · replace H := ite_yes h55 H
        refine q_nxy hI52 0 rfl rfl h55 (fun wd56 hI57 => ?_)
        refine q_ex (v := Value.bool true) rfl rfl ?_
        refine wpq_nil ?_
        refine hK54 _ _ _ ?_
        refine wpc_seq_k fun K58 hK59 => ?_
        refine wpc_true rfl ?_
        refine wpc_skip ?_
        refine hK59 _ _ _ ?_
        refine wpc_block ?_
        refine wpc_seq_k fun K60 hK61 => ?_
        refine wpc_region ?_
        refine q_ex (v := Value.int .i32 ((Utf8.decode a1 v33).1 : Int)) rfl rfl ?_
        refine q_as (v := Value.int .i32 ((Utf8.decode a1 v33).1 : Int)) rfl ?_
        refine wpq_nil ?_
        refine hK61 _ _ _ ?_
        refine wpc_seq_k fun K62 hK63 => ?_
        refine wpc_region ?_
        refine q_mv (v := Value.int .i32 ((Utf8.decode a1 v33).1 : Int)) rfl ?_
        refine q_cvi ik21 ik5 rfl ?_
        obtain ⟨y69, hy64, H⟩ := bind_some H
        refine q_cv (vs := [Value.int .u8 (wu8 (((Utf8.decode a1 v33).1 : Int)))]) bo31 rfl rfl (text_Class_spec (a1 := wu8 (((Utf8.decode a1 v33).1 : Int))) hI57 hy64) ?_
        rintro _ wd67 ⟨G65, hG66, hI68, rfl⟩
        refine ⟨_, rfl, ?_⟩
        refine wpq_nil ?_
        refine hK63 _ _ _ ?_
        refine wpc_block ?_
        refine wpc_seq_k fun K70 hK71 => ?_
        obtain ⟨o81, hC, H⟩ := bind_some H
        refine wpc_mono (Q := fun e r ds w => match (generalizing := false) o81 with | (Sum.inl _) => e = .normal ∧ ∃ (G73 : Gh), ds = [] ∧ G65 ≤ G73 ∧ Has [(4, Value.int .i64 v31), (5, Value.bool v32), (12, Value.pointer (some ⟨g24, 0, none⟩))] r ∧ Hp G73 (ob g24 (Obj.stringIter a1 (v33 + (Utf8.decode a1 v33).2)) :: L) w ∧ True | (Sum.inr v72) => e = .exit 2 ∧ ∃ (G77 : Gh), ds = [] ∧ G65 ≤ G77 ∧ Has [(4, Value.int .i64 v31), (5, Value.bool v72), (12, Value.pointer (some ⟨g24, 0, none⟩))] r ∧ Hp G77 (ob g24 (Obj.stringIter a1 (v33 + (Utf8.decode a1 v33).2)) :: L) w ∧ True) ?_ ?_
        · replace H := hC
          refine wpc_block ?_
          refine wpc_block ?_
          refine wpc_seq_k fun K82 hK83 => ?_
          refine wpc_block ?_
          refine wpc_seq_k fun K84 hK85 => ?_
          obtain ⟨o102, hC, H⟩ := bind_some H
          refine wpc_mono (Q := fun e r ds w => match (generalizing := false) o102 with | (Sum.inl _) => e = .normal ∧ ∃ (G86 : Gh), ds = [] ∧ G65 ≤ G86 ∧ Has [(4, Value.int .i64 v31), (5, Value.bool v32), (12, Value.pointer (some ⟨g24, 0, none⟩))] r ∧ Hp G86 (ob g24 (Obj.stringIter a1 (v33 + (Utf8.decode a1 v33).2)) :: L) w ∧ True | (Sum.inr (Sum.inl _)) => e = .exit 6 ∧ ∃ (G90 : Gh), ds = [] ∧ G65 ≤ G90 ∧ Has [(4, Value.int .i64 v31), (5, Value.bool v32), (12, Value.pointer (some ⟨g24, 0, none⟩))] r ∧ Hp G90 (ob g24 (Obj.stringIter a1 (v33 + (Utf8.decode a1 v33).2)) :: L) w ∧ True | (Sum.inr (Sum.inr (Sum.inl _))) => e = .exit 5 ∧ ∃ (G94 : Gh), ds = [] ∧ G65 ≤ G94 ∧ Has [(4, Value.int .i64 v31), (5, Value.bool v32), (12, Value.pointer (some ⟨g24, 0, none⟩))] r ∧ Hp G94 (ob g24 (Obj.stringIter a1 (v33 + (Utf8.decode a1 v33).2)) :: L) w ∧ True | (Sum.inr (Sum.inr (Sum.inr _))) => e = .exit 4 ∧ ∃ (G98 : Gh), ds = [] ∧ G65 ≤ G98 ∧ Has [(4, Value.int .i64 v31), (12, Value.pointer (some ⟨g24, 0, none⟩))] r ∧ Hp G98 (ob g24 (Obj.stringIter a1 (v33 + (Utf8.decode a1 v33).2)) :: L) w ∧ True) ?_ ?_
          · replace H := hC
            refine wpc_block ?_
            refine wpc_seq_k fun K103 hK104 => ?_
            refine wpc_seq_k fun K105 hK106 => ?_
            refine wpc_seq_k fun K107 hK108 => ?_
            refine wpc_region ?_
            refine q_eql rfl rfl ?_
            refine q_as (v := Value.bool (decide (y69 = 6))) rfl ?_
            refine wpq_nil ?_
            refine hK108 _ _ _ ?_
            by_cases h109 : y69 = 6
            · replace H := ite_yes h109 H
              refine wpc_true (bool_yes h109) ?_
              refine wpc_exit ?_
              cases H
              exact ⟨rfl, _, rfl, (Gh.le_refl _), ⟨rfl, rfl, rfl, trivial⟩, hI68, trivial⟩
            · replace H := ite_no h109 H
              refine wpc_false (bool_no h109) ?_
              refine wpc_skip ?_
              refine hK106 _ _ _ ?_
              refine wpc_seq_k fun K110 hK111 => ?_
              refine wpc_seq_k fun K112 hK113 => ?_
              refine wpc_region ?_
              refine q_eql rfl rfl ?_
              refine q_as (v := Value.bool (decide (y69 = 4))) rfl ?_
              refine wpq_nil ?_
              refine hK113 _ _ _ ?_
              by_cases h114 : y69 = 4
              · replace H := ite_yes h114 H
                refine wpc_true (bool_yes h114) ?_
                refine wpc_exit ?_
                cases H
                exact ⟨rfl, _, rfl, (Gh.le_refl _), ⟨rfl, rfl, trivial⟩, hI68, trivial⟩
              · replace H := ite_no h114 H
                refine wpc_false (bool_no h114) ?_
                refine wpc_skip ?_
                refine hK111 _ _ _ ?_
                refine wpc_seq_k fun K115 hK116 => ?_
                refine wpc_seq_k fun K117 hK118 => ?_
                refine wpc_region ?_
                refine q_eql rfl rfl ?_
                refine q_as (v := Value.bool (decide (y69 = 1))) rfl ?_
                refine wpq_nil ?_
                refine hK118 _ _ _ ?_
                by_cases h119 : y69 = 1
                · replace H := ite_yes h119 H
                  refine wpc_true (bool_yes h119) ?_
                  refine wpc_skip ?_
                  refine hK116 _ _ _ ?_
                  refine wpc_true (bool_yes h119) ?_
                  refine wpc_exit ?_
                  cases H
                  exact ⟨rfl, _, rfl, (Gh.le_refl _), ⟨rfl, rfl, rfl, trivial⟩, hI68, trivial⟩
                · replace H := ite_no h119 H
                  refine wpc_false (bool_no h119) ?_
                  refine wpc_seq_k fun K120 hK121 => ?_
                  refine wpc_region ?_
                  refine q_eql rfl rfl ?_
                  refine q_as (v := Value.bool (decide (y69 = 2))) rfl ?_
                  refine wpq_nil ?_
                  refine hK121 _ _ _ ?_
                  by_cases h122 : y69 = 2
                  · replace H := ite_yes h122 H
                    refine wpc_true (bool_yes h122) ?_
                    refine wpc_skip ?_
                    refine hK116 _ _ _ ?_
                    refine wpc_true (bool_yes h122) ?_
                    refine wpc_exit ?_
                    cases H
                    exact ⟨rfl, _, rfl, (Gh.le_refl _), ⟨rfl, rfl, rfl, trivial⟩, hI68, trivial⟩
                  · replace H := ite_no h122 H
                    refine wpc_false (bool_no h122) ?_
                    refine wpc_region ?_
                    refine q_eql rfl rfl ?_
                    refine q_as (v := Value.bool (decide (y69 = 3))) rfl ?_
                    refine wpq_nil ?_
                    refine hK116 _ _ _ ?_
                    by_cases h123 : y69 = 3
                    · replace H := ite_yes h123 H
                      refine wpc_true (bool_yes h123) ?_
                      refine wpc_exit ?_
                      cases H
                      exact ⟨rfl, _, rfl, (Gh.le_refl _), ⟨rfl, rfl, rfl, trivial⟩, hI68, trivial⟩
                    · replace H := ite_no h123 H
                      refine wpc_false (bool_no h123) ?_
                      refine wpc_skip ?_
                      refine hK104 _ _ _ ?_
                      refine wpc_exit ?_
                      cases H
                      exact ⟨rfl, _, rfl, (Gh.le_refl _), ⟨rfl, rfl, rfl, trivial⟩, hI68, trivial⟩
          · clear hC
            rcases o102 with _ | _ | _ | _
            · rintro e r ds wd88 ⟨rfl, G86, rfl, hG87, hHas, hI89, _⟩
              rw [hHas.eq]; clear hHas
              refine hK85 _ _ _ ?_
              refine wpc_exit ?_
              cases H
              exact ⟨rfl, _, rfl, hG87, ⟨rfl, rfl, rfl, trivial⟩, hI89, trivial⟩
            · rintro e r ds wd92 ⟨rfl, G90, rfl, hG91, hHas, hI93, _⟩
              rw [hHas.eq]; clear hHas
              cases H
              exact ⟨rfl, _, rfl, hG91, ⟨rfl, rfl, rfl, trivial⟩, hI93, trivial⟩
            · rintro e r ds wd96 ⟨rfl, G94, rfl, hG95, hHas, hI97, _⟩
              rw [hHas.eq]; clear hHas
              cases H
              exact ⟨rfl, _, rfl, hG95, ⟨rfl, rfl, rfl, trivial⟩, hI97, trivial⟩
            · rintro e r ds wd100 ⟨rfl, G98, rfl, hG99, hHas, hI101, _⟩
              rw [hHas.eq]; clear hHas
              refine hK83 _ _ _ ?_
              refine wpc_seq_k fun K124 hK125 => ?_
              refine wpc_region ?_
              refine q_as (v := Value.bool false) rfl ?_
              refine wpq_nil ?_
              refine hK125 _ _ _ ?_
              refine wpc_exit ?_
              cases H
              exact ⟨rfl, _, rfl, hG99, ⟨rfl, rfl, rfl, trivial⟩, hI101, trivial⟩
        · clear hC
          rcases o81 with _ | v72
          · rintro e r ds wd75 ⟨rfl, G73, rfl, hG74, hHas, hI76, _⟩
            rw [hHas.eq]; clear hHas
            refine hK71 _ _ _ ?_
            refine wpc_seq_k fun K126 hK127 => ?_
            refine wpc_seq_k fun K128 hK129 => ?_
            refine wpc_seq_k fun K130 hK131 => ?_
            refine wpc_region ?_
            refine q_mv (v := Value.bool v32) rfl ?_
            refine q_not rfl ?_
            refine wpq_nil ?_
            refine hK131 _ _ _ ?_
            by_cases h132 : (!v32) = true
            · replace H := ite_yes h132 H
              refine wpc_true (bval_yes h132) ?_
              refine wpc_region ?_
              refine q_mv (v := Value.int .i64 v31) rfl ?_
              refine q_add rfl rfl ?_
              refine q_as (v := Value.int .i64 (w64 (v31 + 1))) rfl ?_
              refine wpq_nil ?_
              refine hK129 _ _ _ ?_
              refine wpc_region ?_
              refine q_as (v := Value.bool true) rfl ?_
              refine wpq_nil ?_
              refine hK127 _ _ _ ?_
              refine wpc_exit ?_
              exact ih _ _ _ _ H _ _ _ (Gh.le_trans (Gh.le_trans hG50 hG66) hG74) ⟨rfl, rfl, rfl, trivial⟩ hI76 rfl
            · replace H := ite_no h132 H
              refine wpc_false (bval_no h132) ?_
              refine wpc_skip ?_
              refine hK129 _ _ _ ?_
              refine wpc_region ?_
              refine q_as (v := Value.bool true) rfl ?_
              refine wpq_nil ?_
              refine hK127 _ _ _ ?_
              refine wpc_exit ?_
              exact ih _ _ _ _ H _ _ _ (Gh.le_trans (Gh.le_trans hG50 hG66) hG74) ⟨rfl, rfl, rfl, trivial⟩ hI76 rfl
          · rintro e r ds wd79 ⟨rfl, G77, rfl, hG78, hHas, hI80, _⟩
            rw [hHas.eq]; clear hHas
            exact ih _ _ _ _ H _ _ _ (Gh.le_trans (Gh.le_trans hG50 hG66) hG78) ⟨rfl, rfl, rfl, trivial⟩ hI80 rfl
      · replace H := ite_no h55 H
        refine q_nxn hI52 0 rfl rfl h55 ?_
        refine q_ex (v := Value.bool false) rfl rfl ?_
        refine wpq_nil ?_
        refine hK54 _ _ _ ?_
        refine wpc_seq_k fun K133 hK134 => ?_
        refine wpc_false rfl ?_
        refine wpc_exit ?_
        cases H
        exact ⟨rfl, _, rfl, hG50, ⟨rfl, trivial⟩, hI52, trivial⟩
    · clear hC
      rintro e r ds wd46 ⟨rfl, G44, rfl, hG45, hHas, hI47, _⟩
      rw [hHas.eq]; clear hHas
      refine hK20 _ _ _ ?_
      refine wpc_seq_k fun K135 hK136 => ?_
      refine wpc_region ?_
      refine q_mv (v := Value.int .i64 v42) rfl ?_
      refine q_as (v := Value.int .i64 v42) rfl ?_
      refine q_as (v := Value.int .i64 0) rfl ?_
      refine wpq_nil ?_
      refine hK136 _ _ _ ?_
      refine wpc_ret ?_
      have hI137 := Hp.sub (L := ob g24 (Obj.stringIter a1 v43) :: L) (L' := L) hI47 (List.Sublist.cons _ (List.Sublist.refl _))
      cases H
      exact ⟨.inr rfl, rfl, _, ⟨_, _, rfl, rfl, ⟨_, _, rfl, rfl, rfl⟩⟩, _, (Gh.le_trans hG10 hG45), hI137, rfl⟩
end Go.Proofs.YtiahgcidgbalkaaDoor.LG
