/-
  The walks: each function computes its plain function: printed by a program out of the translation.
-/
import Derived.Test.YtiahgcidgbalkaaDoorSc
set_option linter.unusedVariables false
set_option linter.unusedSimpArgs false
set_option maxRecDepth 100000
namespace Go.Proofs.YtiahgcidgbalkaaDoor.LG
open Go Go.LG Go.RowKit
open Go.Lib Go.Shelf Go.Proofs
set_option maxHeartbeats 1000000 in
theorem formelaw08_BreaksPlaces_spec {a1 : api_Breaks} {a6 : ByteArray} {A2 : Option Addr} {c3 : Nat} {r1170 : Bool} {G : Gh} {L : List Itm} {w : World} (hI : Hp G (L) w) (hl4 : a1.Keep.length ≤ c3) (hD5 : Dat Kd.str G A2 a1.Keep) (hgl : Gl G) (H : formelaw08_BreaksPlaces a1 a6 = some r1170) :
    Calls Tryd.prog 4 [Value.agg [Value.int .i64 a1.Before, Value.int .i64 a1.Behind, Value.slice A2 a1.Keep.length c3].toArray, Value.string a6].toArray w fun e w' => ∃ (G' : Gh), G ≤ G' ∧ Hp G' (L) w' ∧ e = .returned (Value.bool r1170) := by
  refine calls_intro (N := 80) Tryd.func4 rfl rfl (Nat.le_of_ble_eq_true rfl) ?_
  unfold formelaw08_BreaksPlaces at H
  refine wpc_seq_k fun K7 hK8 => ?_
  refine wpc_region ?_
  refine q_box hI (v := Value.agg [Value.int .i64 a1.Before, Value.int .i64 a1.Behind, Value.slice A2 a1.Keep.length c3].toArray) (vs := [Value.int .i64 a1.Before, Value.int .i64 a1.Behind, Value.slice A2 a1.Keep.length c3]) rfl rfl (fun g10 wd11 hI12 => ?_)
  refine q_as (v := Value.bool false) rfl ?_
  refine wpq_nil ?_
  refine hK8 _ _ _ ?_
  refine wpc_seq_k fun K13 hK14 => ?_
  refine wpc_region ?_
  obtain ⟨y20, hy15, H⟩ := bind_some H
  refine q_cv (vs := []) bo9 rfl rfl (formelaw08_head_spec hI12 (hgl.mono (Gh.le_refl _)) hy15) ?_
  rintro _ wd18 ⟨G16, hG17, hI19, rfl⟩
  refine ⟨_, rfl, ?_⟩
  refine q_as (v := Value.bool y20) rfl ?_
  refine wpq_nil ?_
  refine hK14 _ _ _ ?_
  refine wpc_seq_k fun K21 hK22 => ?_
  refine wpc_seq_k fun K23 hK24 => ?_
  refine wpc_region ?_
  refine q_ldA hI19 0 (cs := [Value.int .i64 a1.Before, Value.int .i64 a1.Behind, Value.slice A2 a1.Keep.length c3]) ag24 rfl rfl rfl rfl ?_
  refine q_mv (v := Value.string a6) rfl ?_
  obtain ⟨y30, hy25, H⟩ := bind_some H
  refine q_cv (vs := [Value.agg [Value.int .i64 a1.Before, Value.int .i64 a1.Behind, Value.slice A2 a1.Keep.length c3].toArray, Value.string a6]) bo18 rfl rfl (formelaw08_usable_spec (a1 := a1) (a6 := a6) hI19 hl4 (Dat.mono hG17 hD5) hy25) ?_
  rintro _ wd28 ⟨G26, hG27, hI29, rfl⟩
  refine ⟨_, rfl, ?_⟩
  refine q_not rfl ?_
  refine wpq_nil ?_
  refine hK24 _ _ _ ?_
  by_cases h31 : (!y30) = true
  · replace H := ite_yes h31 H
    refine wpc_true (bval_yes h31) ?_
    refine wpc_seq_k fun K32 hK33 => ?_
    refine wpc_region ?_
    refine q_mv (v := Value.bool y20) rfl ?_
    refine q_as (v := Value.bool y20) rfl ?_
    refine wpq_nil ?_
    refine hK33 _ _ _ ?_
    refine wpc_ret ?_
    have hI34 := Hp.sub (L := bx g10 [Value.int .i64 a1.Before, Value.int .i64 a1.Behind, Value.slice A2 a1.Keep.length c3] 24 :: L) (L' := L) hI29 (List.Sublist.cons _ (List.Sublist.refl _))
    cases H
    exact ⟨.inr rfl, rfl, _, ⟨_, _, rfl, rfl, rfl⟩, _, (Gh.le_trans hG17 hG27), hI34, rfl⟩
  · replace H := ite_no h31 H
    refine wpc_false (bval_no h31) ?_
    refine wpc_skip ?_
    refine hK22 _ _ _ ?_
    refine wpc_seq_k fun K35 hK36 => ?_
    refine wpc_region ?_
    refine q_ldA hI29 0 (cs := [Value.int .i64 a1.Before, Value.int .i64 a1.Behind, Value.slice A2 a1.Keep.length c3]) ag24 rfl rfl rfl rfl ?_
    refine q_mv (v := Value.string a6) rfl ?_
    obtain ⟨⟨y42, y49⟩, hy37, H⟩ := bind_some H
    refine q_cv (vs := [Value.agg [Value.int .i64 a1.Before, Value.int .i64 a1.Behind, Value.slice A2 a1.Keep.length c3].toArray, Value.string a6]) bo10 rfl rfl (breaks_List_spec (a1 := a1) (a6 := a6) hI29 hl4 (Dat.mono (Gh.le_trans hG17 hG27) hD5) hy37) ?_
    rintro _ wd40 ⟨A43, c44, G38, hG39, hI41, hl45, hD46, ho47, rfl⟩
    refine ⟨_, rfl, ?_⟩
    refine q_mv (v := Value.tuple [Value.slice A43 y42.length c44, Value.int .i64 y49].toArray) rfl ?_
    refine q_ex (v := Value.slice A43 y42.length c44) rfl rfl ?_
    refine q_ex (v := Value.int .i64 y49) rfl rfl ?_
    refine q_as (v := Value.slice A43 y42.length c44) rfl ?_
    refine q_as (v := Value.int .i64 y49) rfl ?_
    refine wpq_nil ?_
    refine hK36 _ _ _ ?_
    refine wpc_seq_k fun K50 hK51 => ?_
    refine wpc_region ?_
    refine q_as (v := Value.int .i64 0) rfl ?_
    refine wpq_nil ?_
    refine hK51 _ _ _ ?_
    refine wpc_seq_k fun K52 hK53 => ?_
    refine wpc_seq_k fun K54 hK55 => ?_
    refine wpc_region ?_
    refine q_as (v := Value.int .i64 0) rfl ?_
    refine wpq_nil ?_
    refine hK55 _ _ _ ?_
    refine wpc_block ?_
    obtain ⟨o77, hC, H⟩ := bind_some H
    refine wpc_mono (Q := fun e r ds w => match (generalizing := false) o77 with | (Sum.inl _) => e = .ret ∧ ∃ (G69 : Gh), ds = [] ∧ G38 ≤ G69 ∧ Has [(4, Value.bool false)] r ∧ Hp G69 (bx g10 [Value.int .i64 a1.Before, Value.int .i64 a1.Behind, Value.slice A2 a1.Keep.length c3] 24 :: tk (Value.slice A43 y42.length c44) 2 37 :: L) w ∧ True | (Sum.inr _) => e = .exit 0 ∧ ∃ (G73 : Gh), ds = [] ∧ G38 ≤ G73 ∧ Has [(5, Value.bool y20), (7, Value.int .i64 y49)] r ∧ Hp G73 (bx g10 [Value.int .i64 a1.Before, Value.int .i64 a1.Behind, Value.slice A2 a1.Keep.length c3] 24 :: tk (Value.slice A43 y42.length c44) 2 37 :: L) w ∧ True) ?_ ?_
    · clear H
      have hI158 := Hp.front hI41 1 rfl
      refine wpc_loop fun I hLp => ?_
      refine formelaw08_BreaksPlaces_l68.partial_correctness a6 y42 (fun v60 v61 o => ∀ (G78 : Gh) (r : Rg) (w : World), G38 ≤ G78 → Has [(1, Value.string a6), (5, Value.bool y20), (6, Value.slice A43 y42.length c44), (7, Value.int .i64 y49), (8, Value.int .i64 v60), (9, Value.int .i64 v61)] r → Hp G78 (bx g10 [Value.int .i64 a1.Before, Value.int .i64 a1.Behind, Value.slice A2 a1.Keep.length c3] 24 :: tk (Value.slice A43 y42.length c44) 2 37 :: L) w → o = o77 → I r [] w) ?_ 0 0 _ hC _ _ _ (Gh.le_refl _) ⟨rfl, rfl, rfl, rfl, rfl, rfl, trivial⟩ hI158 rfl
      intro _ ih v60 v61 o H G78 r wd80 hG79 hHas hI81 ho
      rw [ho] at H; clear ho
      rw [hHas.eq]; clear hHas
      refine hLp _ _ _ ?_
      refine wpc_seq_k fun K82 hK83 => ?_
      refine wpc_seq_k fun K84 hK85 => ?_
      refine wpc_region ?_
      refine q_mv (v := Value.int .i64 v61) rfl ?_
      refine q_mv (v := Value.slice A43 y42.length c44) rfl ?_
      refine q_len so26 rfl ?_
      refine q_lss rfl rfl ?_
      refine wpq_nil ?_
      refine hK85 _ _ _ ?_
      by_cases h86 : v61 < (y42.length : Int)
      · replace H := ite_yes h86 H
        refine wpc_true (bool_yes h86) ?_
        refine wpc_skip ?_
        refine hK83 _ _ _ ?_
        refine wpc_seq_k fun K87 hK88 => ?_
        refine wpc_block ?_
        refine wpc_seq_k fun K89 hK90 => ?_
        refine wpc_region ?_
        refine q_mv (v := Value.slice A43 y42.length c44) rfl ?_
        refine q_mv (v := Value.int .i64 v61) rfl ?_
        obtain ⟨⟨h91, h91'⟩, H⟩ := ite_some H
        obtain ⟨ad92, cs93, hA94, hK95, hn96, hc97⟩ := Dat.get (Dat.mono hG79 hD46) z_api_Break (v61) h91 h91'
        obtain ⟨rfl⟩ := open_api_Break hK95
        refine q_ia el26 rfl hA94 rfl h91 h91' ?_
        refine q_fa (a' := (ad92.add (Int.toNat v61 * 2)).add 0) fl37_0 rfl rfl ?_
        refine q_lf hI81 (v := Value.int .i64 ((y42.getD (Int.toNat v61) z_api_Break).At)) ag3 rfl ((Gh.le_refl _).cel _ _ (hc97 0 _ rfl)) ?_
        refine q_as (v := Value.int .i64 ((y42.getD (Int.toNat v61) z_api_Break).At)) rfl ?_
        refine wpq_nil ?_
        refine hK90 _ _ _ ?_
        refine wpc_seq_k fun K98 hK99 => ?_
        refine wpc_seq_k fun K100 hK101 => ?_
        refine wpc_region ?_
        refine q_mv (v := Value.int .i64 ((y42.getD (Int.toNat v61) z_api_Break).At)) rfl ?_
        refine q_mv (v := Value.int .i64 v60) rfl ?_
        refine q_leq rfl rfl ?_
        refine q_mv (v := Value.bool (decide (((y42.getD (Int.toNat v61) z_api_Break).At) ≤ v60))) rfl ?_
        obtain ⟨v102, hC, H⟩ := bind_some H
        refine wpq_split 5 (K := fun e r ds w => e = .normal ∧ ∃ (G103 : Gh), ds = [] ∧ G78 ≤ G103 ∧ Has [(1, Value.string a6), (5, Value.bool y20), (6, Value.slice A43 y42.length c44), (7, Value.int .i64 y49), (9, Value.int .i64 v61), (10, Value.int .i64 ((y42.getD (Int.toNat v61) z_api_Break).At)), (43, Value.bool v102)] r ∧ Hp G103 (bx g10 [Value.int .i64 a1.Before, Value.int .i64 a1.Behind, Value.slice A2 a1.Keep.length c3] 24 :: tk (Value.slice A43 y42.length c44) 2 37 :: L) w ∧ True) ?_ ?_
        · replace H := hC
          by_cases h108 : ((y42.getD (Int.toNat v61) z_api_Break).At) ≤ v60
          · replace H := ite_yes h108 H
            refine wpq_no (guard_no rfl rfl rfl (bool_yes h108) rfl) ?_
            refine wpq_no (guard_no rfl rfl rfl (bool_yes h108) rfl) ?_
            refine wpq_no (guard_no rfl rfl rfl (bool_yes h108) rfl) ?_
            refine wpq_no (guard_no rfl rfl rfl (bool_yes h108) rfl) ?_
            refine q_pick true (v := Value.bool true) (bool_yes h108) rfl ?_
            refine wpq_nil ?_
            cases H
            exact ⟨rfl, _, rfl, (Gh.le_refl _), ⟨rfl, rfl, rfl, rfl, rfl, rfl, rfl, trivial⟩, hI81, trivial⟩
          · replace H := ite_no h108 H
            refine q_mv (v := Value.int .i64 ((y42.getD (Int.toNat v61) z_api_Break).At)) rfl ?_ (hw := guard_yes rfl rfl rfl (bool_no h108))
            refine q_mv (v := Value.string a6) rfl ?_ (hw := guard_yes rfl rfl rfl (bool_no h108))
            refine q_lens so9 rfl ?_ (hw := guard_yes rfl rfl rfl (bool_no h108))
            refine q_geq rfl rfl ?_ (hw := guard_yes rfl rfl rfl (bool_no h108))
            refine q_pick false (v := Value.bool (decide ((a6.size : Int) ≤ ((y42.getD (Int.toNat v61) z_api_Break).At)))) (bool_no h108) rfl ?_
            refine wpq_nil ?_
            cases H
            exact ⟨rfl, _, rfl, (Gh.le_refl _), ⟨rfl, rfl, rfl, rfl, rfl, rfl, rfl, trivial⟩, hI81, trivial⟩
        · clear hC
          rintro e r ds wd105 ⟨rfl, G103, rfl, hG104, hHas, hI106, _⟩
          rw [hHas.eq]; clear hHas
          refine wpq_nil ?_
          refine hK101 _ _ _ ?_
          by_cases h109 : v102 = true
          · replace H := ite_yes h109 H
            refine wpc_true (bval_yes h109) ?_
            refine wpc_seq_k fun K110 hK111 => ?_
            refine wpc_region ?_
            refine q_as (v := Value.bool false) rfl ?_
            refine wpq_nil ?_
            refine hK111 _ _ _ ?_
            refine wpc_ret ?_
            cases H
            exact ⟨rfl, _, rfl, (Gh.le_trans hG79 hG104), ⟨rfl, trivial⟩, hI106, trivial⟩
          · replace H := ite_no h109 H
            refine wpc_false (bval_no h109) ?_
            refine wpc_skip ?_
            refine hK99 _ _ _ ?_
            refine wpc_seq_k fun K112 hK113 => ?_
            refine wpc_region ?_
            refine q_mv (v := Value.string a6) rfl ?_
            refine q_mv (v := Value.int .i64 ((y42.getD (Int.toNat v61) z_api_Break).At)) rfl ?_
            refine q_sub rfl rfl ?_
            obtain ⟨⟨h114, h114'⟩, H⟩ := ite_some H
            refine q_is so9 rfl rfl h114 h114' rfl ?_
            refine q_as (v := Value.int .u8 (bt a6 (w64 (((y42.getD (Int.toNat v61) z_api_Break).At) - 1)))) rfl ?_
            refine wpq_nil ?_
            refine hK113 _ _ _ ?_
            refine wpc_seq_k fun K115 hK116 => ?_
            refine wpc_seq_k fun K117 hK118 => ?_
            refine wpc_region ?_
            refine q_mv (v := Value.int .u8 (bt a6 (w64 (((y42.getD (Int.toNat v61) z_api_Break).At) - 1)))) rfl ?_
            refine q_neq rfl rfl ?_
            refine q_mv (v := Value.bool (decide (¬ (bt a6 (w64 (((y42.getD (Int.toNat v61) z_api_Break).At) - 1))) = 32))) rfl ?_
            obtain ⟨v119, hC, H⟩ := bind_some H
            refine wpq_split 3 (K := fun e r ds w => e = .normal ∧ ∃ (G120 : Gh), ds = [] ∧ G103 ≤ G120 ∧ Has [(1, Value.string a6), (5, Value.bool y20), (6, Value.slice A43 y42.length c44), (7, Value.int .i64 y49), (9, Value.int .i64 v61), (10, Value.int .i64 ((y42.getD (Int.toNat v61) z_api_Break).At)), (11, Value.int .u8 (bt a6 (w64 (((y42.getD (Int.toNat v61) z_api_Break).At) - 1)))), (53, Value.bool v119)] r ∧ Hp G120 (bx g10 [Value.int .i64 a1.Before, Value.int .i64 a1.Behind, Value.slice A2 a1.Keep.length c3] 24 :: tk (Value.slice A43 y42.length c44) 2 37 :: L) w ∧ True) ?_ ?_
            · replace H := hC
              by_cases h125 : ¬ (bt a6 (w64 (((y42.getD (Int.toNat v61) z_api_Break).At) - 1))) = 32
              · replace H := ite_yes h125 H
                refine q_mv (v := Value.int .u8 (bt a6 (w64 (((y42.getD (Int.toNat v61) z_api_Break).At) - 1)))) rfl ?_ (hw := guard_yes rfl rfl rfl (bool_yes h125))
                refine q_neq rfl rfl ?_ (hw := guard_yes rfl rfl rfl (bool_yes h125))
                refine q_pick true (v := Value.bool (decide (¬ (bt a6 (w64 (((y42.getD (Int.toNat v61) z_api_Break).At) - 1))) = 45))) (bool_yes h125) rfl ?_
                refine wpq_nil ?_
                cases H
                exact ⟨rfl, _, rfl, (Gh.le_refl _), ⟨rfl, rfl, rfl, rfl, rfl, rfl, rfl, rfl, trivial⟩, hI106, trivial⟩
              · replace H := ite_no h125 H
                refine wpq_no (guard_no rfl rfl rfl (bool_no h125) rfl) ?_
                refine wpq_no (guard_no rfl rfl rfl (bool_no h125) rfl) ?_
                refine q_pick false (v := Value.bool false) (bool_no h125) rfl ?_
                refine wpq_nil ?_
                cases H
                exact ⟨rfl, _, rfl, (Gh.le_refl _), ⟨rfl, rfl, rfl, rfl, rfl, rfl, rfl, rfl, trivial⟩, hI106, trivial⟩
            · clear hC
              rintro e r ds wd122 ⟨rfl, G120, rfl, hG121, hHas, hI123, _⟩
              rw [hHas.eq]; clear hHas
              refine q_mv (v := Value.bool v119) rfl ?_
              obtain ⟨v126, hC, H⟩ := bind_some H
              refine wpq_split 3 (K := fun e r ds w => e = .normal ∧ ∃ (G127 : Gh), ds = [] ∧ G120 ≤ G127 ∧ Has [(1, Value.string a6), (5, Value.bool y20), (6, Value.slice A43 y42.length c44), (7, Value.int .i64 y49), (9, Value.int .i64 v61), (10, Value.int .i64 ((y42.getD (Int.toNat v61) z_api_Break).At)), (11, Value.int .u8 (bt a6 (w64 (((y42.getD (Int.toNat v61) z_api_Break).At) - 1)))), (57, Value.bool v126)] r ∧ Hp G127 (bx g10 [Value.int .i64 a1.Before, Value.int .i64 a1.Behind, Value.slice A2 a1.Keep.length c3] 24 :: tk (Value.slice A43 y42.length c44) 2 37 :: L) w ∧ True) ?_ ?_
              · replace H := hC
                by_cases h132 : v119 = true
                · replace H := ite_yes h132 H
                  refine q_mv (v := Value.int .u8 (bt a6 (w64 (((y42.getD (Int.toNat v61) z_api_Break).At) - 1)))) rfl ?_ (hw := guard_yes rfl rfl rfl (bval_yes h132))
                  refine q_neq rfl rfl ?_ (hw := guard_yes rfl rfl rfl (bval_yes h132))
                  refine q_pick true (v := Value.bool (decide (¬ (bt a6 (w64 (((y42.getD (Int.toNat v61) z_api_Break).At) - 1))) = 126))) (bval_yes h132) rfl ?_
                  refine wpq_nil ?_
                  cases H
                  exact ⟨rfl, _, rfl, (Gh.le_refl _), ⟨rfl, rfl, rfl, rfl, rfl, rfl, rfl, rfl, trivial⟩, hI123, trivial⟩
                · replace H := ite_no h132 H
                  refine wpq_no (guard_no rfl rfl rfl (bval_no h132) rfl) ?_
                  refine wpq_no (guard_no rfl rfl rfl (bval_no h132) rfl) ?_
                  refine q_pick false (v := Value.bool false) (bval_no h132) rfl ?_
                  refine wpq_nil ?_
                  cases H
                  exact ⟨rfl, _, rfl, (Gh.le_refl _), ⟨rfl, rfl, rfl, rfl, rfl, rfl, rfl, rfl, trivial⟩, hI123, trivial⟩
              · clear hC
                rintro e r ds wd129 ⟨rfl, G127, rfl, hG128, hHas, hI130, _⟩
                rw [hHas.eq]; clear hHas
                refine q_mv (v := Value.bool v126) rfl ?_
                obtain ⟨v133, hC, H⟩ := bind_some H
                refine wpq_split 9 (K := fun e r ds w => e = .normal ∧ ∃ (G134 : Gh), ds = [] ∧ G127 ≤ G134 ∧ Has [(1, Value.string a6), (5, Value.bool y20), (6, Value.slice A43 y42.length c44), (7, Value.int .i64 y49), (9, Value.int .i64 v61), (10, Value.int .i64 ((y42.getD (Int.toNat v61) z_api_Break).At)), (67, Value.bool v133)] r ∧ Hp G134 (bx g10 [Value.int .i64 a1.Before, Value.int .i64 a1.Behind, Value.slice A2 a1.Keep.length c3] 24 :: tk (Value.slice A43 y42.length c44) 2 37 :: L) w ∧ True) ?_ ?_
                · replace H := hC
                  by_cases h139 : v126 = true
                  · replace H := ite_yes h139 H
                    refine wpq_no (guard_no rfl rfl rfl (bval_yes h139) rfl) ?_
                    refine wpq_no (guard_no rfl rfl rfl (bval_yes h139) rfl) ?_
                    refine wpq_no (guard_no rfl rfl rfl (bval_yes h139) rfl) ?_
                    refine wpq_no (guard_no rfl rfl rfl (bval_yes h139) rfl) ?_
                    refine wpq_no (guard_no rfl rfl rfl (bval_yes h139) rfl) ?_
                    refine wpq_no (guard_no rfl rfl rfl (bval_yes h139) rfl) ?_
                    refine wpq_no (guard_no rfl rfl rfl (bval_yes h139) rfl) ?_
                    refine wpq_no (guard_no rfl rfl rfl (bval_yes h139) rfl) ?_
                    refine q_pick true (v := Value.bool true) (bval_yes h139) rfl ?_
                    refine wpq_nil ?_
                    cases H
                    exact ⟨rfl, _, rfl, (Gh.le_refl _), ⟨rfl, rfl, rfl, rfl, rfl, rfl, rfl, trivial⟩, hI130, trivial⟩
                  · replace H := ite_no h139 H
                    refine q_mv (v := Value.slice A43 y42.length c44) rfl ?_ (hw := guard_yes rfl rfl rfl (bval_no h139))
                    refine q_mv (v := Value.int .i64 v61) rfl ?_ (hw := guard_yes rfl rfl rfl (bval_no h139))
                    obtain ⟨⟨h140, h140'⟩, H⟩ := ite_some H
                    obtain ⟨ad141, cs142, hA143, hK144, hn145, hc146⟩ := Dat.get (Dat.mono (Gh.le_trans (Gh.le_trans (Gh.le_trans hG79 hG104) hG121) hG128) hD46) z_api_Break (v61) h140 h140'
                    obtain ⟨rfl⟩ := open_api_Break hK144
                    refine q_ia el26 rfl hA143 rfl h140 h140' ?_ (hw := guard_yes rfl rfl rfl (bval_no h139))
                    refine q_fa (a' := (ad141.add (Int.toNat v61 * 2)).add 1) fl37_1 rfl rfl ?_ (hw := guard_yes rfl rfl rfl (bval_no h139))
                    refine q_lf hI130 (v := Value.bool ((y42.getD (Int.toNat v61) z_api_Break).Hyphen)) ag4 rfl ((Gh.le_refl _).cel _ _ (hc146 1 _ rfl)) ?_ (hw := guard_yes rfl rfl rfl (bval_no h139))
                    refine q_mv (v := Value.int .u8 (bt a6 (w64 (((y42.getD (Int.toNat v61) z_api_Break).At) - 1)))) rfl ?_ (hw := guard_yes rfl rfl rfl (bval_no h139))
                    refine q_eql rfl rfl ?_ (hw := guard_yes rfl rfl rfl (bval_no h139))
                    refine q_bool_neq rfl rfl so4 ?_ (hw := guard_yes rfl rfl rfl (bval_no h139))
                    refine q_pick false (v := Value.bool (decide (¬ ((y42.getD (Int.toNat v61) z_api_Break).Hyphen) = (decide ((bt a6 (w64 (((y42.getD (Int.toNat v61) z_api_Break).At) - 1))) = 126))))) (bval_no h139) rfl ?_
                    refine wpq_nil ?_
                    cases H
                    exact ⟨rfl, _, rfl, (Gh.le_refl _), ⟨rfl, rfl, rfl, rfl, rfl, rfl, rfl, trivial⟩, hI130, trivial⟩
                · clear hC
                  rintro e r ds wd136 ⟨rfl, G134, rfl, hG135, hHas, hI137, _⟩
                  rw [hHas.eq]; clear hHas
                  refine q_mv (v := Value.bool v133) rfl ?_
                  obtain ⟨v147, hC, H⟩ := bind_some H
                  refine wpq_split 5 (K := fun e r ds w => e = .normal ∧ ∃ (G148 : Gh), ds = [] ∧ G134 ≤ G148 ∧ Has [(1, Value.string a6), (5, Value.bool y20), (6, Value.slice A43 y42.length c44), (7, Value.int .i64 y49), (9, Value.int .i64 v61), (10, Value.int .i64 ((y42.getD (Int.toNat v61) z_api_Break).At)), (73, Value.bool v147)] r ∧ Hp G148 (bx g10 [Value.int .i64 a1.Before, Value.int .i64 a1.Behind, Value.slice A2 a1.Keep.length c3] 24 :: tk (Value.slice A43 y42.length c44) 2 37 :: L) w ∧ True) ?_ ?_
                  · replace H := hC
                    by_cases h153 : v133 = true
                    · replace H := ite_yes h153 H
                      refine wpq_no (guard_no rfl rfl rfl (bval_yes h153) rfl) ?_
                      refine wpq_no (guard_no rfl rfl rfl (bval_yes h153) rfl) ?_
                      refine wpq_no (guard_no rfl rfl rfl (bval_yes h153) rfl) ?_
                      refine wpq_no (guard_no rfl rfl rfl (bval_yes h153) rfl) ?_
                      refine q_pick true (v := Value.bool true) (bval_yes h153) rfl ?_
                      refine wpq_nil ?_
                      cases H
                      exact ⟨rfl, _, rfl, (Gh.le_refl _), ⟨rfl, rfl, rfl, rfl, rfl, rfl, rfl, trivial⟩, hI137, trivial⟩
                    · replace H := ite_no h153 H
                      refine q_mv (v := Value.string a6) rfl ?_ (hw := guard_yes rfl rfl rfl (bval_no h153))
                      refine q_mv (v := Value.int .i64 ((y42.getD (Int.toNat v61) z_api_Break).At)) rfl ?_ (hw := guard_yes rfl rfl rfl (bval_no h153))
                      obtain ⟨⟨h154, h154'⟩, H⟩ := ite_some H
                      refine q_is so9 rfl rfl h154 h154' rfl ?_ (hw := guard_yes rfl rfl rfl (bval_no h153))
                      refine q_eql rfl rfl ?_ (hw := guard_yes rfl rfl rfl (bval_no h153))
                      refine q_pick false (v := Value.bool (decide ((bt a6 ((y42.getD (Int.toNat v61) z_api_Break).At)) = 32))) (bval_no h153) rfl ?_
                      refine wpq_nil ?_
                      cases H
                      exact ⟨rfl, _, rfl, (Gh.le_refl _), ⟨rfl, rfl, rfl, rfl, rfl, rfl, rfl, trivial⟩, hI137, trivial⟩
                  · clear hC
                    rintro e r ds wd150 ⟨rfl, G148, rfl, hG149, hHas, hI151, _⟩
                    rw [hHas.eq]; clear hHas
                    refine wpq_nil ?_
                    refine hK118 _ _ _ ?_
                    by_cases h155 : v147 = true
                    · replace H := ite_yes h155 H
                      refine wpc_true (bval_yes h155) ?_
                      refine wpc_seq_k fun K156 hK157 => ?_
                      refine wpc_region ?_
                      refine q_as (v := Value.bool false) rfl ?_
                      refine wpq_nil ?_
                      refine hK157 _ _ _ ?_
                      refine wpc_ret ?_
                      cases H
                      exact ⟨rfl, _, rfl, (Gh.le_trans (Gh.le_trans (Gh.le_trans (Gh.le_trans (Gh.le_trans hG79 hG104) hG121) hG128) hG135) hG149), ⟨rfl, trivial⟩, hI151, trivial⟩
                    · replace H := ite_no h155 H
                      refine wpc_false (bval_no h155) ?_
                      refine wpc_skip ?_
                      refine hK116 _ _ _ ?_
                      refine wpc_region ?_
                      refine q_mv (v := Value.int .i64 ((y42.getD (Int.toNat v61) z_api_Break).At)) rfl ?_
                      refine q_as (v := Value.int .i64 ((y42.getD (Int.toNat v61) z_api_Break).At)) rfl ?_
                      refine wpq_nil ?_
                      refine hK88 _ _ _ ?_
                      refine wpc_region ?_
                      refine q_mv (v := Value.int .i64 v61) rfl ?_
                      refine q_add rfl rfl ?_
                      refine q_as (v := Value.int .i64 (w64 (v61 + 1))) rfl ?_
                      refine wpq_nil ?_
                      exact ih _ _ _ H _ _ _ (Gh.le_trans (Gh.le_trans (Gh.le_trans (Gh.le_trans (Gh.le_trans hG79 hG104) hG121) hG128) hG135) hG149) ⟨rfl, rfl, rfl, rfl, rfl, rfl, trivial⟩ hI151 rfl
      · replace H := ite_no h86 H
        refine wpc_false (bool_no h86) ?_
        refine wpc_exit ?_
        cases H
        exact ⟨rfl, _, rfl, hG79, ⟨rfl, rfl, trivial⟩, hI81, trivial⟩
    · clear hC
      rcases o77 with _ | _
      · rintro e r ds wd71 ⟨rfl, G69, rfl, hG70, hHas, hI72, _⟩
        rw [hHas.eq]; clear hHas
        have hI159 := Hp.sub (L := bx g10 [Value.int .i64 a1.Before, Value.int .i64 a1.Behind, Value.slice A2 a1.Keep.length c3] 24 :: tk (Value.slice A43 y42.length c44) 2 37 :: L) (L' := L) hI72 (List.Sublist.cons _ (List.Sublist.cons _ (List.Sublist.refl _)))
        cases H
        exact ⟨.inr rfl, rfl, _, ⟨_, _, rfl, rfl, rfl⟩, _, (Gh.le_trans (Gh.le_trans (Gh.le_trans hG17 hG27) hG39) hG70), hI159, rfl⟩
      · rintro e r ds wd75 ⟨rfl, G73, rfl, hG74, hHas, hI76, _⟩
        rw [hHas.eq]; clear hHas
        refine hK53 _ _ _ ?_
        refine wpc_seq_k fun K160 hK161 => ?_
        refine wpc_region ?_
        refine q_mv (v := Value.bool y20) rfl ?_
        refine q_mv (v := Value.bool y20) rfl ?_
        obtain ⟨v162, hC, H⟩ := bind_some H
        refine wpq_split 3 (K := fun e r ds w => e = .normal ∧ ∃ (G163 : Gh), ds = [] ∧ G73 ≤ G163 ∧ Has [(79, Value.bool v162)] r ∧ Hp G163 (bx g10 [Value.int .i64 a1.Before, Value.int .i64 a1.Behind, Value.slice A2 a1.Keep.length c3] 24 :: tk (Value.slice A43 y42.length c44) 2 37 :: L) w ∧ True) ?_ ?_
        · replace H := hC
          by_cases h168 : y20 = true
          · replace H := ite_yes h168 H
            refine q_mv (v := Value.int .i64 y49) rfl ?_ (hw := guard_yes rfl rfl rfl (bval_yes h168))
            refine q_eql rfl rfl ?_ (hw := guard_yes rfl rfl rfl (bval_yes h168))
            refine q_pick true (v := Value.bool (decide (y49 = 0))) (bval_yes h168) rfl ?_
            refine wpq_nil ?_
            cases H
            exact ⟨rfl, _, rfl, (Gh.le_refl _), ⟨rfl, trivial⟩, hI76, trivial⟩
          · replace H := ite_no h168 H
            refine wpq_no (guard_no rfl rfl rfl (bval_no h168) rfl) ?_
            refine wpq_no (guard_no rfl rfl rfl (bval_no h168) rfl) ?_
            refine q_pick false (v := Value.bool false) (bval_no h168) rfl ?_
            refine wpq_nil ?_
            cases H
            exact ⟨rfl, _, rfl, (Gh.le_refl _), ⟨rfl, trivial⟩, hI76, trivial⟩
        · clear hC
          rintro e r ds wd165 ⟨rfl, G163, rfl, hG164, hHas, hI166, _⟩
          rw [hHas.eq]; clear hHas
          refine q_as (v := Value.bool v162) rfl ?_
          refine wpq_nil ?_
          refine hK161 _ _ _ ?_
          refine wpc_ret ?_
          have hI169 := Hp.sub (L := bx g10 [Value.int .i64 a1.Before, Value.int .i64 a1.Behind, Value.slice A2 a1.Keep.length c3] 24 :: tk (Value.slice A43 y42.length c44) 2 37 :: L) (L' := L) hI166 (List.Sublist.cons _ (List.Sublist.cons _ (List.Sublist.refl _)))
          cases H
          exact ⟨.inr rfl, rfl, _, ⟨_, _, rfl, rfl, rfl⟩, _, (Gh.le_trans (Gh.le_trans (Gh.le_trans (Gh.le_trans hG17 hG27) hG39) hG74) hG164), hI169, rfl⟩
end Go.Proofs.YtiahgcidgbalkaaDoor.LG
