/-
  The walks: each function computes its plain function: printed by a program out of the translation.
-/
import Derived.Test.YtpefcdchjokggaaDoorTy
import Derived.Test.YtpefcdchjokggaaDoorLa
set_option linter.unusedVariables false
set_option linter.unusedSimpArgs false
set_option maxRecDepth 100000
namespace Go.Proofs.YtpefcdchjokggaaDoor.LG
open Go Go.LG Go.RowKit
open Go.Lib Go.Shelf Go.Proofs
set_option maxHeartbeats 1000000 in
theorem text_Class_spec {a1 : Int} {r1066 : Int} {G : Gh} {L : List Itm} {w : World} (hI : Hp G (L) w) (H : text_Class a1 = some r1066) :
    Calls Tryd.prog 14 [Value.int .u8 a1].toArray w fun e w' => ∃ (G' : Gh), G ≤ G' ∧ Hp G' (L) w' ∧ e = .returned (Value.int .i64 r1066) := by
  refine calls_intro (N := 37) Tryd.func14 rfl rfl (Nat.le_of_ble_eq_true rfl) ?_
  unfold text_Class at H
  refine wpc_seq_k fun K2 hK3 => ?_
  refine wpc_region ?_
  refine q_as (v := Value.int .i64 0) rfl ?_
  refine wpq_nil ?_
  refine hK3 _ _ _ ?_
  refine wpc_seq_k fun K4 hK5 => ?_
  refine wpc_block ?_
  refine wpc_seq_k fun K6 hK7 => ?_
  refine wpc_region ?_
  refine q_mv (v := Value.int .u8 a1) rfl ?_
  refine q_eql rfl rfl ?_
  refine q_as (v := Value.bool (decide (a1 = 32))) rfl ?_
  refine wpq_nil ?_
  refine hK7 _ _ _ ?_
  by_cases h8 : a1 = 32
  · replace H := ite_yes h8 H
    refine wpc_true (bool_yes h8) ?_
    refine wpc_seq_k fun K9 hK10 => ?_
    refine wpc_region ?_
    refine q_as (v := Value.int .i64 4) rfl ?_
    refine wpq_nil ?_
    refine hK10 _ _ _ ?_
    refine wpc_ret ?_
    cases H
    exact ⟨.inr rfl, rfl, _, ⟨_, _, rfl, rfl, rfl⟩, _, (Gh.le_refl _), hI, rfl⟩
  · replace H := ite_no h8 H
    refine wpc_false (bool_no h8) ?_
    refine wpc_seq_k fun K11 hK12 => ?_
    refine wpc_region ?_
    refine q_mv (v := Value.int .u8 a1) rfl ?_
    refine q_eql rfl rfl ?_
    refine q_as (v := Value.bool (decide (a1 = 126))) rfl ?_
    refine wpq_nil ?_
    refine hK12 _ _ _ ?_
    by_cases h13 : a1 = 126
    · replace H := ite_yes h13 H
      refine wpc_true (bool_yes h13) ?_
      refine wpc_seq_k fun K14 hK15 => ?_
      refine wpc_region ?_
      refine q_as (v := Value.int .i64 6) rfl ?_
      refine wpq_nil ?_
      refine hK15 _ _ _ ?_
      refine wpc_ret ?_
      cases H
      exact ⟨.inr rfl, rfl, _, ⟨_, _, rfl, rfl, rfl⟩, _, (Gh.le_refl _), hI, rfl⟩
    · replace H := ite_no h13 H
      refine wpc_false (bool_no h13) ?_
      refine wpc_seq_k fun K16 hK17 => ?_
      refine wpc_region ?_
      refine q_mv (v := Value.int .u8 a1) rfl ?_
      refine q_lss rfl rfl ?_
      refine q_mv (v := Value.bool (decide (a1 < 32))) rfl ?_
      obtain ⟨v18, hC, H⟩ := bind_some H
      refine wpq_split 3 (K := fun e r ds w => e = .normal ∧ ds = [] ∧ ∃ (G19 : Gh), G ≤ G19 ∧ Has [(0, Value.int .u8 a1), (15, Value.bool v18)] r ∧ Hp G19 (L) w ∧ True) ?_ ?_
      · replace H := hC
        by_cases h24 : a1 < 32
        · replace H := ite_yes h24 H
          refine wpq_no (guard_no rfl rfl rfl (bool_yes h24) rfl) ?_
          refine wpq_no (guard_no rfl rfl rfl (bool_yes h24) rfl) ?_
          refine q_pick true (v := Value.bool true) (bool_yes h24) rfl ?_
          refine wpq_nil ?_
          cases H
          exact ⟨rfl, rfl, _, (Gh.le_refl _), ⟨rfl, rfl, trivial⟩, hI, trivial⟩
        · replace H := ite_no h24 H
          refine q_mv (v := Value.int .u8 a1) rfl ?_ (hw := guard_yes rfl rfl rfl (bool_no h24))
          refine q_gtr rfl rfl ?_ (hw := guard_yes rfl rfl rfl (bool_no h24))
          refine q_pick false (v := Value.bool (decide (126 < a1))) (bool_no h24) rfl ?_
          refine wpq_nil ?_
          cases H
          exact ⟨rfl, rfl, _, (Gh.le_refl _), ⟨rfl, rfl, trivial⟩, hI, trivial⟩
      · clear hC
        rintro e r ds wd21 ⟨rfl, rfl, G19, hG20, hHas, hI22, _⟩
        rw [hHas.eq]; clear hHas
        refine q_as (v := Value.bool v18) rfl ?_
        refine wpq_nil ?_
        refine hK17 _ _ _ ?_
        by_cases h25 : v18 = true
        · replace H := ite_yes h25 H
          refine wpc_true (bval_yes h25) ?_
          refine wpc_seq_k fun K26 hK27 => ?_
          refine wpc_region ?_
          refine q_as (v := Value.int .i64 0) rfl ?_
          refine wpq_nil ?_
          refine hK27 _ _ _ ?_
          refine wpc_ret ?_
          cases H
          exact ⟨.inr rfl, rfl, _, ⟨_, _, rfl, rfl, rfl⟩, _, hG20, hI22, rfl⟩
        · replace H := ite_no h25 H
          refine wpc_false (bval_no h25) ?_
          refine wpc_seq_k fun K28 hK29 => ?_
          refine wpc_region ?_
          refine q_mv (v := Value.int .u8 a1) rfl ?_
          refine q_leq rfl rfl ?_
          refine q_mv (v := Value.bool (decide (97 ≤ a1))) rfl ?_
          obtain ⟨v30, hC, H⟩ := bind_some H
          refine wpq_split 3 (K := fun e r ds w => e = .normal ∧ ds = [] ∧ ∃ (G31 : Gh), G19 ≤ G31 ∧ Has [(0, Value.int .u8 a1), (22, Value.bool v30)] r ∧ Hp G31 (L) w ∧ True) ?_ ?_
          · replace H := hC
            by_cases h36 : 97 ≤ a1
            · replace H := ite_yes h36 H
              refine q_mv (v := Value.int .u8 a1) rfl ?_ (hw := guard_yes rfl rfl rfl (bool_yes h36))
              refine q_leq rfl rfl ?_ (hw := guard_yes rfl rfl rfl (bool_yes h36))
              refine q_pick true (v := Value.bool (decide (a1 ≤ 122))) (bool_yes h36) rfl ?_
              refine wpq_nil ?_
              cases H
              exact ⟨rfl, rfl, _, (Gh.le_refl _), ⟨rfl, rfl, trivial⟩, hI22, trivial⟩
            · replace H := ite_no h36 H
              refine wpq_no (guard_no rfl rfl rfl (bool_no h36) rfl) ?_
              refine wpq_no (guard_no rfl rfl rfl (bool_no h36) rfl) ?_
              refine q_pick false (v := Value.bool false) (bool_no h36) rfl ?_
              refine wpq_nil ?_
              cases H
              exact ⟨rfl, rfl, _, (Gh.le_refl _), ⟨rfl, rfl, trivial⟩, hI22, trivial⟩
          · clear hC
            rintro e r ds wd33 ⟨rfl, rfl, G31, hG32, hHas, hI34, _⟩
            rw [hHas.eq]; clear hHas
            refine q_as (v := Value.bool v30) rfl ?_
            refine wpq_nil ?_
            refine hK29 _ _ _ ?_
            by_cases h37 : v30 = true
            · replace H := ite_yes h37 H
              refine wpc_true (bval_yes h37) ?_
              refine wpc_seq_k fun K38 hK39 => ?_
              refine wpc_region ?_
              refine q_as (v := Value.int .i64 1) rfl ?_
              refine wpq_nil ?_
              refine hK39 _ _ _ ?_
              refine wpc_ret ?_
              cases H
              exact ⟨.inr rfl, rfl, _, ⟨_, _, rfl, rfl, rfl⟩, _, (Gh.le_trans hG20 hG32), hI34, rfl⟩
            · replace H := ite_no h37 H
              refine wpc_false (bval_no h37) ?_
              refine wpc_seq_k fun K40 hK41 => ?_
              refine wpc_region ?_
              refine q_mv (v := Value.int .u8 a1) rfl ?_
              refine q_leq rfl rfl ?_
              refine q_mv (v := Value.bool (decide (65 ≤ a1))) rfl ?_
              obtain ⟨v42, hC, H⟩ := bind_some H
              refine wpq_split 3 (K := fun e r ds w => e = .normal ∧ ds = [] ∧ ∃ (G43 : Gh), G31 ≤ G43 ∧ Has [(0, Value.int .u8 a1), (29, Value.bool v42)] r ∧ Hp G43 (L) w ∧ True) ?_ ?_
              · replace H := hC
                by_cases h48 : 65 ≤ a1
                · replace H := ite_yes h48 H
                  refine q_mv (v := Value.int .u8 a1) rfl ?_ (hw := guard_yes rfl rfl rfl (bool_yes h48))
                  refine q_leq rfl rfl ?_ (hw := guard_yes rfl rfl rfl (bool_yes h48))
                  refine q_pick true (v := Value.bool (decide (a1 ≤ 90))) (bool_yes h48) rfl ?_
                  refine wpq_nil ?_
                  cases H
                  exact ⟨rfl, rfl, _, (Gh.le_refl _), ⟨rfl, rfl, trivial⟩, hI34, trivial⟩
                · replace H := ite_no h48 H
                  refine wpq_no (guard_no rfl rfl rfl (bool_no h48) rfl) ?_
                  refine wpq_no (guard_no rfl rfl rfl (bool_no h48) rfl) ?_
                  refine q_pick false (v := Value.bool false) (bool_no h48) rfl ?_
                  refine wpq_nil ?_
                  cases H
                  exact ⟨rfl, rfl, _, (Gh.le_refl _), ⟨rfl, rfl, trivial⟩, hI34, trivial⟩
              · clear hC
                rintro e r ds wd45 ⟨rfl, rfl, G43, hG44, hHas, hI46, _⟩
                rw [hHas.eq]; clear hHas
                refine q_as (v := Value.bool v42) rfl ?_
                refine wpq_nil ?_
                refine hK41 _ _ _ ?_
                by_cases h49 : v42 = true
                · replace H := ite_yes h49 H
                  refine wpc_true (bval_yes h49) ?_
                  refine wpc_seq_k fun K50 hK51 => ?_
                  refine wpc_region ?_
                  refine q_as (v := Value.int .i64 2) rfl ?_
                  refine wpq_nil ?_
                  refine hK51 _ _ _ ?_
                  refine wpc_ret ?_
                  cases H
                  exact ⟨.inr rfl, rfl, _, ⟨_, _, rfl, rfl, rfl⟩, _, (Gh.le_trans (Gh.le_trans hG20 hG32) hG44), hI46, rfl⟩
                · replace H := ite_no h49 H
                  refine wpc_false (bval_no h49) ?_
                  refine wpc_seq_k fun K52 hK53 => ?_
                  refine wpc_region ?_
                  refine q_mv (v := Value.int .u8 a1) rfl ?_
                  refine q_leq rfl rfl ?_
                  refine q_mv (v := Value.bool (decide (48 ≤ a1))) rfl ?_
                  obtain ⟨v54, hC, H⟩ := bind_some H
                  refine wpq_split 3 (K := fun e r ds w => e = .normal ∧ ds = [] ∧ ∃ (G55 : Gh), G43 ≤ G55 ∧ Has [(36, Value.bool v54)] r ∧ Hp G55 (L) w ∧ True) ?_ ?_
                  · replace H := hC
                    by_cases h60 : 48 ≤ a1
                    · replace H := ite_yes h60 H
                      refine q_mv (v := Value.int .u8 a1) rfl ?_ (hw := guard_yes rfl rfl rfl (bool_yes h60))
                      refine q_leq rfl rfl ?_ (hw := guard_yes rfl rfl rfl (bool_yes h60))
                      refine q_pick true (v := Value.bool (decide (a1 ≤ 57))) (bool_yes h60) rfl ?_
                      refine wpq_nil ?_
                      cases H
                      exact ⟨rfl, rfl, _, (Gh.le_refl _), ⟨rfl, trivial⟩, hI46, trivial⟩
                    · replace H := ite_no h60 H
                      refine wpq_no (guard_no rfl rfl rfl (bool_no h60) rfl) ?_
                      refine wpq_no (guard_no rfl rfl rfl (bool_no h60) rfl) ?_
                      refine q_pick false (v := Value.bool false) (bool_no h60) rfl ?_
                      refine wpq_nil ?_
                      cases H
                      exact ⟨rfl, rfl, _, (Gh.le_refl _), ⟨rfl, trivial⟩, hI46, trivial⟩
                  · clear hC
                    rintro e r ds wd57 ⟨rfl, rfl, G55, hG56, hHas, hI58, _⟩
                    rw [hHas.eq]; clear hHas
                    refine q_as (v := Value.bool v54) rfl ?_
                    refine wpq_nil ?_
                    refine hK53 _ _ _ ?_
                    by_cases h61 : v54 = true
                    · replace H := ite_yes h61 H
                      refine wpc_true (bval_yes h61) ?_
                      refine wpc_seq_k fun K62 hK63 => ?_
                      refine wpc_region ?_
                      refine q_as (v := Value.int .i64 3) rfl ?_
                      refine wpq_nil ?_
                      refine hK63 _ _ _ ?_
                      refine wpc_ret ?_
                      cases H
                      exact ⟨.inr rfl, rfl, _, ⟨_, _, rfl, rfl, rfl⟩, _, (Gh.le_trans (Gh.le_trans (Gh.le_trans hG20 hG32) hG44) hG56), hI58, rfl⟩
                    · replace H := ite_no h61 H
                      refine wpc_false (bval_no h61) ?_
                      refine wpc_skip ?_
                      refine hK5 _ _ _ ?_
                      refine wpc_seq_k fun K64 hK65 => ?_
                      refine wpc_region ?_
                      refine q_as (v := Value.int .i64 5) rfl ?_
                      refine wpq_nil ?_
                      refine hK65 _ _ _ ?_
                      refine wpc_ret ?_
                      cases H
                      exact ⟨.inr rfl, rfl, _, ⟨_, _, rfl, rfl, rfl⟩, _, (Gh.le_trans (Gh.le_trans (Gh.le_trans hG20 hG32) hG44) hG56), hI58, rfl⟩
set_option maxHeartbeats 1000000 in
theorem text_Valid_spec {a1 : ByteArray} {r1072 : Bool} {G : Gh} {L : List Itm} {w : World} (hI : Hp G (L) w) (H : text_Valid a1 = some r1072) :
    Calls Tryd.prog 12 [Value.string a1].toArray w fun e w' => ∃ (G' : Gh), G ≤ G' ∧ Hp G' (L) w' ∧ e = .returned (Value.bool r1072) := by
  refine calls_intro (N := 21) Tryd.func12 rfl rfl (Nat.le_of_ble_eq_true rfl) ?_
  unfold text_Valid at H
  refine wpc_seq_k fun K2 hK3 => ?_
  refine wpc_region ?_
  refine q_as (v := Value.bool false) rfl ?_
  refine wpq_nil ?_
  refine hK3 _ _ _ ?_
  refine wpc_seq_k fun K4 hK5 => ?_
  refine wpc_seq_k fun K6 hK7 => ?_
  refine wpc_region ?_
  refine q_mv (v := Value.string a1) rfl ?_
  refine q_rgs hI so9 rfl (fun g9 wd10 hI11 => ?_)
  refine wpq_nil ?_
  refine hK7 _ _ _ ?_
  refine wpc_block ?_
  obtain ⟨o33, hC, H⟩ := bind_some H
  refine wpc_mono (Q := fun e r ds w => match (generalizing := false) o33 with | (Sum.inl v23) => e = .ret ∧ ds = [] ∧ ∃ (G25 : Gh), G ≤ G25 ∧ Has [(2, Value.bool false)] r ∧ Hp G25 (ob g9 (Obj.stringIter a1 v23) :: L) w ∧ True | (Sum.inr v24) => e = .exit 0 ∧ ds = [] ∧ ∃ (G29 : Gh), G ≤ G29 ∧ Has [(0, Value.string a1)] r ∧ Hp G29 (ob g9 (Obj.stringIter a1 v24) :: L) w ∧ True) ?_ ?_
  · clear H
    refine wpc_loop fun I hLp => ?_
    refine text_Valid_l22.partial_correctness a1 (fun v16 o => ∀ (G34 : Gh) (r : Rg) (w : World), G ≤ G34 → Has [(0, Value.string a1), (6, Value.pointer (some ⟨g9, 0, none⟩))] r → Hp G34 (ob g9 (Obj.stringIter a1 v16) :: L) w → o = o33 → I r [] w) ?_ 0 _ hC _ _ _ (Gh.le_refl _) ⟨rfl, rfl, trivial⟩ hI11 rfl
    intro _ ih v16 o H G34 r wd36 hG35 hHas hI37 ho
    rw [ho] at H; clear ho
    rw [hHas.eq]; clear hHas
    refine hLp _ _ _ ?_
    refine wpc_seq_k fun K38 hK39 => ?_
    refine wpc_region ?_
    by_cases h40 : v16 < a1.size
    · replace H := ite_yes h40 H
      refine q_nxy hI37 0 rfl rfl h40 (fun wd41 hI42 => ?_)
      refine q_ex (v := Value.bool true) rfl rfl ?_
      refine wpq_nil ?_
      refine hK39 _ _ _ ?_
      refine wpc_seq_k fun K43 hK44 => ?_
      refine wpc_true rfl ?_
      refine wpc_skip ?_
      refine hK44 _ _ _ ?_
      refine wpc_block ?_
      refine wpc_seq_k fun K45 hK46 => ?_
      refine wpc_region ?_
      refine q_ex (v := Value.int .i32 ((Utf8.decode a1 v16).1 : Int)) rfl rfl ?_
      refine q_as (v := Value.int .i32 ((Utf8.decode a1 v16).1 : Int)) rfl ?_
      refine wpq_nil ?_
      refine hK46 _ _ _ ?_
      refine wpc_seq_k fun K47 hK48 => ?_
      refine wpc_region ?_
      refine q_mv (v := Value.int .i32 ((Utf8.decode a1 v16).1 : Int)) rfl ?_
      refine q_gtr rfl rfl ?_
      refine q_mv (v := Value.bool (decide (126 < ((Utf8.decode a1 v16).1 : Int)))) rfl ?_
      obtain ⟨⟨v49, v50⟩, hC, H⟩ := bind_some H
      refine wpq_split 5 (K := fun e r ds w => e = .normal ∧ ds = [] ∧ ∃ (G51 : Gh), G34 ≤ G51 ∧ Has [(0, Value.string a1), (6, Value.pointer (some ⟨g9, 0, none⟩)), (17, Value.bool v49)] r ∧ Hp G51 (ob g9 (Obj.stringIter a1 v50) :: L) w ∧ True) ?_ ?_
      · replace H := hC
        by_cases h56 : 126 < ((Utf8.decode a1 v16).1 : Int)
        · replace H := ite_yes h56 H
          refine wpq_no (guard_no rfl rfl rfl (bool_yes h56) rfl) ?_
          refine wpq_no (guard_no rfl rfl rfl (bool_yes h56) rfl) ?_
          refine wpq_no (guard_no rfl rfl rfl (bool_yes h56) rfl) ?_
          refine wpq_no (guard_no rfl rfl rfl (bool_yes h56) rfl) ?_
          refine q_pick true (v := Value.bool true) (bool_yes h56) rfl ?_
          refine wpq_nil ?_
          cases H
          exact ⟨rfl, rfl, _, (Gh.le_refl _), ⟨rfl, rfl, rfl, trivial⟩, hI42, trivial⟩
        · replace H := ite_no h56 H
          refine q_mv (v := Value.int .i32 ((Utf8.decode a1 v16).1 : Int)) rfl ?_ (hw := guard_yes rfl rfl rfl (bool_no h56))
          refine q_cvi ik21 ik5 rfl ?_ (hw := guard_yes rfl rfl rfl (bool_no h56))
          obtain ⟨y62, hy57, H⟩ := bind_some H
          refine q_cv (vs := [Value.int .u8 (wu8 (((Utf8.decode a1 v16).1 : Int)))]) bo14 rfl rfl (text_Class_spec hI42 hy57) ?_ (hw := guard_yes rfl rfl rfl (bool_no h56))
          rintro _ wd60 ⟨G58, hG59, hI61, rfl⟩
          refine ⟨_, rfl, ?_⟩
          refine q_eql rfl rfl ?_ (hw := guard_yes rfl rfl rfl (bool_no h56))
          refine q_pick false (v := Value.bool (decide (y62 = 0))) (bool_no h56) rfl ?_
          refine wpq_nil ?_
          cases H
          exact ⟨rfl, rfl, _, hG59, ⟨rfl, rfl, rfl, trivial⟩, hI61, trivial⟩
      · clear hC
        rintro e r ds wd53 ⟨rfl, rfl, G51, hG52, hHas, hI54, _⟩
        rw [hHas.eq]; clear hHas
        refine wpq_nil ?_
        refine hK48 _ _ _ ?_
        by_cases h63 : v49 = true
        · replace H := ite_yes h63 H
          refine wpc_true (bval_yes h63) ?_
          refine wpc_seq_k fun K64 hK65 => ?_
          refine wpc_region ?_
          refine q_as (v := Value.bool false) rfl ?_
          refine wpq_nil ?_
          refine hK65 _ _ _ ?_
          refine wpc_ret ?_
          cases H
          exact ⟨rfl, rfl, _, (Gh.le_trans hG35 hG52), ⟨rfl, trivial⟩, hI54, trivial⟩
        · replace H := ite_no h63 H
          refine wpc_false (bval_no h63) ?_
          refine wpc_skip ?_
          exact ih _ _ H _ _ _ (Gh.le_trans hG35 hG52) ⟨rfl, rfl, trivial⟩ hI54 rfl
    · replace H := ite_no h40 H
      refine q_nxn hI37 0 rfl rfl h40 ?_
      refine q_ex (v := Value.bool false) rfl rfl ?_
      refine wpq_nil ?_
      refine hK39 _ _ _ ?_
      refine wpc_seq_k fun K66 hK67 => ?_
      refine wpc_false rfl ?_
      refine wpc_exit ?_
      cases H
      exact ⟨rfl, rfl, _, hG35, ⟨rfl, trivial⟩, hI37, trivial⟩
  · clear hC
    rcases o33 with v23 | v24
    · rintro e r ds wd27 ⟨rfl, rfl, G25, hG26, hHas, hI28, _⟩
      rw [hHas.eq]; clear hHas
      have hI68 := Hp.sub hI28 (List.Sublist.cons _ (List.Sublist.refl _))
      cases H
      exact ⟨.inr rfl, rfl, _, ⟨_, _, rfl, rfl, rfl⟩, _, hG26, hI68, rfl⟩
    · rintro e r ds wd31 ⟨rfl, rfl, G29, hG30, hHas, hI32, _⟩
      rw [hHas.eq]; clear hHas
      refine hK5 _ _ _ ?_
      refine wpc_seq_k fun K69 hK70 => ?_
      refine wpc_region ?_
      refine q_mv (v := Value.string a1) rfl ?_
      refine q_lens so9 rfl ?_
      refine q_leq rfl rfl ?_
      refine q_as (v := Value.bool (decide ((a1.size : Int) ≤ 2000))) rfl ?_
      refine wpq_nil ?_
      refine hK70 _ _ _ ?_
      refine wpc_ret ?_
      have hI71 := Hp.sub hI32 (List.Sublist.cons _ (List.Sublist.refl _))
      cases H
      exact ⟨.inr rfl, rfl, _, ⟨_, _, rfl, rfl, rfl⟩, _, hG30, hI71, rfl⟩
set_option maxHeartbeats 1000000 in
theorem text_Shown_1_spec {a1 : Int} {r1013 : Int} {G : Gh} {L : List Itm} {w : World} (hI : Hp G (L) w) (H : text_Shown_1 a1 = some r1013) :
    Calls Tryd.prog 25 [Value.int .i32 a1].toArray w fun e w' => ∃ (G' : Gh), G ≤ G' ∧ Hp G' (L) w' ∧ e = .returned (Value.int .i32 r1013) := by
  refine calls_intro (N := 6) Tryd.func25 rfl rfl (Nat.le_of_ble_eq_true rfl) ?_
  unfold text_Shown_1 at H
  refine wpc_seq_k fun K2 hK3 => ?_
  refine wpc_region ?_
  refine q_as (v := Value.int .i32 0) rfl ?_
  refine wpq_nil ?_
  refine hK3 _ _ _ ?_
  refine wpc_seq_k fun K4 hK5 => ?_
  refine wpc_seq_k fun K6 hK7 => ?_
  refine wpc_region ?_
  refine q_mv (v := Value.int .i32 a1) rfl ?_
  refine q_eql rfl rfl ?_
  refine wpq_nil ?_
  refine hK7 _ _ _ ?_
  by_cases h8 : a1 = 126
  · replace H := ite_yes h8 H
    refine wpc_true (bool_yes h8) ?_
    refine wpc_seq_k fun K9 hK10 => ?_
    refine wpc_region ?_
    refine q_as (v := Value.int .i32 (-1)) rfl ?_
    refine wpq_nil ?_
    refine hK10 _ _ _ ?_
    refine wpc_ret ?_
    cases H
    exact ⟨.inr rfl, rfl, _, ⟨_, _, rfl, rfl, rfl⟩, _, (Gh.le_refl _), hI, rfl⟩
  · replace H := ite_no h8 H
    refine wpc_false (bool_no h8) ?_
    refine wpc_skip ?_
    refine hK5 _ _ _ ?_
    refine wpc_seq_k fun K11 hK12 => ?_
    refine wpc_region ?_
    refine q_mv (v := Value.int .i32 a1) rfl ?_
    refine q_as (v := Value.int .i32 a1) rfl ?_
    refine wpq_nil ?_
    refine hK12 _ _ _ ?_
    refine wpc_ret ?_
    cases H
    exact ⟨.inr rfl, rfl, _, ⟨_, _, rfl, rfl, rfl⟩, _, (Gh.le_refl _), hI, rfl⟩
set_option maxHeartbeats 1000000 in
theorem strings_Map_25_ok (x : Nat) (hx : x ≤ 1114111) : ∃ r, text_Shown_1 (x : Int) = some r ∧ -2147483648 ≤ r ∧ r ≤ 2147483647 := by
  unfold text_Shown_1
  split <;> exact ⟨_, rfl, by omega, by omega⟩
theorem strings_Map_25_spec {a0 : ByteArray} {r0 : ByteArray} {G : Gh} {L : List Itm} {w : World} (hI : Hp G L w) (hgl : Gl G) (H : strings_Map_25 a0 = some r0) :
    Calls Tryd.prog 26 [Value.func (.func 25) [].toArray [].toArray, Value.string a0].toArray w fun e w' => ∃ (G' : Gh), G ≤ G' ∧ Hp G' L w' ∧ e = .returned (Value.string r0) := by
  unfold strings_Map_25 at H
  obtain ⟨hs, H⟩ := ite_some H
  cases H
  have hf : MapGrows Tryd.prog 25 #[] (fun x => (text_Shown_1 x).getD 0) w := fun W x hx _ => by
    obtain ⟨r, hr, _, _⟩ := strings_Map_25_ok x hx
    have := to_below (text_Shown_1_spec (Hp.whole W) hr)
    show Calls Tryd.prog 25 #[.int .i32 (x : Int)] W fun e w' => e = .returned (.int .i32 ((text_Shown_1 (x : Int)).getD 0)) ∧ Below W.heap.size W w'
    rw [hr]
    exact this
  refine of_below hI (Any.strings_Map_grows Tryd.l230 Tryd_extra 25 #[] (enters_of Tryd.func25 (by kernel_rfl) rfl) (fun x => (text_Shown_1 x).getD 0) a0 w hs hf (fun x hx => ?_) (hgl.get hI).utf8)
  obtain ⟨r, hr, h1, h2⟩ := strings_Map_25_ok x hx
  simp only [hr, Option.getD_some]
  exact ⟨h1, h2⟩
set_option maxHeartbeats 1000000 in
theorem text_Shown_spec {a1 : ByteArray} {r1027 : ByteArray} {r1028 : Int} {G : Gh} {L : List Itm} {w : World} (hI : Hp G (L) w) (hgl : Gl G) (H : text_Shown a1 = some (r1027, r1028)) :
    Calls Tryd.prog 10 [Value.string a1].toArray w fun e w' => ∃ (G' : Gh), G ≤ G' ∧ Hp G' (L) w' ∧ e = .returned (Value.tuple [Value.string r1027, Value.int .i64 r1028].toArray) := by
  refine calls_intro (N := 11) Tryd.func10 rfl rfl (Nat.le_of_ble_eq_true rfl) ?_
  unfold text_Shown at H
  refine wpc_seq_k fun K2 hK3 => ?_
  refine wpc_region ?_
  refine q_as (v := Value.string (⟨#[]⟩ : ByteArray)) rfl ?_
  refine q_as (v := Value.int .i64 0) rfl ?_
  refine wpq_nil ?_
  refine hK3 _ _ _ ?_
  refine wpc_seq_k fun K4 hK5 => ?_
  refine wpc_seq_k fun K6 hK7 => ?_
  refine wpc_region ?_
  refine q_mv (v := Value.string a1) rfl ?_
  obtain ⟨y13, hy8, H⟩ := bind_some H
  refine q_cv (vs := [Value.string a1]) bo12 rfl rfl (text_Valid_spec hI hy8) ?_
  rintro _ wd11 ⟨G9, hG10, hI12, rfl⟩
  refine ⟨_, rfl, ?_⟩
  refine q_not rfl ?_
  refine wpq_nil ?_
  refine hK7 _ _ _ ?_
  by_cases h14 : (!y13) = true
  · replace H := ite_yes h14 H
    refine wpc_true (bval_yes h14) ?_
    refine wpc_seq_k fun K15 hK16 => ?_
    refine wpc_region ?_
    refine q_as (v := Value.string (⟨#[]⟩ : ByteArray)) rfl ?_
    refine q_as (v := Value.int .i64 1) rfl ?_
    refine wpq_nil ?_
    refine hK16 _ _ _ ?_
    refine wpc_ret ?_
    cases H
    exact ⟨.inr rfl, rfl, _, ⟨_, _, rfl, rfl, ⟨_, _, rfl, rfl, rfl⟩⟩, _, hG10, hI12, rfl⟩
  · replace H := ite_no h14 H
    refine wpc_false (bval_no h14) ?_
    refine wpc_skip ?_
    refine hK5 _ _ _ ?_
    refine wpc_seq_k fun K17 hK18 => ?_
    refine wpc_region ?_
    refine q_as (v := Value.func (.func 25) [].toArray [].toArray) rfl ?_
    refine wpq_nil ?_
    refine hK18 _ _ _ ?_
    refine wpc_seq_k fun K19 hK20 => ?_
    refine wpc_region ?_
    refine q_mv (v := Value.func (.func 25) [].toArray [].toArray) rfl ?_
    refine q_mv (v := Value.string a1) rfl ?_
    obtain ⟨y26, hy21, H⟩ := bind_some H
    refine q_cv (vs := [Value.func (.func 25) [].toArray [].toArray, Value.string a1]) bo26 rfl rfl (strings_Map_25_spec hI12 (hgl.mono hG10) hy21) ?_
    rintro _ wd24 ⟨G22, hG23, hI25, rfl⟩
    refine ⟨_, rfl, ?_⟩
    refine q_as (v := Value.string y26) rfl ?_
    refine q_as (v := Value.int .i64 0) rfl ?_
    refine wpq_nil ?_
    refine hK20 _ _ _ ?_
    refine wpc_ret ?_
    cases H
    exact ⟨.inr rfl, rfl, _, ⟨_, _, rfl, rfl, ⟨_, _, rfl, rfl, rfl⟩⟩, _, (Gh.le_trans hG10 hG23), hI25, rfl⟩
set_option maxHeartbeats 1000000 in
theorem text_Words_spec {a1 : ByteArray} {r1144 : Int} {r1145 : Int} {G : Gh} {L : List Itm} {w : World} (hI : Hp G (L) w) (H : text_Words a1 = some (r1144, r1145)) :
    Calls Tryd.prog 16 [Value.string a1].toArray w fun e w' => ∃ (G' : Gh), G ≤ G' ∧ Hp G' (L) w' ∧ e = .returned (Value.tuple [Value.int .i64 r1144, Value.int .i64 r1145].toArray) := by
  refine calls_intro (N := 32) Tryd.func16 rfl rfl (Nat.le_of_ble_eq_true rfl) ?_
  unfold text_Words at H
  refine wpc_seq_k fun K2 hK3 => ?_
  refine wpc_region ?_
  refine q_as (v := Value.int .i64 0) rfl ?_
  refine q_as (v := Value.int .i64 0) rfl ?_
  refine wpq_nil ?_
  refine hK3 _ _ _ ?_
  refine wpc_seq_k fun K4 hK5 => ?_
  refine wpc_seq_k fun K6 hK7 => ?_
  refine wpc_region ?_
  refine q_mv (v := Value.string a1) rfl ?_
  obtain ⟨y13, hy8, H⟩ := bind_some H
  refine q_cv (vs := [Value.string a1]) bo12 rfl rfl (text_Valid_spec hI hy8) ?_
  rintro _ wd11 ⟨G9, hG10, hI12, rfl⟩
  refine ⟨_, rfl, ?_⟩
  refine q_not rfl ?_
  refine wpq_nil ?_
  refine hK7 _ _ _ ?_
  by_cases h14 : (!y13) = true
  · replace H := ite_yes h14 H
    refine wpc_true (bval_yes h14) ?_
    refine wpc_seq_k fun K15 hK16 => ?_
    refine wpc_region ?_
    refine q_as (v := Value.int .i64 0) rfl ?_
    refine q_as (v := Value.int .i64 1) rfl ?_
    refine wpq_nil ?_
    refine hK16 _ _ _ ?_
    refine wpc_ret ?_
    cases H
    exact ⟨.inr rfl, rfl, _, ⟨_, _, rfl, rfl, ⟨_, _, rfl, rfl, rfl⟩⟩, _, hG10, hI12, rfl⟩
  · replace H := ite_no h14 H
    refine wpc_false (bval_no h14) ?_
    refine wpc_skip ?_
    refine hK5 _ _ _ ?_
    refine wpc_seq_k fun K17 hK18 => ?_
    refine wpc_region ?_
    refine q_as (v := Value.int .i64 0) rfl ?_
    refine q_as (v := Value.bool false) rfl ?_
    refine wpq_nil ?_
    refine hK18 _ _ _ ?_
    refine wpc_seq_k fun K19 hK20 => ?_
    refine wpc_seq_k fun K21 hK22 => ?_
    refine wpc_region ?_
    refine q_mv (v := Value.string a1) rfl ?_
    refine q_rgs hI12 so9 rfl (fun g24 wd25 hI26 => ?_)
    refine wpq_nil ?_
    refine hK22 _ _ _ ?_
    refine wpc_block ?_
    obtain ⟨⟨v42, v43⟩, hC, H⟩ := bind_some H
    refine wpc_mono (Q := fun e r ds w => e = .exit 0 ∧ ds = [] ∧ ∃ (G44 : Gh), G9 ≤ G44 ∧ Has [(4, Value.int .i64 v42)] r ∧ Hp G44 (ob g24 (Obj.stringIter a1 v43) :: L) w ∧ True) ?_ ?_
    · clear H
      refine wpc_loop fun I hLp => ?_
      refine text_Words_l41.partial_correctness a1 (fun v31 v32 v33 o => ∀ (G49 : Gh) (r : Rg) (w : World), G9 ≤ G49 → Has [(4, Value.int .i64 v31), (5, Value.bool v32), (12, Value.pointer (some ⟨g24, 0, none⟩))] r → Hp G49 (ob g24 (Obj.stringIter a1 v33) :: L) w → o = (v42, v43) → I r [] w) ?_ 0 false 0 _ hC _ _ _ (Gh.le_refl _) ⟨rfl, rfl, rfl, trivial⟩ hI26 rfl
      intro _ ih v31 v32 v33 o H G49 r wd51 hG50 hHas hI52 ho
      rw [ho] at H; clear ho
      rw [hHas.eq]; clear hHas
      refine hLp _ _ _ ?_
      refine wpc_seq_k fun K53 hK54 => ?_
      refine wpc_region ?_
      by_cases h55 : v33 < a1.size
      · replace H := ite_yes h55 H
        refine q_nxy hI52 0 rfl rfl h55 (fun wd56 hI57 => ?_)
        refine q_ex (v := Value.bool true) rfl rfl ?_
        refine wpq_nil ?_
        refine hK54 _ _ _ ?_
        refine wpc_seq_k fun K58 hK59 => ?_
        refine wpc_true rfl ?_
        refine wpc_skip ?_
        refine hK59 _ _ _ ?_
        refine wpc_block ?_
        refine wpc_seq_k fun K60 hK61 => ?_
        refine wpc_region ?_
        refine q_ex (v := Value.int .i32 ((Utf8.decode a1 v33).1 : Int)) rfl rfl ?_
        refine q_as (v := Value.int .i32 ((Utf8.decode a1 v33).1 : Int)) rfl ?_
        refine wpq_nil ?_
        refine hK61 _ _ _ ?_
        refine wpc_seq_k fun K62 hK63 => ?_
        refine wpc_region ?_
        refine q_mv (v := Value.int .i32 ((Utf8.decode a1 v33).1 : Int)) rfl ?_
        refine q_cvi ik21 ik5 rfl ?_
        obtain ⟨y69, hy64, H⟩ := bind_some H
        refine q_cv (vs := [Value.int .u8 (wu8 (((Utf8.decode a1 v33).1 : Int)))]) bo14 rfl rfl (text_Class_spec hI57 hy64) ?_
        rintro _ wd67 ⟨G65, hG66, hI68, rfl⟩
        refine ⟨_, rfl, ?_⟩
        refine wpq_nil ?_
        refine hK63 _ _ _ ?_
        refine wpc_block ?_
        refine wpc_seq_k fun K70 hK71 => ?_
        obtain ⟨o83, hC, H⟩ := bind_some H
        refine wpc_mono (Q := fun e r ds w => match (generalizing := false) o83 with | (Sum.inl v72) => e = .normal ∧ ds = [] ∧ ∃ (G75 : Gh), G65 ≤ G75 ∧ Has [(4, Value.int .i64 v31), (5, Value.bool v32), (12, Value.pointer (some ⟨g24, 0, none⟩))] r ∧ Hp G75 (ob g24 (Obj.stringIter a1 v72) :: L) w ∧ True | (Sum.inr (v73, v74)) => e = .exit 2 ∧ ds = [] ∧ ∃ (G79 : Gh), G65 ≤ G79 ∧ Has [(4, Value.int .i64 v31), (5, Value.bool v73), (12, Value.pointer (some ⟨g24, 0, none⟩))] r ∧ Hp G79 (ob g24 (Obj.stringIter a1 v74) :: L) w ∧ True) ?_ ?_
        · replace H := hC
          refine wpc_block ?_
          refine wpc_block ?_
          refine wpc_seq_k fun K84 hK85 => ?_
          refine wpc_block ?_
          refine wpc_seq_k fun K86 hK87 => ?_
          obtain ⟨o108, hC, H⟩ := bind_some H
          refine wpc_mono (Q := fun e r ds w => match (generalizing := false) o108 with | (Sum.inl v88) => e = .normal ∧ ds = [] ∧ ∃ (G92 : Gh), G65 ≤ G92 ∧ Has [(4, Value.int .i64 v31), (5, Value.bool v32), (12, Value.pointer (some ⟨g24, 0, none⟩))] r ∧ Hp G92 (ob g24 (Obj.stringIter a1 v88) :: L) w ∧ True | (Sum.inr (Sum.inl v89)) => e = .exit 6 ∧ ds = [] ∧ ∃ (G96 : Gh), G65 ≤ G96 ∧ Has [(4, Value.int .i64 v31), (5, Value.bool v32), (12, Value.pointer (some ⟨g24, 0, none⟩))] r ∧ Hp G96 (ob g24 (Obj.stringIter a1 v89) :: L) w ∧ True | (Sum.inr (Sum.inr (Sum.inl v90))) => e = .exit 5 ∧ ds = [] ∧ ∃ (G100 : Gh), G65 ≤ G100 ∧ Has [(4, Value.int .i64 v31), (5, Value.bool v32), (12, Value.pointer (some ⟨g24, 0, none⟩))] r ∧ Hp G100 (ob g24 (Obj.stringIter a1 v90) :: L) w ∧ True | (Sum.inr (Sum.inr (Sum.inr v91))) => e = .exit 4 ∧ ds = [] ∧ ∃ (G104 : Gh), G65 ≤ G104 ∧ Has [(4, Value.int .i64 v31), (12, Value.pointer (some ⟨g24, 0, none⟩))] r ∧ Hp G104 (ob g24 (Obj.stringIter a1 v91) :: L) w ∧ True) ?_ ?_
          · replace H := hC
            refine wpc_block ?_
            refine wpc_seq_k fun K109 hK110 => ?_
            refine wpc_seq_k fun K111 hK112 => ?_
            refine wpc_seq_k fun K113 hK114 => ?_
            refine wpc_region ?_
            refine q_eql rfl rfl ?_
            refine q_as (v := Value.bool (decide (y69 = 6))) rfl ?_
            refine wpq_nil ?_
            refine hK114 _ _ _ ?_
            by_cases h115 : y69 = 6
            · replace H := ite_yes h115 H
              refine wpc_true (bool_yes h115) ?_
              refine wpc_exit ?_
              cases H
              exact ⟨rfl, rfl, _, (Gh.le_refl _), ⟨rfl, rfl, rfl, trivial⟩, hI68, trivial⟩
            · replace H := ite_no h115 H
              refine wpc_false (bool_no h115) ?_
              refine wpc_skip ?_
              refine hK112 _ _ _ ?_
              refine wpc_seq_k fun K116 hK117 => ?_
              refine wpc_seq_k fun K118 hK119 => ?_
              refine wpc_region ?_
              refine q_eql rfl rfl ?_
              refine q_as (v := Value.bool (decide (y69 = 4))) rfl ?_
              refine wpq_nil ?_
              refine hK119 _ _ _ ?_
              by_cases h120 : y69 = 4
              · replace H := ite_yes h120 H
                refine wpc_true (bool_yes h120) ?_
                refine wpc_exit ?_
                cases H
                exact ⟨rfl, rfl, _, (Gh.le_refl _), ⟨rfl, rfl, trivial⟩, hI68, trivial⟩
              · replace H := ite_no h120 H
                refine wpc_false (bool_no h120) ?_
                refine wpc_skip ?_
                refine hK117 _ _ _ ?_
                refine wpc_seq_k fun K121 hK122 => ?_
                refine wpc_seq_k fun K123 hK124 => ?_
                refine wpc_region ?_
                refine q_eql rfl rfl ?_
                refine q_as (v := Value.bool (decide (y69 = 1))) rfl ?_
                refine wpq_nil ?_
                refine hK124 _ _ _ ?_
                by_cases h125 : y69 = 1
                · replace H := ite_yes h125 H
                  refine wpc_true (bool_yes h125) ?_
                  refine wpc_skip ?_
                  refine hK122 _ _ _ ?_
                  refine wpc_true (bool_yes h125) ?_
                  refine wpc_exit ?_
                  cases H
                  exact ⟨rfl, rfl, _, (Gh.le_refl _), ⟨rfl, rfl, rfl, trivial⟩, hI68, trivial⟩
                · replace H := ite_no h125 H
                  refine wpc_false (bool_no h125) ?_
                  refine wpc_seq_k fun K126 hK127 => ?_
                  refine wpc_region ?_
                  refine q_eql rfl rfl ?_
                  refine q_as (v := Value.bool (decide (y69 = 2))) rfl ?_
                  refine wpq_nil ?_
                  refine hK127 _ _ _ ?_
                  by_cases h128 : y69 = 2
                  · replace H := ite_yes h128 H
                    refine wpc_true (bool_yes h128) ?_
                    refine wpc_skip ?_
                    refine hK122 _ _ _ ?_
                    refine wpc_true (bool_yes h128) ?_
                    refine wpc_exit ?_
                    cases H
                    exact ⟨rfl, rfl, _, (Gh.le_refl _), ⟨rfl, rfl, rfl, trivial⟩, hI68, trivial⟩
                  · replace H := ite_no h128 H
                    refine wpc_false (bool_no h128) ?_
                    refine wpc_region ?_
                    refine q_eql rfl rfl ?_
                    refine q_as (v := Value.bool (decide (y69 = 3))) rfl ?_
                    refine wpq_nil ?_
                    refine hK122 _ _ _ ?_
                    by_cases h129 : y69 = 3
                    · replace H := ite_yes h129 H
                      refine wpc_true (bool_yes h129) ?_
                      refine wpc_exit ?_
                      cases H
                      exact ⟨rfl, rfl, _, (Gh.le_refl _), ⟨rfl, rfl, rfl, trivial⟩, hI68, trivial⟩
                    · replace H := ite_no h129 H
                      refine wpc_false (bool_no h129) ?_
                      refine wpc_skip ?_
                      refine hK110 _ _ _ ?_
                      refine wpc_exit ?_
                      cases H
                      exact ⟨rfl, rfl, _, (Gh.le_refl _), ⟨rfl, rfl, rfl, trivial⟩, hI68, trivial⟩
          · clear hC
            rcases o108 with v88 | v89 | v90 | v91
            · rintro e r ds wd94 ⟨rfl, rfl, G92, hG93, hHas, hI95, _⟩
              rw [hHas.eq]; clear hHas
              refine hK87 _ _ _ ?_
              refine wpc_exit ?_
              cases H
              exact ⟨rfl, rfl, _, hG93, ⟨rfl, rfl, rfl, trivial⟩, hI95, trivial⟩
            · rintro e r ds wd98 ⟨rfl, rfl, G96, hG97, hHas, hI99, _⟩
              rw [hHas.eq]; clear hHas
              cases H
              exact ⟨rfl, rfl, _, hG97, ⟨rfl, rfl, rfl, trivial⟩, hI99, trivial⟩
            · rintro e r ds wd102 ⟨rfl, rfl, G100, hG101, hHas, hI103, _⟩
              rw [hHas.eq]; clear hHas
              cases H
              exact ⟨rfl, rfl, _, hG101, ⟨rfl, rfl, rfl, trivial⟩, hI103, trivial⟩
            · rintro e r ds wd106 ⟨rfl, rfl, G104, hG105, hHas, hI107, _⟩
              rw [hHas.eq]; clear hHas
              refine hK85 _ _ _ ?_
              refine wpc_seq_k fun K130 hK131 => ?_
              refine wpc_region ?_
              refine q_as (v := Value.bool false) rfl ?_
              refine wpq_nil ?_
              refine hK131 _ _ _ ?_
              refine wpc_exit ?_
              cases H
              exact ⟨rfl, rfl, _, hG105, ⟨rfl, rfl, rfl, trivial⟩, hI107, trivial⟩
        · clear hC
          rcases o83 with v72 | ⟨v73, v74⟩
          · rintro e r ds wd77 ⟨rfl, rfl, G75, hG76, hHas, hI78, _⟩
            rw [hHas.eq]; clear hHas
            refine hK71 _ _ _ ?_
            refine wpc_seq_k fun K132 hK133 => ?_
            refine wpc_seq_k fun K134 hK135 => ?_
            refine wpc_seq_k fun K136 hK137 => ?_
            refine wpc_region ?_
            refine q_mv (v := Value.bool v32) rfl ?_
            refine q_not rfl ?_
            refine wpq_nil ?_
            refine hK137 _ _ _ ?_
            by_cases h138 : (!v32) = true
            · replace H := ite_yes h138 H
              refine wpc_true (bval_yes h138) ?_
              refine wpc_region ?_
              refine q_mv (v := Value.int .i64 v31) rfl ?_
              refine q_add rfl rfl ?_
              refine q_as (v := Value.int .i64 (w64 (v31 + 1))) rfl ?_
              refine wpq_nil ?_
              refine hK135 _ _ _ ?_
              refine wpc_region ?_
              refine q_as (v := Value.bool true) rfl ?_
              refine wpq_nil ?_
              refine hK133 _ _ _ ?_
              refine wpc_exit ?_
              exact ih _ _ _ _ H _ _ _ (Gh.le_trans (Gh.le_trans hG50 hG66) hG76) ⟨rfl, rfl, rfl, trivial⟩ hI78 rfl
            · replace H := ite_no h138 H
              refine wpc_false (bval_no h138) ?_
              refine wpc_skip ?_
              refine hK135 _ _ _ ?_
              refine wpc_region ?_
              refine q_as (v := Value.bool true) rfl ?_
              refine wpq_nil ?_
              refine hK133 _ _ _ ?_
              refine wpc_exit ?_
              exact ih _ _ _ _ H _ _ _ (Gh.le_trans (Gh.le_trans hG50 hG66) hG76) ⟨rfl, rfl, rfl, trivial⟩ hI78 rfl
          · rintro e r ds wd81 ⟨rfl, rfl, G79, hG80, hHas, hI82, _⟩
            rw [hHas.eq]; clear hHas
            exact ih _ _ _ _ H _ _ _ (Gh.le_trans (Gh.le_trans hG50 hG66) hG80) ⟨rfl, rfl, rfl, trivial⟩ hI82 rfl
      · replace H := ite_no h55 H
        refine q_nxn hI52 0 rfl rfl h55 ?_
        refine q_ex (v := Value.bool false) rfl rfl ?_
        refine wpq_nil ?_
        refine hK54 _ _ _ ?_
        refine wpc_seq_k fun K139 hK140 => ?_
        refine wpc_false rfl ?_
        refine wpc_exit ?_
        cases H
        exact ⟨rfl, rfl, _, hG50, ⟨rfl, trivial⟩, hI52, trivial⟩
    · clear hC
      rintro e r ds wd46 ⟨rfl, rfl, G44, hG45, hHas, hI47, _⟩
      rw [hHas.eq]; clear hHas
      refine hK20 _ _ _ ?_
      refine wpc_seq_k fun K141 hK142 => ?_
      refine wpc_region ?_
      refine q_mv (v := Value.int .i64 v42) rfl ?_
      refine q_as (v := Value.int .i64 v42) rfl ?_
      refine q_as (v := Value.int .i64 0) rfl ?_
      refine wpq_nil ?_
      refine hK142 _ _ _ ?_
      refine wpc_ret ?_
      have hI143 := Hp.sub hI47 (List.Sublist.cons _ (List.Sublist.refl _))
      cases H
      exact ⟨.inr rfl, rfl, _, ⟨_, _, rfl, rfl, ⟨_, _, rfl, rfl, rfl⟩⟩, _, (Gh.le_trans hG10 hG45), hI143, rfl⟩
set_option maxHeartbeats 1000000 in
theorem strings_Trim_spec {a0 : ByteArray} {a1 : ByteArray} {r0 : ByteArray} {G : Gh} {L : List Itm} {w : World} (hI : Hp G L w) (H : strings_Trim a0 a1 = some r0) :
    Calls Tryd.prog 28 [Value.string a0, Value.string a1].toArray w fun e w' => ∃ (G' : Gh), G ≤ G' ∧ Hp G' L w' ∧ e = .returned (Value.string r0) := by
  unfold strings_Trim at H
  obtain ⟨hs, H⟩ := ite_some H
  split at H
  · rename_i b hb
    obtain ⟨hc, H⟩ := ite_some H
    cases H
    rw [one_byte hb]
    exact of_drew hI (Any.strings_Trim_one Tryd.l160 a0 b hc w hs)
  · cases H
set_option maxHeartbeats 1000000 in
theorem text_Trim_spec {a1 : ByteArray} {r1025 : ByteArray} {r1026 : Int} {G : Gh} {L : List Itm} {w : World} (hI : Hp G (L) w) (H : text_Trim a1 = some (r1025, r1026)) :
    Calls Tryd.prog 18 [Value.string a1].toArray w fun e w' => ∃ (G' : Gh), G ≤ G' ∧ Hp G' (L) w' ∧ e = .returned (Value.tuple [Value.string r1025, Value.int .i64 r1026].toArray) := by
  refine calls_intro (N := 9) Tryd.func18 rfl rfl (Nat.le_of_ble_eq_true rfl) ?_
  unfold text_Trim at H
  refine wpc_seq_k fun K2 hK3 => ?_
  refine wpc_region ?_
  refine q_as (v := Value.string (⟨#[]⟩ : ByteArray)) rfl ?_
  refine q_as (v := Value.int .i64 0) rfl ?_
  refine wpq_nil ?_
  refine hK3 _ _ _ ?_
  refine wpc_seq_k fun K4 hK5 => ?_
  refine wpc_seq_k fun K6 hK7 => ?_
  refine wpc_region ?_
  refine q_mv (v := Value.string a1) rfl ?_
  obtain ⟨y13, hy8, H⟩ := bind_some H
  refine q_cv (vs := [Value.string a1]) bo12 rfl rfl (text_Valid_spec hI hy8) ?_
  rintro _ wd11 ⟨G9, hG10, hI12, rfl⟩
  refine ⟨_, rfl, ?_⟩
  refine q_not rfl ?_
  refine wpq_nil ?_
  refine hK7 _ _ _ ?_
  by_cases h14 : (!y13) = true
  · replace H := ite_yes h14 H
    refine wpc_true (bval_yes h14) ?_
    refine wpc_seq_k fun K15 hK16 => ?_
    refine wpc_region ?_
    refine q_as (v := Value.string (⟨#[]⟩ : ByteArray)) rfl ?_
    refine q_as (v := Value.int .i64 1) rfl ?_
    refine wpq_nil ?_
    refine hK16 _ _ _ ?_
    refine wpc_ret ?_
    cases H
    exact ⟨.inr rfl, rfl, _, ⟨_, _, rfl, rfl, ⟨_, _, rfl, rfl, rfl⟩⟩, _, hG10, hI12, rfl⟩
  · replace H := ite_no h14 H
    refine wpc_false (bval_no h14) ?_
    refine wpc_skip ?_
    refine hK5 _ _ _ ?_
    refine wpc_seq_k fun K17 hK18 => ?_
    refine wpc_region ?_
    refine q_mv (v := Value.string a1) rfl ?_
    obtain ⟨y24, hy19, H⟩ := bind_some H
    refine q_cv (vs := [Value.string a1, Value.string (⟨#[32]⟩ : ByteArray)]) bo28 rfl rfl (strings_Trim_spec hI12 hy19) ?_
    rintro _ wd22 ⟨G20, hG21, hI23, rfl⟩
    refine ⟨_, rfl, ?_⟩
    refine q_as (v := Value.string y24) rfl ?_
    refine q_as (v := Value.int .i64 0) rfl ?_
    refine wpq_nil ?_
    refine hK18 _ _ _ ?_
    refine wpc_ret ?_
    cases H
    exact ⟨.inr rfl, rfl, _, ⟨_, _, rfl, rfl, ⟨_, _, rfl, rfl, rfl⟩⟩, _, (Gh.le_trans hG10 hG21), hI23, rfl⟩
set_option maxHeartbeats 1000000 in
theorem formelaw06_head_spec {r1219 : Bool} {G : Gh} {L : List Itm} {w : World} (hI : Hp G (L) w) (hgl : Gl G) (H : formelaw06_head = some r1219) :
    Calls Tryd.prog 9 [].toArray w fun e w' => ∃ (G' : Gh), G ≤ G' ∧ Hp G' (L) w' ∧ e = .returned (Value.bool r1219) := by
  refine calls_intro (N := 115) Tryd.func9 rfl rfl (Nat.le_of_ble_eq_true rfl) ?_
  unfold formelaw06_head at H
  refine wpc_seq_k fun K1 hK2 => ?_
  refine wpc_region ?_
  refine q_as (v := Value.bool false) rfl ?_
  refine wpq_nil ?_
  refine hK2 _ _ _ ?_
  refine wpc_seq_k fun K3 hK4 => ?_
  refine wpc_region ?_
  obtain ⟨⟨y10, y11⟩, hy5, H⟩ := bind_some H
  refine q_cv (vs := [Value.string (⟨#[97, 98, 126, 99, 100, 32, 101]⟩ : ByteArray)]) bo10 rfl rfl (text_Shown_spec hI (hgl.mono (Gh.le_refl _)) hy5) ?_
  rintro _ wd8 ⟨G6, hG7, hI9, rfl⟩
  refine ⟨_, rfl, ?_⟩
  refine q_mv (v := Value.tuple [Value.string y10, Value.int .i64 y11].toArray) rfl ?_
  refine q_ex (v := Value.string y10) rfl rfl ?_
  refine q_ex (v := Value.int .i64 y11) rfl rfl ?_
  refine q_as (v := Value.string y10) rfl ?_
  refine q_as (v := Value.int .i64 y11) rfl ?_
  refine wpq_nil ?_
  refine hK4 _ _ _ ?_
  refine wpc_seq_k fun K12 hK13 => ?_
  refine wpc_region ?_
  obtain ⟨⟨y19, y20⟩, hy14, H⟩ := bind_some H
  refine q_cv (vs := [Value.string (⟨#[97, 98, 126, 99, 100, 32, 101]⟩ : ByteArray)]) bo16 rfl rfl (text_Words_spec hI9 hy14) ?_
  rintro _ wd17 ⟨G15, hG16, hI18, rfl⟩
  refine ⟨_, rfl, ?_⟩
  refine q_mv (v := Value.tuple [Value.int .i64 y19, Value.int .i64 y20].toArray) rfl ?_
  refine q_ex (v := Value.int .i64 y19) rfl rfl ?_
  refine q_ex (v := Value.int .i64 y20) rfl rfl ?_
  refine q_as (v := Value.int .i64 y19) rfl ?_
  refine q_as (v := Value.int .i64 y20) rfl ?_
  refine wpq_nil ?_
  refine hK13 _ _ _ ?_
  refine wpc_seq_k fun K21 hK22 => ?_
  refine wpc_region ?_
  obtain ⟨⟨y28, y29⟩, hy23, H⟩ := bind_some H
  refine q_cv (vs := [Value.string (⟨#[32, 120, 32, 32]⟩ : ByteArray)]) bo18 rfl rfl (text_Trim_spec hI18 hy23) ?_
  rintro _ wd26 ⟨G24, hG25, hI27, rfl⟩
  refine ⟨_, rfl, ?_⟩
  refine q_mv (v := Value.tuple [Value.string y28, Value.int .i64 y29].toArray) rfl ?_
  refine q_ex (v := Value.string y28) rfl rfl ?_
  refine q_ex (v := Value.int .i64 y29) rfl rfl ?_
  refine q_as (v := Value.string y28) rfl ?_
  refine q_as (v := Value.int .i64 y29) rfl ?_
  refine wpq_nil ?_
  refine hK22 _ _ _ ?_
  refine wpc_seq_k fun K30 hK31 => ?_
  refine wpc_region ?_
  obtain ⟨⟨y37, y38⟩, hy32, H⟩ := bind_some H
  refine q_cv (vs := [Value.string (⟨#[32, 120, 32, 32]⟩ : ByteArray)]) bo16 rfl rfl (text_Words_spec hI27 hy32) ?_
  rintro _ wd35 ⟨G33, hG34, hI36, rfl⟩
  refine ⟨_, rfl, ?_⟩
  refine q_mv (v := Value.tuple [Value.int .i64 y37, Value.int .i64 y38].toArray) rfl ?_
  refine q_ex (v := Value.int .i64 y37) rfl rfl ?_
  refine q_ex (v := Value.int .i64 y38) rfl rfl ?_
  refine q_as (v := Value.int .i64 y37) rfl ?_
  refine q_as (v := Value.int .i64 y38) rfl ?_
  refine wpq_nil ?_
  refine hK31 _ _ _ ?_
  refine wpc_seq_k fun K39 hK40 => ?_
  refine wpc_region ?_
  obtain ⟨⟨y46, y47⟩, hy41, H⟩ := bind_some H
  refine q_cv (vs := [Value.string (⟨#[126, 32, 126]⟩ : ByteArray)]) bo16 rfl rfl (text_Words_spec hI36 hy41) ?_
  rintro _ wd44 ⟨G42, hG43, hI45, rfl⟩
  refine ⟨_, rfl, ?_⟩
  refine q_mv (v := Value.tuple [Value.int .i64 y46, Value.int .i64 y47].toArray) rfl ?_
  refine q_ex (v := Value.int .i64 y46) rfl rfl ?_
  refine q_ex (v := Value.int .i64 y47) rfl rfl ?_
  refine q_as (v := Value.int .i64 y46) rfl ?_
  refine q_as (v := Value.int .i64 y47) rfl ?_
  refine wpq_nil ?_
  refine hK40 _ _ _ ?_
  refine wpc_seq_k fun K48 hK49 => ?_
  refine wpc_region ?_
  obtain ⟨⟨y55, y56⟩, hy50, H⟩ := bind_some H
  refine q_cv (vs := [Value.string (⟨#[126, 32, 126]⟩ : ByteArray)]) bo10 rfl rfl (text_Shown_spec hI45 (hgl.mono (Gh.le_trans (Gh.le_trans (Gh.le_trans (Gh.le_trans hG7 hG16) hG25) hG34) hG43)) hy50) ?_
  rintro _ wd53 ⟨G51, hG52, hI54, rfl⟩
  refine ⟨_, rfl, ?_⟩
  refine q_mv (v := Value.tuple [Value.string y55, Value.int .i64 y56].toArray) rfl ?_
  refine q_ex (v := Value.string y55) rfl rfl ?_
  refine q_ex (v := Value.int .i64 y56) rfl rfl ?_
  refine q_as (v := Value.string y55) rfl ?_
  refine q_as (v := Value.int .i64 y56) rfl ?_
  refine wpq_nil ?_
  refine hK49 _ _ _ ?_
  refine wpc_seq_k fun K57 hK58 => ?_
  refine wpc_region ?_
  obtain ⟨⟨y64, y65⟩, hy59, H⟩ := bind_some H
  refine q_cv (vs := [Value.string (⟨#[97, 10]⟩ : ByteArray)]) bo10 rfl rfl (text_Shown_spec hI54 (hgl.mono (Gh.le_trans (Gh.le_trans (Gh.le_trans (Gh.le_trans (Gh.le_trans hG7 hG16) hG25) hG34) hG43) hG52)) hy59) ?_
  rintro _ wd62 ⟨G60, hG61, hI63, rfl⟩
  refine ⟨_, rfl, ?_⟩
  refine q_mv (v := Value.tuple [Value.string y64, Value.int .i64 y65].toArray) rfl ?_
  refine q_ex (v := Value.string y64) rfl rfl ?_
  refine q_ex (v := Value.int .i64 y65) rfl rfl ?_
  refine q_as (v := Value.string y64) rfl ?_
  refine q_as (v := Value.int .i64 y65) rfl ?_
  refine wpq_nil ?_
  refine hK58 _ _ _ ?_
  refine wpc_seq_k fun K66 hK67 => ?_
  refine wpc_region ?_
  refine q_mv (v := Value.int .i64 y11) rfl ?_
  refine q_eql rfl rfl ?_
  refine q_mv (v := Value.bool (decide (y11 = 0))) rfl ?_
  obtain ⟨v68, hC, H⟩ := bind_some H
  refine wpq_split 3 (K := fun e r ds w => e = .normal ∧ ds = [] ∧ ∃ (G69 : Gh), G60 ≤ G69 ∧ Has [(1, Value.string y10), (3, Value.int .i64 y19), (5, Value.string y28), (6, Value.int .i64 y29), (7, Value.int .i64 y37), (8, Value.int .i64 y38), (9, Value.int .i64 y46), (10, Value.int .i64 y47), (11, Value.string y55), (12, Value.int .i64 y56), (14, Value.int .i64 y65), (49, Value.bool v68)] r ∧ Hp G69 (L) w ∧ True) ?_ ?_
  · replace H := hC
    by_cases h74 : y11 = 0
    · replace H := ite_yes h74 H
      refine q_mv (v := Value.int .i64 y20) rfl ?_ (hw := guard_yes rfl rfl rfl (bool_yes h74))
      refine q_eql rfl rfl ?_ (hw := guard_yes rfl rfl rfl (bool_yes h74))
      refine q_pick true (v := Value.bool (decide (y20 = 0))) (bool_yes h74) rfl ?_
      refine wpq_nil ?_
      cases H
      exact ⟨rfl, rfl, _, (Gh.le_refl _), ⟨rfl, rfl, rfl, rfl, rfl, rfl, rfl, rfl, rfl, rfl, rfl, rfl, trivial⟩, hI63, trivial⟩
    · replace H := ite_no h74 H
      refine wpq_no (guard_no rfl rfl rfl (bool_no h74) rfl) ?_
      refine wpq_no (guard_no rfl rfl rfl (bool_no h74) rfl) ?_
      refine q_pick false (v := Value.bool false) (bool_no h74) rfl ?_
      refine wpq_nil ?_
      cases H
      exact ⟨rfl, rfl, _, (Gh.le_refl _), ⟨rfl, rfl, rfl, rfl, rfl, rfl, rfl, rfl, rfl, rfl, rfl, rfl, trivial⟩, hI63, trivial⟩
  · clear hC
    rintro e r ds wd71 ⟨rfl, rfl, G69, hG70, hHas, hI72, _⟩
    rw [hHas.eq]; clear hHas
    refine q_mv (v := Value.bool v68) rfl ?_
    obtain ⟨v75, hC, H⟩ := bind_some H
    refine wpq_split 3 (K := fun e r ds w => e = .normal ∧ ds = [] ∧ ∃ (G76 : Gh), G69 ≤ G76 ∧ Has [(1, Value.string y10), (3, Value.int .i64 y19), (5, Value.string y28), (7, Value.int .i64 y37), (8, Value.int .i64 y38), (9, Value.int .i64 y46), (10, Value.int .i64 y47), (11, Value.string y55), (12, Value.int .i64 y56), (14, Value.int .i64 y65), (53, Value.bool v75)] r ∧ Hp G76 (L) w ∧ True) ?_ ?_
    · replace H := hC
      by_cases h81 : v68 = true
      · replace H := ite_yes h81 H
        refine q_mv (v := Value.int .i64 y29) rfl ?_ (hw := guard_yes rfl rfl rfl (bval_yes h81))
        refine q_eql rfl rfl ?_ (hw := guard_yes rfl rfl rfl (bval_yes h81))
        refine q_pick true (v := Value.bool (decide (y29 = 0))) (bval_yes h81) rfl ?_
        refine wpq_nil ?_
        cases H
        exact ⟨rfl, rfl, _, (Gh.le_refl _), ⟨rfl, rfl, rfl, rfl, rfl, rfl, rfl, rfl, rfl, rfl, rfl, trivial⟩, hI72, trivial⟩
      · replace H := ite_no h81 H
        refine wpq_no (guard_no rfl rfl rfl (bval_no h81) rfl) ?_
        refine wpq_no (guard_no rfl rfl rfl (bval_no h81) rfl) ?_
        refine q_pick false (v := Value.bool false) (bval_no h81) rfl ?_
        refine wpq_nil ?_
        cases H
        exact ⟨rfl, rfl, _, (Gh.le_refl _), ⟨rfl, rfl, rfl, rfl, rfl, rfl, rfl, rfl, rfl, rfl, rfl, trivial⟩, hI72, trivial⟩
    · clear hC
      rintro e r ds wd78 ⟨rfl, rfl, G76, hG77, hHas, hI79, _⟩
      rw [hHas.eq]; clear hHas
      refine q_mv (v := Value.bool v75) rfl ?_
      obtain ⟨v82, hC, H⟩ := bind_some H
      refine wpq_split 3 (K := fun e r ds w => e = .normal ∧ ds = [] ∧ ∃ (G83 : Gh), G76 ≤ G83 ∧ Has [(1, Value.string y10), (3, Value.int .i64 y19), (5, Value.string y28), (7, Value.int .i64 y37), (9, Value.int .i64 y46), (10, Value.int .i64 y47), (11, Value.string y55), (12, Value.int .i64 y56), (14, Value.int .i64 y65), (57, Value.bool v82)] r ∧ Hp G83 (L) w ∧ True) ?_ ?_
      · replace H := hC
        by_cases h88 : v75 = true
        · replace H := ite_yes h88 H
          refine q_mv (v := Value.int .i64 y38) rfl ?_ (hw := guard_yes rfl rfl rfl (bval_yes h88))
          refine q_eql rfl rfl ?_ (hw := guard_yes rfl rfl rfl (bval_yes h88))
          refine q_pick true (v := Value.bool (decide (y38 = 0))) (bval_yes h88) rfl ?_
          refine wpq_nil ?_
          cases H
          exact ⟨rfl, rfl, _, (Gh.le_refl _), ⟨rfl, rfl, rfl, rfl, rfl, rfl, rfl, rfl, rfl, rfl, trivial⟩, hI79, trivial⟩
        · replace H := ite_no h88 H
          refine wpq_no (guard_no rfl rfl rfl (bval_no h88) rfl) ?_
          refine wpq_no (guard_no rfl rfl rfl (bval_no h88) rfl) ?_
          refine q_pick false (v := Value.bool false) (bval_no h88) rfl ?_
          refine wpq_nil ?_
          cases H
          exact ⟨rfl, rfl, _, (Gh.le_refl _), ⟨rfl, rfl, rfl, rfl, rfl, rfl, rfl, rfl, rfl, rfl, trivial⟩, hI79, trivial⟩
      · clear hC
        rintro e r ds wd85 ⟨rfl, rfl, G83, hG84, hHas, hI86, _⟩
        rw [hHas.eq]; clear hHas
        refine q_mv (v := Value.bool v82) rfl ?_
        obtain ⟨v89, hC, H⟩ := bind_some H
        refine wpq_split 3 (K := fun e r ds w => e = .normal ∧ ds = [] ∧ ∃ (G90 : Gh), G83 ≤ G90 ∧ Has [(1, Value.string y10), (3, Value.int .i64 y19), (5, Value.string y28), (7, Value.int .i64 y37), (9, Value.int .i64 y46), (11, Value.string y55), (12, Value.int .i64 y56), (14, Value.int .i64 y65), (61, Value.bool v89)] r ∧ Hp G90 (L) w ∧ True) ?_ ?_
        · replace H := hC
          by_cases h95 : v82 = true
          · replace H := ite_yes h95 H
            refine q_mv (v := Value.int .i64 y47) rfl ?_ (hw := guard_yes rfl rfl rfl (bval_yes h95))
            refine q_eql rfl rfl ?_ (hw := guard_yes rfl rfl rfl (bval_yes h95))
            refine q_pick true (v := Value.bool (decide (y47 = 0))) (bval_yes h95) rfl ?_
            refine wpq_nil ?_
            cases H
            exact ⟨rfl, rfl, _, (Gh.le_refl _), ⟨rfl, rfl, rfl, rfl, rfl, rfl, rfl, rfl, rfl, trivial⟩, hI86, trivial⟩
          · replace H := ite_no h95 H
            refine wpq_no (guard_no rfl rfl rfl (bval_no h95) rfl) ?_
            refine wpq_no (guard_no rfl rfl rfl (bval_no h95) rfl) ?_
            refine q_pick false (v := Value.bool false) (bval_no h95) rfl ?_
            refine wpq_nil ?_
            cases H
            exact ⟨rfl, rfl, _, (Gh.le_refl _), ⟨rfl, rfl, rfl, rfl, rfl, rfl, rfl, rfl, rfl, trivial⟩, hI86, trivial⟩
        · clear hC
          rintro e r ds wd92 ⟨rfl, rfl, G90, hG91, hHas, hI93, _⟩
          rw [hHas.eq]; clear hHas
          refine q_mv (v := Value.bool v89) rfl ?_
          obtain ⟨v96, hC, H⟩ := bind_some H
          refine wpq_split 3 (K := fun e r ds w => e = .normal ∧ ds = [] ∧ ∃ (G97 : Gh), G90 ≤ G97 ∧ Has [(1, Value.string y10), (3, Value.int .i64 y19), (5, Value.string y28), (7, Value.int .i64 y37), (9, Value.int .i64 y46), (11, Value.string y55), (14, Value.int .i64 y65), (65, Value.bool v96)] r ∧ Hp G97 (L) w ∧ True) ?_ ?_
          · replace H := hC
            by_cases h102 : v89 = true
            · replace H := ite_yes h102 H
              refine q_mv (v := Value.int .i64 y56) rfl ?_ (hw := guard_yes rfl rfl rfl (bval_yes h102))
              refine q_eql rfl rfl ?_ (hw := guard_yes rfl rfl rfl (bval_yes h102))
              refine q_pick true (v := Value.bool (decide (y56 = 0))) (bval_yes h102) rfl ?_
              refine wpq_nil ?_
              cases H
              exact ⟨rfl, rfl, _, (Gh.le_refl _), ⟨rfl, rfl, rfl, rfl, rfl, rfl, rfl, rfl, trivial⟩, hI93, trivial⟩
            · replace H := ite_no h102 H
              refine wpq_no (guard_no rfl rfl rfl (bval_no h102) rfl) ?_
              refine wpq_no (guard_no rfl rfl rfl (bval_no h102) rfl) ?_
              refine q_pick false (v := Value.bool false) (bval_no h102) rfl ?_
              refine wpq_nil ?_
              cases H
              exact ⟨rfl, rfl, _, (Gh.le_refl _), ⟨rfl, rfl, rfl, rfl, rfl, rfl, rfl, rfl, trivial⟩, hI93, trivial⟩
          · clear hC
            rintro e r ds wd99 ⟨rfl, rfl, G97, hG98, hHas, hI100, _⟩
            rw [hHas.eq]; clear hHas
            refine q_mv (v := Value.bool v96) rfl ?_
            obtain ⟨v103, hC, H⟩ := bind_some H
            refine wpq_split 3 (K := fun e r ds w => e = .normal ∧ ds = [] ∧ ∃ (G104 : Gh), G97 ≤ G104 ∧ Has [(1, Value.string y10), (3, Value.int .i64 y19), (5, Value.string y28), (7, Value.int .i64 y37), (9, Value.int .i64 y46), (11, Value.string y55), (69, Value.bool v103)] r ∧ Hp G104 (L) w ∧ True) ?_ ?_
            · replace H := hC
              by_cases h109 : v96 = true
              · replace H := ite_yes h109 H
                refine q_mv (v := Value.int .i64 y65) rfl ?_ (hw := guard_yes rfl rfl rfl (bval_yes h109))
                refine q_eql rfl rfl ?_ (hw := guard_yes rfl rfl rfl (bval_yes h109))
                refine q_pick true (v := Value.bool (decide (y65 = 1))) (bval_yes h109) rfl ?_
                refine wpq_nil ?_
                cases H
                exact ⟨rfl, rfl, _, (Gh.le_refl _), ⟨rfl, rfl, rfl, rfl, rfl, rfl, rfl, trivial⟩, hI100, trivial⟩
              · replace H := ite_no h109 H
                refine wpq_no (guard_no rfl rfl rfl (bval_no h109) rfl) ?_
                refine wpq_no (guard_no rfl rfl rfl (bval_no h109) rfl) ?_
                refine q_pick false (v := Value.bool false) (bval_no h109) rfl ?_
                refine wpq_nil ?_
                cases H
                exact ⟨rfl, rfl, _, (Gh.le_refl _), ⟨rfl, rfl, rfl, rfl, rfl, rfl, rfl, trivial⟩, hI100, trivial⟩
            · clear hC
              rintro e r ds wd106 ⟨rfl, rfl, G104, hG105, hHas, hI107, _⟩
              rw [hHas.eq]; clear hHas
              refine q_as (v := Value.bool v103) rfl ?_
              refine wpq_nil ?_
              refine hK67 _ _ _ ?_
              refine wpc_seq_k fun K110 hK111 => ?_
              refine wpc_region ?_
              refine q_mv (v := Value.bool v103) rfl ?_
              refine q_mv (v := Value.bool v103) rfl ?_
              obtain ⟨v112, hC, H⟩ := bind_some H
              refine wpq_split 3 (K := fun e r ds w => e = .normal ∧ ds = [] ∧ ∃ (G113 : Gh), G104 ≤ G113 ∧ Has [(3, Value.int .i64 y19), (5, Value.string y28), (7, Value.int .i64 y37), (9, Value.int .i64 y46), (11, Value.string y55), (74, Value.bool v112)] r ∧ Hp G113 (L) w ∧ True) ?_ ?_
              · replace H := hC
                by_cases h118 : v103 = true
                · replace H := ite_yes h118 H
                  refine q_mv (v := Value.string y10) rfl ?_ (hw := guard_yes rfl rfl rfl (bval_yes h118))
                  refine q_str_eql rfl rfl ?_ (hw := guard_yes rfl rfl rfl (bval_yes h118))
                  refine q_pick true (v := Value.bool (decide (y10 = (⟨#[97, 98, 99, 100, 32, 101]⟩ : ByteArray)))) (bval_yes h118) rfl ?_
                  refine wpq_nil ?_
                  cases H
                  exact ⟨rfl, rfl, _, (Gh.le_refl _), ⟨rfl, rfl, rfl, rfl, rfl, rfl, trivial⟩, hI107, trivial⟩
                · replace H := ite_no h118 H
                  refine wpq_no (guard_no rfl rfl rfl (bval_no h118) rfl) ?_
                  refine wpq_no (guard_no rfl rfl rfl (bval_no h118) rfl) ?_
                  refine q_pick false (v := Value.bool false) (bval_no h118) rfl ?_
                  refine wpq_nil ?_
                  cases H
                  exact ⟨rfl, rfl, _, (Gh.le_refl _), ⟨rfl, rfl, rfl, rfl, rfl, rfl, trivial⟩, hI107, trivial⟩
              · clear hC
                rintro e r ds wd115 ⟨rfl, rfl, G113, hG114, hHas, hI116, _⟩
                rw [hHas.eq]; clear hHas
                refine q_mv (v := Value.bool v112) rfl ?_
                obtain ⟨v119, hC, H⟩ := bind_some H
                refine wpq_split 3 (K := fun e r ds w => e = .normal ∧ ds = [] ∧ ∃ (G120 : Gh), G113 ≤ G120 ∧ Has [(5, Value.string y28), (7, Value.int .i64 y37), (9, Value.int .i64 y46), (11, Value.string y55), (78, Value.bool v119)] r ∧ Hp G120 (L) w ∧ True) ?_ ?_
                · replace H := hC
                  by_cases h125 : v112 = true
                  · replace H := ite_yes h125 H
                    refine q_mv (v := Value.int .i64 y19) rfl ?_ (hw := guard_yes rfl rfl rfl (bval_yes h125))
                    refine q_eql rfl rfl ?_ (hw := guard_yes rfl rfl rfl (bval_yes h125))
                    refine q_pick true (v := Value.bool (decide (y19 = 2))) (bval_yes h125) rfl ?_
                    refine wpq_nil ?_
                    cases H
                    exact ⟨rfl, rfl, _, (Gh.le_refl _), ⟨rfl, rfl, rfl, rfl, rfl, trivial⟩, hI116, trivial⟩
                  · replace H := ite_no h125 H
                    refine wpq_no (guard_no rfl rfl rfl (bval_no h125) rfl) ?_
                    refine wpq_no (guard_no rfl rfl rfl (bval_no h125) rfl) ?_
                    refine q_pick false (v := Value.bool false) (bval_no h125) rfl ?_
                    refine wpq_nil ?_
                    cases H
                    exact ⟨rfl, rfl, _, (Gh.le_refl _), ⟨rfl, rfl, rfl, rfl, rfl, trivial⟩, hI116, trivial⟩
                · clear hC
                  rintro e r ds wd122 ⟨rfl, rfl, G120, hG121, hHas, hI123, _⟩
                  rw [hHas.eq]; clear hHas
                  refine q_mv (v := Value.bool v119) rfl ?_
                  obtain ⟨v126, hC, H⟩ := bind_some H
                  refine wpq_split 3 (K := fun e r ds w => e = .normal ∧ ds = [] ∧ ∃ (G127 : Gh), G120 ≤ G127 ∧ Has [(7, Value.int .i64 y37), (9, Value.int .i64 y46), (11, Value.string y55), (82, Value.bool v126)] r ∧ Hp G127 (L) w ∧ True) ?_ ?_
                  · replace H := hC
                    by_cases h132 : v119 = true
                    · replace H := ite_yes h132 H
                      refine q_mv (v := Value.string y28) rfl ?_ (hw := guard_yes rfl rfl rfl (bval_yes h132))
                      refine q_str_eql rfl rfl ?_ (hw := guard_yes rfl rfl rfl (bval_yes h132))
                      refine q_pick true (v := Value.bool (decide (y28 = (⟨#[120]⟩ : ByteArray)))) (bval_yes h132) rfl ?_
                      refine wpq_nil ?_
                      cases H
                      exact ⟨rfl, rfl, _, (Gh.le_refl _), ⟨rfl, rfl, rfl, rfl, trivial⟩, hI123, trivial⟩
                    · replace H := ite_no h132 H
                      refine wpq_no (guard_no rfl rfl rfl (bval_no h132) rfl) ?_
                      refine wpq_no (guard_no rfl rfl rfl (bval_no h132) rfl) ?_
                      refine q_pick false (v := Value.bool false) (bval_no h132) rfl ?_
                      refine wpq_nil ?_
                      cases H
                      exact ⟨rfl, rfl, _, (Gh.le_refl _), ⟨rfl, rfl, rfl, rfl, trivial⟩, hI123, trivial⟩
                  · clear hC
                    rintro e r ds wd129 ⟨rfl, rfl, G127, hG128, hHas, hI130, _⟩
                    rw [hHas.eq]; clear hHas
                    refine q_mv (v := Value.bool v126) rfl ?_
                    obtain ⟨v133, hC, H⟩ := bind_some H
                    refine wpq_split 3 (K := fun e r ds w => e = .normal ∧ ds = [] ∧ ∃ (G134 : Gh), G127 ≤ G134 ∧ Has [(9, Value.int .i64 y46), (11, Value.string y55), (86, Value.bool v133)] r ∧ Hp G134 (L) w ∧ True) ?_ ?_
                    · replace H := hC
                      by_cases h139 : v126 = true
                      · replace H := ite_yes h139 H
                        refine q_mv (v := Value.int .i64 y37) rfl ?_ (hw := guard_yes rfl rfl rfl (bval_yes h139))
                        refine q_eql rfl rfl ?_ (hw := guard_yes rfl rfl rfl (bval_yes h139))
                        refine q_pick true (v := Value.bool (decide (y37 = 1))) (bval_yes h139) rfl ?_
                        refine wpq_nil ?_
                        cases H
                        exact ⟨rfl, rfl, _, (Gh.le_refl _), ⟨rfl, rfl, rfl, trivial⟩, hI130, trivial⟩
                      · replace H := ite_no h139 H
                        refine wpq_no (guard_no rfl rfl rfl (bval_no h139) rfl) ?_
                        refine wpq_no (guard_no rfl rfl rfl (bval_no h139) rfl) ?_
                        refine q_pick false (v := Value.bool false) (bval_no h139) rfl ?_
                        refine wpq_nil ?_
                        cases H
                        exact ⟨rfl, rfl, _, (Gh.le_refl _), ⟨rfl, rfl, rfl, trivial⟩, hI130, trivial⟩
                    · clear hC
                      rintro e r ds wd136 ⟨rfl, rfl, G134, hG135, hHas, hI137, _⟩
                      rw [hHas.eq]; clear hHas
                      refine q_mv (v := Value.bool v133) rfl ?_
                      obtain ⟨v140, hC, H⟩ := bind_some H
                      refine wpq_split 3 (K := fun e r ds w => e = .normal ∧ ds = [] ∧ ∃ (G141 : Gh), G134 ≤ G141 ∧ Has [(11, Value.string y55), (90, Value.bool v140)] r ∧ Hp G141 (L) w ∧ True) ?_ ?_
                      · replace H := hC
                        by_cases h146 : v133 = true
                        · replace H := ite_yes h146 H
                          refine q_mv (v := Value.int .i64 y46) rfl ?_ (hw := guard_yes rfl rfl rfl (bval_yes h146))
                          refine q_eql rfl rfl ?_ (hw := guard_yes rfl rfl rfl (bval_yes h146))
                          refine q_pick true (v := Value.bool (decide (y46 = 0))) (bval_yes h146) rfl ?_
                          refine wpq_nil ?_
                          cases H
                          exact ⟨rfl, rfl, _, (Gh.le_refl _), ⟨rfl, rfl, trivial⟩, hI137, trivial⟩
                        · replace H := ite_no h146 H
                          refine wpq_no (guard_no rfl rfl rfl (bval_no h146) rfl) ?_
                          refine wpq_no (guard_no rfl rfl rfl (bval_no h146) rfl) ?_
                          refine q_pick false (v := Value.bool false) (bval_no h146) rfl ?_
                          refine wpq_nil ?_
                          cases H
                          exact ⟨rfl, rfl, _, (Gh.le_refl _), ⟨rfl, rfl, trivial⟩, hI137, trivial⟩
                      · clear hC
                        rintro e r ds wd143 ⟨rfl, rfl, G141, hG142, hHas, hI144, _⟩
                        rw [hHas.eq]; clear hHas
                        refine q_mv (v := Value.bool v140) rfl ?_
                        obtain ⟨v147, hC, H⟩ := bind_some H
                        refine wpq_split 3 (K := fun e r ds w => e = .normal ∧ ds = [] ∧ ∃ (G148 : Gh), G141 ≤ G148 ∧ Has [(94, Value.bool v147)] r ∧ Hp G148 (L) w ∧ True) ?_ ?_
                        · replace H := hC
                          by_cases h153 : v140 = true
                          · replace H := ite_yes h153 H
                            refine q_mv (v := Value.string y55) rfl ?_ (hw := guard_yes rfl rfl rfl (bval_yes h153))
                            refine q_str_eql rfl rfl ?_ (hw := guard_yes rfl rfl rfl (bval_yes h153))
                            refine q_pick true (v := Value.bool (decide (y55 = (⟨#[32]⟩ : ByteArray)))) (bval_yes h153) rfl ?_
                            refine wpq_nil ?_
                            cases H
                            exact ⟨rfl, rfl, _, (Gh.le_refl _), ⟨rfl, trivial⟩, hI144, trivial⟩
                          · replace H := ite_no h153 H
                            refine wpq_no (guard_no rfl rfl rfl (bval_no h153) rfl) ?_
                            refine wpq_no (guard_no rfl rfl rfl (bval_no h153) rfl) ?_
                            refine q_pick false (v := Value.bool false) (bval_no h153) rfl ?_
                            refine wpq_nil ?_
                            cases H
                            exact ⟨rfl, rfl, _, (Gh.le_refl _), ⟨rfl, trivial⟩, hI144, trivial⟩
                        · clear hC
                          rintro e r ds wd150 ⟨rfl, rfl, G148, hG149, hHas, hI151, _⟩
                          rw [hHas.eq]; clear hHas
                          refine q_mv (v := Value.bool v147) rfl ?_
                          obtain ⟨v154, hC, H⟩ := bind_some H
                          refine wpq_split 3 (K := fun e r ds w => e = .normal ∧ ds = [] ∧ ∃ (G155 : Gh), G148 ≤ G155 ∧ Has [(98, Value.bool v154)] r ∧ Hp G155 (L) w ∧ True) ?_ ?_
                          · replace H := hC
                            by_cases h160 : v147 = true
                            · replace H := ite_yes h160 H
                              obtain ⟨y166, hy161, H⟩ := bind_some H
                              refine q_cv (vs := [Value.int .u8 97]) bo14 rfl rfl (text_Class_spec hI151 hy161) ?_ (hw := guard_yes rfl rfl rfl (bval_yes h160))
                              rintro _ wd164 ⟨G162, hG163, hI165, rfl⟩
                              refine ⟨_, rfl, ?_⟩
                              refine q_eql rfl rfl ?_ (hw := guard_yes rfl rfl rfl (bval_yes h160))
                              refine q_pick true (v := Value.bool (decide (y166 = 1))) (bval_yes h160) rfl ?_
                              refine wpq_nil ?_
                              cases H
                              exact ⟨rfl, rfl, _, hG163, ⟨rfl, trivial⟩, hI165, trivial⟩
                            · replace H := ite_no h160 H
                              refine wpq_no (guard_no rfl rfl rfl (bval_no h160) rfl) ?_
                              refine wpq_no (guard_no rfl rfl rfl (bval_no h160) rfl) ?_
                              refine q_pick false (v := Value.bool false) (bval_no h160) rfl ?_
                              refine wpq_nil ?_
                              cases H
                              exact ⟨rfl, rfl, _, (Gh.le_refl _), ⟨rfl, trivial⟩, hI151, trivial⟩
                          · clear hC
                            rintro e r ds wd157 ⟨rfl, rfl, G155, hG156, hHas, hI158, _⟩
                            rw [hHas.eq]; clear hHas
                            refine q_mv (v := Value.bool v154) rfl ?_
                            obtain ⟨v167, hC, H⟩ := bind_some H
                            refine wpq_split 3 (K := fun e r ds w => e = .normal ∧ ds = [] ∧ ∃ (G168 : Gh), G155 ≤ G168 ∧ Has [(102, Value.bool v167)] r ∧ Hp G168 (L) w ∧ True) ?_ ?_
                            · replace H := hC
                              by_cases h173 : v154 = true
                              · replace H := ite_yes h173 H
                                obtain ⟨y179, hy174, H⟩ := bind_some H
                                refine q_cv (vs := [Value.int .u8 90]) bo14 rfl rfl (text_Class_spec hI158 hy174) ?_ (hw := guard_yes rfl rfl rfl (bval_yes h173))
                                rintro _ wd177 ⟨G175, hG176, hI178, rfl⟩
                                refine ⟨_, rfl, ?_⟩
                                refine q_eql rfl rfl ?_ (hw := guard_yes rfl rfl rfl (bval_yes h173))
                                refine q_pick true (v := Value.bool (decide (y179 = 2))) (bval_yes h173) rfl ?_
                                refine wpq_nil ?_
                                cases H
                                exact ⟨rfl, rfl, _, hG176, ⟨rfl, trivial⟩, hI178, trivial⟩
                              · replace H := ite_no h173 H
                                refine wpq_no (guard_no rfl rfl rfl (bval_no h173) rfl) ?_
                                refine wpq_no (guard_no rfl rfl rfl (bval_no h173) rfl) ?_
                                refine q_pick false (v := Value.bool false) (bval_no h173) rfl ?_
                                refine wpq_nil ?_
                                cases H
                                exact ⟨rfl, rfl, _, (Gh.le_refl _), ⟨rfl, trivial⟩, hI158, trivial⟩
                            · clear hC
                              rintro e r ds wd170 ⟨rfl, rfl, G168, hG169, hHas, hI171, _⟩
                              rw [hHas.eq]; clear hHas
                              refine q_mv (v := Value.bool v167) rfl ?_
                              obtain ⟨v180, hC, H⟩ := bind_some H
                              refine wpq_split 3 (K := fun e r ds w => e = .normal ∧ ds = [] ∧ ∃ (G181 : Gh), G168 ≤ G181 ∧ Has [(106, Value.bool v180)] r ∧ Hp G181 (L) w ∧ True) ?_ ?_
                              · replace H := hC
                                by_cases h186 : v167 = true
                                · replace H := ite_yes h186 H
                                  obtain ⟨y192, hy187, H⟩ := bind_some H
                                  refine q_cv (vs := [Value.int .u8 55]) bo14 rfl rfl (text_Class_spec hI171 hy187) ?_ (hw := guard_yes rfl rfl rfl (bval_yes h186))
                                  rintro _ wd190 ⟨G188, hG189, hI191, rfl⟩
                                  refine ⟨_, rfl, ?_⟩
                                  refine q_eql rfl rfl ?_ (hw := guard_yes rfl rfl rfl (bval_yes h186))
                                  refine q_pick true (v := Value.bool (decide (y192 = 3))) (bval_yes h186) rfl ?_
                                  refine wpq_nil ?_
                                  cases H
                                  exact ⟨rfl, rfl, _, hG189, ⟨rfl, trivial⟩, hI191, trivial⟩
                                · replace H := ite_no h186 H
                                  refine wpq_no (guard_no rfl rfl rfl (bval_no h186) rfl) ?_
                                  refine wpq_no (guard_no rfl rfl rfl (bval_no h186) rfl) ?_
                                  refine q_pick false (v := Value.bool false) (bval_no h186) rfl ?_
                                  refine wpq_nil ?_
                                  cases H
                                  exact ⟨rfl, rfl, _, (Gh.le_refl _), ⟨rfl, trivial⟩, hI171, trivial⟩
                              · clear hC
                                rintro e r ds wd183 ⟨rfl, rfl, G181, hG182, hHas, hI184, _⟩
                                rw [hHas.eq]; clear hHas
                                refine q_mv (v := Value.bool v180) rfl ?_
                                obtain ⟨v193, hC, H⟩ := bind_some H
                                refine wpq_split 3 (K := fun e r ds w => e = .normal ∧ ds = [] ∧ ∃ (G194 : Gh), G181 ≤ G194 ∧ Has [(110, Value.bool v193)] r ∧ Hp G194 (L) w ∧ True) ?_ ?_
                                · replace H := hC
                                  by_cases h199 : v180 = true
                                  · replace H := ite_yes h199 H
                                    obtain ⟨y205, hy200, H⟩ := bind_some H
                                    refine q_cv (vs := [Value.int .u8 45]) bo14 rfl rfl (text_Class_spec hI184 hy200) ?_ (hw := guard_yes rfl rfl rfl (bval_yes h199))
                                    rintro _ wd203 ⟨G201, hG202, hI204, rfl⟩
                                    refine ⟨_, rfl, ?_⟩
                                    refine q_eql rfl rfl ?_ (hw := guard_yes rfl rfl rfl (bval_yes h199))
                                    refine q_pick true (v := Value.bool (decide (y205 = 5))) (bval_yes h199) rfl ?_
                                    refine wpq_nil ?_
                                    cases H
                                    exact ⟨rfl, rfl, _, hG202, ⟨rfl, trivial⟩, hI204, trivial⟩
                                  · replace H := ite_no h199 H
                                    refine wpq_no (guard_no rfl rfl rfl (bval_no h199) rfl) ?_
                                    refine wpq_no (guard_no rfl rfl rfl (bval_no h199) rfl) ?_
                                    refine q_pick false (v := Value.bool false) (bval_no h199) rfl ?_
                                    refine wpq_nil ?_
                                    cases H
                                    exact ⟨rfl, rfl, _, (Gh.le_refl _), ⟨rfl, trivial⟩, hI184, trivial⟩
                                · clear hC
                                  rintro e r ds wd196 ⟨rfl, rfl, G194, hG195, hHas, hI197, _⟩
                                  rw [hHas.eq]; clear hHas
                                  refine q_mv (v := Value.bool v193) rfl ?_
                                  obtain ⟨v206, hC, H⟩ := bind_some H
                                  refine wpq_split 3 (K := fun e r ds w => e = .normal ∧ ds = [] ∧ ∃ (G207 : Gh), G194 ≤ G207 ∧ Has [(114, Value.bool v206)] r ∧ Hp G207 (L) w ∧ True) ?_ ?_
                                  · replace H := hC
                                    by_cases h212 : v193 = true
                                    · replace H := ite_yes h212 H
                                      obtain ⟨y218, hy213, H⟩ := bind_some H
                                      refine q_cv (vs := [Value.int .u8 126]) bo14 rfl rfl (text_Class_spec hI197 hy213) ?_ (hw := guard_yes rfl rfl rfl (bval_yes h212))
                                      rintro _ wd216 ⟨G214, hG215, hI217, rfl⟩
                                      refine ⟨_, rfl, ?_⟩
                                      refine q_eql rfl rfl ?_ (hw := guard_yes rfl rfl rfl (bval_yes h212))
                                      refine q_pick true (v := Value.bool (decide (y218 = 6))) (bval_yes h212) rfl ?_
                                      refine wpq_nil ?_
                                      cases H
                                      exact ⟨rfl, rfl, _, hG215, ⟨rfl, trivial⟩, hI217, trivial⟩
                                    · replace H := ite_no h212 H
                                      refine wpq_no (guard_no rfl rfl rfl (bval_no h212) rfl) ?_
                                      refine wpq_no (guard_no rfl rfl rfl (bval_no h212) rfl) ?_
                                      refine q_pick false (v := Value.bool false) (bval_no h212) rfl ?_
                                      refine wpq_nil ?_
                                      cases H
                                      exact ⟨rfl, rfl, _, (Gh.le_refl _), ⟨rfl, trivial⟩, hI197, trivial⟩
                                  · clear hC
                                    rintro e r ds wd209 ⟨rfl, rfl, G207, hG208, hHas, hI210, _⟩
                                    rw [hHas.eq]; clear hHas
                                    refine q_as (v := Value.bool v206) rfl ?_
                                    refine wpq_nil ?_
                                    refine hK111 _ _ _ ?_
                                    refine wpc_ret ?_
                                    cases H
                                    exact ⟨.inr rfl, rfl, _, ⟨_, _, rfl, rfl, rfl⟩, _, (Gh.le_trans (Gh.le_trans (Gh.le_trans (Gh.le_trans (Gh.le_trans (Gh.le_trans (Gh.le_trans (Gh.le_trans (Gh.le_trans (Gh.le_trans (Gh.le_trans (Gh.le_trans (Gh.le_trans (Gh.le_trans (Gh.le_trans (Gh.le_trans (Gh.le_trans (Gh.le_trans (Gh.le_trans (Gh.le_trans (Gh.le_trans (Gh.le_trans (Gh.le_trans hG7 hG16) hG25) hG34) hG43) hG52) hG61) hG70) hG77) hG84) hG91) hG98) hG105) hG114) hG121) hG128) hG135) hG142) hG149) hG156) hG169) hG182) hG195) hG208), hI210, rfl⟩
set_option maxHeartbeats 1000000 in
theorem formeref06_Class_spec {a1 : Int} {r1076 : Int} {G : Gh} {L : List Itm} {w : World} (hI : Hp G (L) w) (H : formeref06_Class a1 = some r1076) :
    Calls Tryd.prog 15 [Value.int .u8 a1].toArray w fun e w' => ∃ (G' : Gh), G ≤ G' ∧ Hp G' (L) w' ∧ e = .returned (Value.int .i64 r1076) := by
  refine calls_intro (N := 31) Tryd.func15 rfl rfl (Nat.le_of_ble_eq_true rfl) ?_
  unfold formeref06_Class at H
  refine wpc_seq_k fun K2 hK3 => ?_
  refine wpc_region ?_
  refine q_as (v := Value.int .i64 0) rfl ?_
  refine wpq_nil ?_
  refine hK3 _ _ _ ?_
  refine wpc_seq_k fun K4 hK5 => ?_
  refine wpc_seq_k fun K6 hK7 => ?_
  refine wpc_region ?_
  refine q_mv (v := Value.int .u8 a1) rfl ?_
  refine q_geq rfl rfl ?_
  refine q_mv (v := Value.bool (decide (97 ≤ a1))) rfl ?_
  obtain ⟨v8, hC, H⟩ := bind_some H
  refine wpq_split 3 (K := fun e r ds w => e = .normal ∧ ds = [] ∧ ∃ (G9 : Gh), G ≤ G9 ∧ Has [(0, Value.int .u8 a1), (8, Value.bool v8)] r ∧ Hp G9 (L) w ∧ True) ?_ ?_
  · replace H := hC
    by_cases h14 : 97 ≤ a1
    · replace H := ite_yes h14 H
      refine q_mv (v := Value.int .u8 a1) rfl ?_ (hw := guard_yes rfl rfl rfl (bool_yes h14))
      refine q_leq rfl rfl ?_ (hw := guard_yes rfl rfl rfl (bool_yes h14))
      refine q_pick true (v := Value.bool (decide (a1 ≤ 122))) (bool_yes h14) rfl ?_
      refine wpq_nil ?_
      cases H
      exact ⟨rfl, rfl, _, (Gh.le_refl _), ⟨rfl, rfl, trivial⟩, hI, trivial⟩
    · replace H := ite_no h14 H
      refine wpq_no (guard_no rfl rfl rfl (bool_no h14) rfl) ?_
      refine wpq_no (guard_no rfl rfl rfl (bool_no h14) rfl) ?_
      refine q_pick false (v := Value.bool false) (bool_no h14) rfl ?_
      refine wpq_nil ?_
      cases H
      exact ⟨rfl, rfl, _, (Gh.le_refl _), ⟨rfl, rfl, trivial⟩, hI, trivial⟩
  · clear hC
    rintro e r ds wd11 ⟨rfl, rfl, G9, hG10, hHas, hI12, _⟩
    rw [hHas.eq]; clear hHas
    refine wpq_nil ?_
    refine hK7 _ _ _ ?_
    by_cases h15 : v8 = true
    · replace H := ite_yes h15 H
      refine wpc_true (bval_yes h15) ?_
      refine wpc_seq_k fun K16 hK17 => ?_
      refine wpc_region ?_
      refine q_as (v := Value.int .i64 1) rfl ?_
      refine wpq_nil ?_
      refine hK17 _ _ _ ?_
      refine wpc_ret ?_
      cases H
      exact ⟨.inr rfl, rfl, _, ⟨_, _, rfl, rfl, rfl⟩, _, hG10, hI12, rfl⟩
    · replace H := ite_no h15 H
      refine wpc_false (bval_no h15) ?_
      refine wpc_skip ?_
      refine hK5 _ _ _ ?_
      refine wpc_seq_k fun K18 hK19 => ?_
      refine wpc_seq_k fun K20 hK21 => ?_
      refine wpc_region ?_
      refine q_mv (v := Value.int .u8 a1) rfl ?_
      refine q_geq rfl rfl ?_
      refine q_mv (v := Value.bool (decide (65 ≤ a1))) rfl ?_
      obtain ⟨v22, hC, H⟩ := bind_some H
      refine wpq_split 3 (K := fun e r ds w => e = .normal ∧ ds = [] ∧ ∃ (G23 : Gh), G9 ≤ G23 ∧ Has [(0, Value.int .u8 a1), (14, Value.bool v22)] r ∧ Hp G23 (L) w ∧ True) ?_ ?_
      · replace H := hC
        by_cases h28 : 65 ≤ a1
        · replace H := ite_yes h28 H
          refine q_mv (v := Value.int .u8 a1) rfl ?_ (hw := guard_yes rfl rfl rfl (bool_yes h28))
          refine q_leq rfl rfl ?_ (hw := guard_yes rfl rfl rfl (bool_yes h28))
          refine q_pick true (v := Value.bool (decide (a1 ≤ 90))) (bool_yes h28) rfl ?_
          refine wpq_nil ?_
          cases H
          exact ⟨rfl, rfl, _, (Gh.le_refl _), ⟨rfl, rfl, trivial⟩, hI12, trivial⟩
        · replace H := ite_no h28 H
          refine wpq_no (guard_no rfl rfl rfl (bool_no h28) rfl) ?_
          refine wpq_no (guard_no rfl rfl rfl (bool_no h28) rfl) ?_
          refine q_pick false (v := Value.bool false) (bool_no h28) rfl ?_
          refine wpq_nil ?_
          cases H
          exact ⟨rfl, rfl, _, (Gh.le_refl _), ⟨rfl, rfl, trivial⟩, hI12, trivial⟩
      · clear hC
        rintro e r ds wd25 ⟨rfl, rfl, G23, hG24, hHas, hI26, _⟩
        rw [hHas.eq]; clear hHas
        refine wpq_nil ?_
        refine hK21 _ _ _ ?_
        by_cases h29 : v22 = true
        · replace H := ite_yes h29 H
          refine wpc_true (bval_yes h29) ?_
          refine wpc_seq_k fun K30 hK31 => ?_
          refine wpc_region ?_
          refine q_as (v := Value.int .i64 2) rfl ?_
          refine wpq_nil ?_
          refine hK31 _ _ _ ?_
          refine wpc_ret ?_
          cases H
          exact ⟨.inr rfl, rfl, _, ⟨_, _, rfl, rfl, rfl⟩, _, (Gh.le_trans hG10 hG24), hI26, rfl⟩
        · replace H := ite_no h29 H
          refine wpc_false (bval_no h29) ?_
          refine wpc_skip ?_
          refine hK19 _ _ _ ?_
          refine wpc_seq_k fun K32 hK33 => ?_
          refine wpc_seq_k fun K34 hK35 => ?_
          refine wpc_region ?_
          refine q_mv (v := Value.int .u8 a1) rfl ?_
          refine q_geq rfl rfl ?_
          refine q_mv (v := Value.bool (decide (48 ≤ a1))) rfl ?_
          obtain ⟨v36, hC, H⟩ := bind_some H
          refine wpq_split 3 (K := fun e r ds w => e = .normal ∧ ds = [] ∧ ∃ (G37 : Gh), G23 ≤ G37 ∧ Has [(0, Value.int .u8 a1), (20, Value.bool v36)] r ∧ Hp G37 (L) w ∧ True) ?_ ?_
          · replace H := hC
            by_cases h42 : 48 ≤ a1
            · replace H := ite_yes h42 H
              refine q_mv (v := Value.int .u8 a1) rfl ?_ (hw := guard_yes rfl rfl rfl (bool_yes h42))
              refine q_leq rfl rfl ?_ (hw := guard_yes rfl rfl rfl (bool_yes h42))
              refine q_pick true (v := Value.bool (decide (a1 ≤ 57))) (bool_yes h42) rfl ?_
              refine wpq_nil ?_
              cases H
              exact ⟨rfl, rfl, _, (Gh.le_refl _), ⟨rfl, rfl, trivial⟩, hI26, trivial⟩
            · replace H := ite_no h42 H
              refine wpq_no (guard_no rfl rfl rfl (bool_no h42) rfl) ?_
              refine wpq_no (guard_no rfl rfl rfl (bool_no h42) rfl) ?_
              refine q_pick false (v := Value.bool false) (bool_no h42) rfl ?_
              refine wpq_nil ?_
              cases H
              exact ⟨rfl, rfl, _, (Gh.le_refl _), ⟨rfl, rfl, trivial⟩, hI26, trivial⟩
          · clear hC
            rintro e r ds wd39 ⟨rfl, rfl, G37, hG38, hHas, hI40, _⟩
            rw [hHas.eq]; clear hHas
            refine wpq_nil ?_
            refine hK35 _ _ _ ?_
            by_cases h43 : v36 = true
            · replace H := ite_yes h43 H
              refine wpc_true (bval_yes h43) ?_
              refine wpc_seq_k fun K44 hK45 => ?_
              refine wpc_region ?_
              refine q_as (v := Value.int .i64 3) rfl ?_
              refine wpq_nil ?_
              refine hK45 _ _ _ ?_
              refine wpc_ret ?_
              cases H
              exact ⟨.inr rfl, rfl, _, ⟨_, _, rfl, rfl, rfl⟩, _, (Gh.le_trans (Gh.le_trans hG10 hG24) hG38), hI40, rfl⟩
            · replace H := ite_no h43 H
              refine wpc_false (bval_no h43) ?_
              refine wpc_skip ?_
              refine hK33 _ _ _ ?_
              refine wpc_seq_k fun K46 hK47 => ?_
              refine wpc_seq_k fun K48 hK49 => ?_
              refine wpc_region ?_
              refine q_mv (v := Value.int .u8 a1) rfl ?_
              refine q_eql rfl rfl ?_
              refine wpq_nil ?_
              refine hK49 _ _ _ ?_
              by_cases h50 : a1 = 32
              · replace H := ite_yes h50 H
                refine wpc_true (bool_yes h50) ?_
                refine wpc_seq_k fun K51 hK52 => ?_
                refine wpc_region ?_
                refine q_as (v := Value.int .i64 4) rfl ?_
                refine wpq_nil ?_
                refine hK52 _ _ _ ?_
                refine wpc_ret ?_
                cases H
                exact ⟨.inr rfl, rfl, _, ⟨_, _, rfl, rfl, rfl⟩, _, (Gh.le_trans (Gh.le_trans hG10 hG24) hG38), hI40, rfl⟩
              · replace H := ite_no h50 H
                refine wpc_false (bool_no h50) ?_
                refine wpc_skip ?_
                refine hK47 _ _ _ ?_
                refine wpc_seq_k fun K53 hK54 => ?_
                refine wpc_seq_k fun K55 hK56 => ?_
                refine wpc_region ?_
                refine q_mv (v := Value.int .u8 a1) rfl ?_
                refine q_eql rfl rfl ?_
                refine wpq_nil ?_
                refine hK56 _ _ _ ?_
                by_cases h57 : a1 = 126
                · replace H := ite_yes h57 H
                  refine wpc_true (bool_yes h57) ?_
                  refine wpc_seq_k fun K58 hK59 => ?_
                  refine wpc_region ?_
                  refine q_as (v := Value.int .i64 6) rfl ?_
                  refine wpq_nil ?_
                  refine hK59 _ _ _ ?_
                  refine wpc_ret ?_
                  cases H
                  exact ⟨.inr rfl, rfl, _, ⟨_, _, rfl, rfl, rfl⟩, _, (Gh.le_trans (Gh.le_trans hG10 hG24) hG38), hI40, rfl⟩
                · replace H := ite_no h57 H
                  refine wpc_false (bool_no h57) ?_
                  refine wpc_skip ?_
                  refine hK54 _ _ _ ?_
                  refine wpc_seq_k fun K60 hK61 => ?_
                  refine wpc_seq_k fun K62 hK63 => ?_
                  refine wpc_region ?_
                  refine q_mv (v := Value.int .u8 a1) rfl ?_
                  refine q_gtr rfl rfl ?_
                  refine q_mv (v := Value.bool (decide (32 < a1))) rfl ?_
                  obtain ⟨v64, hC, H⟩ := bind_some H
                  refine wpq_split 3 (K := fun e r ds w => e = .normal ∧ ds = [] ∧ ∃ (G65 : Gh), G37 ≤ G65 ∧ Has [(30, Value.bool v64)] r ∧ Hp G65 (L) w ∧ True) ?_ ?_
                  · replace H := hC
                    by_cases h70 : 32 < a1
                    · replace H := ite_yes h70 H
                      refine q_mv (v := Value.int .u8 a1) rfl ?_ (hw := guard_yes rfl rfl rfl (bool_yes h70))
                      refine q_lss rfl rfl ?_ (hw := guard_yes rfl rfl rfl (bool_yes h70))
                      refine q_pick true (v := Value.bool (decide (a1 < 126))) (bool_yes h70) rfl ?_
                      refine wpq_nil ?_
                      cases H
                      exact ⟨rfl, rfl, _, (Gh.le_refl _), ⟨rfl, trivial⟩, hI40, trivial⟩
                    · replace H := ite_no h70 H
                      refine wpq_no (guard_no rfl rfl rfl (bool_no h70) rfl) ?_
                      refine wpq_no (guard_no rfl rfl rfl (bool_no h70) rfl) ?_
                      refine q_pick false (v := Value.bool false) (bool_no h70) rfl ?_
                      refine wpq_nil ?_
                      cases H
                      exact ⟨rfl, rfl, _, (Gh.le_refl _), ⟨rfl, trivial⟩, hI40, trivial⟩
                  · clear hC
                    rintro e r ds wd67 ⟨rfl, rfl, G65, hG66, hHas, hI68, _⟩
                    rw [hHas.eq]; clear hHas
                    refine wpq_nil ?_
                    refine hK63 _ _ _ ?_
                    by_cases h71 : v64 = true
                    · replace H := ite_yes h71 H
                      refine wpc_true (bval_yes h71) ?_
                      refine wpc_seq_k fun K72 hK73 => ?_
                      refine wpc_region ?_
                      refine q_as (v := Value.int .i64 5) rfl ?_
                      refine wpq_nil ?_
                      refine hK73 _ _ _ ?_
                      refine wpc_ret ?_
                      cases H
                      exact ⟨.inr rfl, rfl, _, ⟨_, _, rfl, rfl, rfl⟩, _, (Gh.le_trans (Gh.le_trans (Gh.le_trans hG10 hG24) hG38) hG66), hI68, rfl⟩
                    · replace H := ite_no h71 H
                      refine wpc_false (bval_no h71) ?_
                      refine wpc_skip ?_
                      refine hK61 _ _ _ ?_
                      refine wpc_seq_k fun K74 hK75 => ?_
                      refine wpc_region ?_
                      refine q_as (v := Value.int .i64 0) rfl ?_
                      refine wpq_nil ?_
                      refine hK75 _ _ _ ?_
                      refine wpc_ret ?_
                      cases H
                      exact ⟨.inr rfl, rfl, _, ⟨_, _, rfl, rfl, rfl⟩, _, (Gh.le_trans (Gh.le_trans (Gh.le_trans hG10 hG24) hG38) hG66), hI68, rfl⟩
set_option maxHeartbeats 1000000 in
theorem formeref06_Valid_spec {a1 : ByteArray} {r1053 : Bool} {G : Gh} {L : List Itm} {w : World} (hI : Hp G (L) w) (H : formeref06_Valid a1 = some r1053) :
    Calls Tryd.prog 13 [Value.string a1].toArray w fun e w' => ∃ (G' : Gh), G ≤ G' ∧ Hp G' (L) w' ∧ e = .returned (Value.bool r1053) := by
  refine calls_intro (N := 18) Tryd.func13 rfl rfl (Nat.le_of_ble_eq_true rfl) ?_
  unfold formeref06_Valid at H
  refine wpc_seq_k fun K2 hK3 => ?_
  refine wpc_region ?_
  refine q_as (v := Value.bool false) rfl ?_
  refine wpq_nil ?_
  refine hK3 _ _ _ ?_
  refine wpc_seq_k fun K4 hK5 => ?_
  refine wpc_seq_k fun K6 hK7 => ?_
  refine wpc_region ?_
  refine q_as (v := Value.int .i64 0) rfl ?_
  refine wpq_nil ?_
  refine hK7 _ _ _ ?_
  refine wpc_block ?_
  obtain ⟨o27, hC, H⟩ := bind_some H
  refine wpc_mono (Q := fun e r ds w => match (generalizing := false) o27 with | (Sum.inl _) => e = .ret ∧ ds = [] ∧ ∃ (G19 : Gh), G ≤ G19 ∧ Has [(2, Value.bool false)] r ∧ Hp G19 (L) w ∧ True | (Sum.inr _) => e = .exit 0 ∧ ds = [] ∧ ∃ (G23 : Gh), G ≤ G23 ∧ Has [(0, Value.string a1)] r ∧ Hp G23 (L) w ∧ True) ?_ ?_
  · clear H
    refine wpc_loop fun I hLp => ?_
    refine formeref06_Valid_l18.partial_correctness a1 (fun v12 o => ∀ (G28 : Gh) (r : Rg) (w : World), G ≤ G28 → Has [(0, Value.string a1), (3, Value.int .i64 v12)] r → Hp G28 (L) w → o = o27 → I r [] w) ?_ 0 _ hC _ _ _ (Gh.le_refl _) ⟨rfl, rfl, trivial⟩ hI rfl
    intro _ ih v12 o H G28 r wd30 hG29 hHas hI31 ho
    rw [ho] at H; clear ho
    rw [hHas.eq]; clear hHas
    refine hLp _ _ _ ?_
    refine wpc_seq_k fun K32 hK33 => ?_
    refine wpc_seq_k fun K34 hK35 => ?_
    refine wpc_region ?_
    refine q_mv (v := Value.int .i64 v12) rfl ?_
    refine q_mv (v := Value.string a1) rfl ?_
    refine q_lens so9 rfl ?_
    refine q_lss rfl rfl ?_
    refine wpq_nil ?_
    refine hK35 _ _ _ ?_
    by_cases h36 : v12 < (a1.size : Int)
    · replace H := ite_yes h36 H
      refine wpc_true (bool_yes h36) ?_
      refine wpc_skip ?_
      refine hK33 _ _ _ ?_
      refine wpc_seq_k fun K37 hK38 => ?_
      refine wpc_block ?_
      refine wpc_seq_k fun K39 hK40 => ?_
      refine wpc_region ?_
      refine q_mv (v := Value.string a1) rfl ?_
      refine q_mv (v := Value.int .i64 v12) rfl ?_
      obtain ⟨⟨h41, h41'⟩, H⟩ := ite_some H
      refine q_is so9 rfl rfl h41 h41' rfl ?_
      obtain ⟨y47, hy42, H⟩ := bind_some H
      refine q_cv (vs := [Value.int .u8 (bt a1 v12)]) bo15 rfl rfl (formeref06_Class_spec hI31 hy42) ?_
      rintro _ wd45 ⟨G43, hG44, hI46, rfl⟩
      refine ⟨_, rfl, ?_⟩
      refine q_eql rfl rfl ?_
      refine wpq_nil ?_
      refine hK40 _ _ _ ?_
      by_cases h48 : y47 = 0
      · replace H := ite_yes h48 H
        refine wpc_true (bool_yes h48) ?_
        refine wpc_seq_k fun K49 hK50 => ?_
        refine wpc_region ?_
        refine q_as (v := Value.bool false) rfl ?_
        refine wpq_nil ?_
        refine hK50 _ _ _ ?_
        refine wpc_ret ?_
        cases H
        exact ⟨rfl, rfl, _, (Gh.le_trans hG29 hG44), ⟨rfl, trivial⟩, hI46, trivial⟩
      · replace H := ite_no h48 H
        refine wpc_false (bool_no h48) ?_
        refine wpc_skip ?_
        refine hK38 _ _ _ ?_
        refine wpc_region ?_
        refine q_mv (v := Value.int .i64 v12) rfl ?_
        refine q_add rfl rfl ?_
        refine q_as (v := Value.int .i64 (w64 (v12 + 1))) rfl ?_
        refine wpq_nil ?_
        exact ih _ _ H _ _ _ (Gh.le_trans hG29 hG44) ⟨rfl, rfl, trivial⟩ hI46 rfl
    · replace H := ite_no h36 H
      refine wpc_false (bool_no h36) ?_
      refine wpc_exit ?_
      cases H
      exact ⟨rfl, rfl, _, hG29, ⟨rfl, trivial⟩, hI31, trivial⟩
  · clear hC
    rcases o27 with _ | _
    · rintro e r ds wd21 ⟨rfl, rfl, G19, hG20, hHas, hI22, _⟩
      rw [hHas.eq]; clear hHas
      cases H
      exact ⟨.inr rfl, rfl, _, ⟨_, _, rfl, rfl, rfl⟩, _, hG20, hI22, rfl⟩
    · rintro e r ds wd25 ⟨rfl, rfl, G23, hG24, hHas, hI26, _⟩
      rw [hHas.eq]; clear hHas
      refine hK5 _ _ _ ?_
      refine wpc_seq_k fun K51 hK52 => ?_
      refine wpc_region ?_
      refine q_mv (v := Value.string a1) rfl ?_
      refine q_lens so9 rfl ?_
      refine q_leq rfl rfl ?_
      refine q_as (v := Value.bool (decide ((a1.size : Int) ≤ 2000))) rfl ?_
      refine wpq_nil ?_
      refine hK52 _ _ _ ?_
      refine wpc_ret ?_
      cases H
      exact ⟨.inr rfl, rfl, _, ⟨_, _, rfl, rfl, rfl⟩, _, hG24, hI26, rfl⟩
set_option maxHeartbeats 1000000 in
theorem formeref06_shown_spec {a1 : ByteArray} {r1096 : ByteArray} {G : Gh} {L : List Itm} {w : World} (hI : Hp G (L) w) (H : formeref06_shown a1 = some r1096) :
    Calls Tryd.prog 27 [Value.string a1].toArray w fun e w' => ∃ (G' : Gh), G ≤ G' ∧ Hp G' (L) w' ∧ e = .returned (Value.string r1096) := by
  refine calls_intro (N := 23) Tryd.func27 rfl rfl (Nat.le_of_ble_eq_true rfl) ?_
  unfold formeref06_shown at H
  refine wpc_seq_k fun K2 hK3 => ?_
  refine wpc_region ?_
  refine q_as (v := Value.string (⟨#[]⟩ : ByteArray)) rfl ?_
  refine wpq_nil ?_
  refine hK3 _ _ _ ?_
  refine wpc_seq_k fun K4 hK5 => ?_
  refine wpc_region ?_
  refine q_as (v := Value.slice none 0 0) rfl ?_
  refine wpq_nil ?_
  refine hK5 _ _ _ ?_
  refine wpc_seq_k fun K6 hK7 => ?_
  refine wpc_seq_k fun K8 hK9 => ?_
  refine wpc_region ?_
  refine q_as (v := Value.int .i64 0) rfl ?_
  refine wpq_nil ?_
  refine hK9 _ _ _ ?_
  refine wpc_block ?_
  obtain ⟨v35, hC, H⟩ := bind_some H
  refine wpc_mono (Q := fun e r ds w => e = .exit 0 ∧ ds = [] ∧ ∃ (A36 : Option Addr) (c37 : Nat) (G42 : Gh), G ≤ G42 ∧ Has [(3, Value.slice A36 v35.length c37)] r ∧ Hp G42 (tk (Value.slice A36 v35.length c37) 1 5 :: L) w ∧ v35.length ≤ c37 ∧ Dat (Kd.int .u8) G42 A36 v35 ∧ Own A36 c37 ∧ True) ?_ ?_
  · clear H
    have hI91 := Hp.emp hI
    refine wpc_loop fun I hLp => ?_
    refine formeref06_shown_l34.partial_correctness a1 (fun v14 v21 o => ∀ (A15 : Option Addr) (c16 : Nat) (G47 : Gh) (r : Rg) (w : World), G ≤ G47 → Has [(0, Value.string a1), (3, Value.slice A15 v14.length c16), (4, Value.int .i64 v21)] r → Hp G47 (tk (Value.slice A15 v14.length c16) 1 5 :: L) w → v14.length ≤ c16 → Dat (Kd.int .u8) G47 A15 v14 → Own A15 c16 → o = v35 → I r [] w) ?_ ([] : List Int) 0 _ hC none 0 _ _ _ (Gh.le_refl _) ⟨rfl, rfl, rfl, trivial⟩ hI91 (show ([] : List Int).length ≤ 0 from Nat.le_refl 0) (Dat.nil _ _ _) Own.nil rfl
    intro _ ih v14 v21 o H A15 c16 G47 r wd49 hG48 hHas hI50 hl17 hD18 ho19 ho
    rw [ho] at H; clear ho
    rw [hHas.eq]; clear hHas
    refine hLp _ _ _ ?_
    refine wpc_seq_k fun K51 hK52 => ?_
    refine wpc_seq_k fun K53 hK54 => ?_
    refine wpc_region ?_
    refine q_mv (v := Value.int .i64 v21) rfl ?_
    refine q_mv (v := Value.string a1) rfl ?_
    refine q_lens so9 rfl ?_
    refine q_lss rfl rfl ?_
    refine wpq_nil ?_
    refine hK54 _ _ _ ?_
    by_cases h55 : v21 < (a1.size : Int)
    · replace H := ite_yes h55 H
      refine wpc_true (bool_yes h55) ?_
      refine wpc_skip ?_
      refine hK52 _ _ _ ?_
      refine wpc_seq_k fun K56 hK57 => ?_
      obtain ⟨v58, hC, H⟩ := bind_some H
      refine wpc_mono (Q := fun e r ds w => e = .normal ∧ ds = [] ∧ ∃ (A59 : Option Addr) (c60 : Nat) (G65 : Gh), G47 ≤ G65 ∧ Has [(0, Value.string a1), (3, Value.slice A59 v58.length c60), (4, Value.int .i64 v21)] r ∧ Hp G65 (tk (Value.slice A59 v58.length c60) 1 5 :: L) w ∧ v58.length ≤ c60 ∧ Dat (Kd.int .u8) G65 A59 v58 ∧ Own A59 c60 ∧ True) ?_ ?_
      · replace H := hC
        refine wpc_block ?_
        refine wpc_seq_k fun K70 hK71 => ?_
        refine wpc_region ?_
        refine q_mv (v := Value.string a1) rfl ?_
        refine q_mv (v := Value.int .i64 v21) rfl ?_
        obtain ⟨⟨h72, h72'⟩, H⟩ := ite_some H
        refine q_is so9 rfl rfl h72 h72' rfl ?_
        refine q_neq rfl rfl ?_
        refine wpq_nil ?_
        refine hK71 _ _ _ ?_
        by_cases h73 : ¬ (bt a1 v21) = 126
        · replace H := ite_yes h73 H
          refine wpc_true (bool_yes h73) ?_
          refine wpc_region ?_
          refine q_mv (v := Value.slice A15 v14.length c16) rfl ?_
          refine q_mv (v := Value.string a1) rfl ?_
          refine q_mv (v := Value.int .i64 v21) rfl ?_
          obtain ⟨⟨h74, h74'⟩, H⟩ := ite_some H
          refine q_is so9 rfl rfl h74 h74' rfl ?_
          refine q_bs hI50 (vs := [(0, Value.int .u8 (bt a1 v21))]) (cs := [Value.int .u8 (bt a1 v21)]) el40 ze5 rfl (by decide) rfl rfl (fun g76 wd77 hI78 => ?_)
          obtain ⟨h88, H⟩ := ite_some H
          refine q_app (xs := v14) (ys := [bt a1 v21]) (Kd.int .u8) hI78 1 el40 ze5 rfl rfl rfl rfl ho19 hl17 hD18 (src_bx hI78 0 so40 rfl rfl) ⟨[Value.int .u8 (bt a1 v21)], _, rfl, rfl, rfl⟩ rfl (by simp only [List.length_cons, List.length_nil]; omega) (by simp only [List.length_cons, List.length_nil]; omega) (fun A79 c80 G81 wd82 hG83 ho84 hl85 hD86 hI87 => ?_)
          refine q_as (v := Value.slice A79 (v14 ++ [bt a1 v21]).length c80) rfl ?_
          refine wpq_nil ?_
          have hI89 := Hp.front hI87 1 rfl
          have hI90 := Hp.sub hI89 (List.Sublist.cons_cons _ (List.Sublist.cons _ (List.Sublist.refl _)))
          cases H
          exact ⟨rfl, rfl, A79, c80, _, hG83, ⟨rfl, rfl, rfl, trivial⟩, hI90, hl85, hD86, ho84, trivial⟩
        · replace H := ite_no h73 H
          refine wpc_false (bool_no h73) ?_
          refine wpc_skip ?_
          cases H
          exact ⟨rfl, rfl, A15, c16, _, (Gh.le_refl _), ⟨rfl, rfl, rfl, trivial⟩, hI50, hl17, hD18, ho19, trivial⟩
      · clear hC
        rintro e r ds wd67 ⟨rfl, rfl, A59, c60, G65, hG66, hHas, hI68, hl61, hD62, ho63, _⟩
        rw [hHas.eq]; clear hHas
        refine hK57 _ _ _ ?_
        refine wpc_region ?_
        refine q_mv (v := Value.int .i64 v21) rfl ?_
        refine q_add rfl rfl ?_
        refine q_as (v := Value.int .i64 (w64 (v21 + 1))) rfl ?_
        refine wpq_nil ?_
        exact ih _ _ _ H A59 c60 _ _ _ (Gh.le_trans hG48 hG66) ⟨rfl, rfl, rfl, trivial⟩ hI68 hl61 hD62 ho63 rfl
    · replace H := ite_no h55 H
      refine wpc_false (bool_no h55) ?_
      refine wpc_exit ?_
      cases H
      exact ⟨rfl, rfl, A15, c16, _, hG48, ⟨rfl, trivial⟩, hI50, hl17, hD18, ho19, trivial⟩
  · clear hC
    rintro e r ds wd44 ⟨rfl, rfl, A36, c37, G42, hG43, hHas, hI45, hl38, hD39, ho40, _⟩
    rw [hHas.eq]; clear hHas
    refine hK7 _ _ _ ?_
    refine wpc_seq_k fun K93 hK94 => ?_
    refine wpc_region ?_
    refine q_mv (v := Value.slice A36 v35.length c37) rfl ?_
    refine q_cvb hI45 el40 ik5 so9 rfl rfl hD39 ?_
    refine q_as (v := Value.string (bstr v35)) rfl ?_
    refine wpq_nil ?_
    refine hK94 _ _ _ ?_
    refine wpc_ret ?_
    have hI95 := Hp.sub hI45 (List.Sublist.cons _ (List.Sublist.refl _))
    cases H
    exact ⟨.inr rfl, rfl, _, ⟨_, _, rfl, rfl, rfl⟩, _, hG43, hI95, rfl⟩
set_option maxHeartbeats 1000000 in
theorem formeref06_Shown_spec {a1 : ByteArray} {r1025 : ByteArray} {r1026 : Int} {G : Gh} {L : List Itm} {w : World} (hI : Hp G (L) w) (H : formeref06_Shown a1 = some (r1025, r1026)) :
    Calls Tryd.prog 11 [Value.string a1].toArray w fun e w' => ∃ (G' : Gh), G ≤ G' ∧ Hp G' (L) w' ∧ e = .returned (Value.tuple [Value.string r1025, Value.int .i64 r1026].toArray) := by
  refine calls_intro (N := 9) Tryd.func11 rfl rfl (Nat.le_of_ble_eq_true rfl) ?_
  unfold formeref06_Shown at H
  refine wpc_seq_k fun K2 hK3 => ?_
  refine wpc_region ?_
  refine q_as (v := Value.string (⟨#[]⟩ : ByteArray)) rfl ?_
  refine q_as (v := Value.int .i64 0) rfl ?_
  refine wpq_nil ?_
  refine hK3 _ _ _ ?_
  refine wpc_seq_k fun K4 hK5 => ?_
  refine wpc_seq_k fun K6 hK7 => ?_
  refine wpc_region ?_
  refine q_mv (v := Value.string a1) rfl ?_
  obtain ⟨y13, hy8, H⟩ := bind_some H
  refine q_cv (vs := [Value.string a1]) bo13 rfl rfl (formeref06_Valid_spec hI hy8) ?_
  rintro _ wd11 ⟨G9, hG10, hI12, rfl⟩
  refine ⟨_, rfl, ?_⟩
  refine q_not rfl ?_
  refine wpq_nil ?_
  refine hK7 _ _ _ ?_
  by_cases h14 : (!y13) = true
  · replace H := ite_yes h14 H
    refine wpc_true (bval_yes h14) ?_
    refine wpc_seq_k fun K15 hK16 => ?_
    refine wpc_region ?_
    refine q_as (v := Value.string (⟨#[]⟩ : ByteArray)) rfl ?_
    refine q_as (v := Value.int .i64 1) rfl ?_
    refine wpq_nil ?_
    refine hK16 _ _ _ ?_
    refine wpc_ret ?_
    cases H
    exact ⟨.inr rfl, rfl, _, ⟨_, _, rfl, rfl, ⟨_, _, rfl, rfl, rfl⟩⟩, _, hG10, hI12, rfl⟩
  · replace H := ite_no h14 H
    refine wpc_false (bval_no h14) ?_
    refine wpc_skip ?_
    refine hK5 _ _ _ ?_
    refine wpc_seq_k fun K17 hK18 => ?_
    refine wpc_region ?_
    refine q_mv (v := Value.string a1) rfl ?_
    obtain ⟨y24, hy19, H⟩ := bind_some H
    refine q_cv (vs := [Value.string a1]) bo27 rfl rfl (formeref06_shown_spec hI12 hy19) ?_
    rintro _ wd22 ⟨G20, hG21, hI23, rfl⟩
    refine ⟨_, rfl, ?_⟩
    refine q_as (v := Value.string y24) rfl ?_
    refine q_as (v := Value.int .i64 0) rfl ?_
    refine wpq_nil ?_
    refine hK18 _ _ _ ?_
    refine wpc_ret ?_
    cases H
    exact ⟨.inr rfl, rfl, _, ⟨_, _, rfl, rfl, ⟨_, _, rfl, rfl, rfl⟩⟩, _, (Gh.le_trans hG10 hG21), hI23, rfl⟩
set_option maxHeartbeats 1000000 in
theorem formeref06_Words_spec {a1 : ByteArray} {r1088 : Int} {r1089 : Int} {G : Gh} {L : List Itm} {w : World} (hI : Hp G (L) w) (H : formeref06_Words a1 = some (r1088, r1089)) :
    Calls Tryd.prog 17 [Value.string a1].toArray w fun e w' => ∃ (G' : Gh), G ≤ G' ∧ Hp G' (L) w' ∧ e = .returned (Value.tuple [Value.int .i64 r1088, Value.int .i64 r1089].toArray) := by
  refine calls_intro (N := 36) Tryd.func17 rfl rfl (Nat.le_of_ble_eq_true rfl) ?_
  unfold formeref06_Words at H
  refine wpc_seq_k fun K2 hK3 => ?_
  refine wpc_region ?_
  refine q_as (v := Value.int .i64 0) rfl ?_
  refine q_as (v := Value.int .i64 0) rfl ?_
  refine wpq_nil ?_
  refine hK3 _ _ _ ?_
  refine wpc_seq_k fun K4 hK5 => ?_
  refine wpc_seq_k fun K6 hK7 => ?_
  refine wpc_region ?_
  refine q_mv (v := Value.string a1) rfl ?_
  obtain ⟨y13, hy8, H⟩ := bind_some H
  refine q_cv (vs := [Value.string a1]) bo13 rfl rfl (formeref06_Valid_spec hI hy8) ?_
  rintro _ wd11 ⟨G9, hG10, hI12, rfl⟩
  refine ⟨_, rfl, ?_⟩
  refine q_not rfl ?_
  refine wpq_nil ?_
  refine hK7 _ _ _ ?_
  by_cases h14 : (!y13) = true
  · replace H := ite_yes h14 H
    refine wpc_true (bval_yes h14) ?_
    refine wpc_seq_k fun K15 hK16 => ?_
    refine wpc_region ?_
    refine q_as (v := Value.int .i64 0) rfl ?_
    refine q_as (v := Value.int .i64 1) rfl ?_
    refine wpq_nil ?_
    refine hK16 _ _ _ ?_
    refine wpc_ret ?_
    cases H
    exact ⟨.inr rfl, rfl, _, ⟨_, _, rfl, rfl, ⟨_, _, rfl, rfl, rfl⟩⟩, _, hG10, hI12, rfl⟩
  · replace H := ite_no h14 H
    refine wpc_false (bval_no h14) ?_
    refine wpc_skip ?_
    refine hK5 _ _ _ ?_
    refine wpc_seq_k fun K17 hK18 => ?_
    refine wpc_region ?_
    refine q_mv (v := Value.string a1) rfl ?_
    obtain ⟨y24, hy19, H⟩ := bind_some H
    refine q_cv (vs := [Value.string a1]) bo27 rfl rfl (formeref06_shown_spec hI12 hy19) ?_
    rintro _ wd22 ⟨G20, hG21, hI23, rfl⟩
    refine ⟨_, rfl, ?_⟩
    refine q_as (v := Value.string y24) rfl ?_
    refine wpq_nil ?_
    refine hK18 _ _ _ ?_
    refine wpc_seq_k fun K25 hK26 => ?_
    refine wpc_region ?_
    refine q_as (v := Value.int .i64 0) rfl ?_
    refine wpq_nil ?_
    refine hK26 _ _ _ ?_
    refine wpc_seq_k fun K27 hK28 => ?_
    refine wpc_seq_k fun K29 hK30 => ?_
    refine wpc_region ?_
    refine q_as (v := Value.int .i64 0) rfl ?_
    refine wpq_nil ?_
    refine hK30 _ _ _ ?_
    refine wpc_block ?_
    obtain ⟨v44, hC, H⟩ := bind_some H
    refine wpc_mono (Q := fun e r ds w => e = .exit 0 ∧ ds = [] ∧ ∃ (G45 : Gh), G20 ≤ G45 ∧ Has [(5, Value.int .i64 v44)] r ∧ Hp G45 (L) w ∧ True) ?_ ?_
    · clear H
      refine wpc_loop fun I hLp => ?_
      refine formeref06_Words_l43.partial_correctness y24 (fun v35 v36 o => ∀ (G50 : Gh) (r : Rg) (w : World), G20 ≤ G50 → Has [(4, Value.string y24), (5, Value.int .i64 v35), (6, Value.int .i64 v36)] r → Hp G50 (L) w → o = v44 → I r [] w) ?_ 0 0 _ hC _ _ _ (Gh.le_refl _) ⟨rfl, rfl, rfl, trivial⟩ hI23 rfl
      intro _ ih v35 v36 o H G50 r wd52 hG51 hHas hI53 ho
      rw [ho] at H; clear ho
      rw [hHas.eq]; clear hHas
      refine hLp _ _ _ ?_
      refine wpc_seq_k fun K54 hK55 => ?_
      refine wpc_seq_k fun K56 hK57 => ?_
      refine wpc_region ?_
      refine q_mv (v := Value.int .i64 v36) rfl ?_
      refine q_mv (v := Value.string y24) rfl ?_
      refine q_lens so9 rfl ?_
      refine q_lss rfl rfl ?_
      refine wpq_nil ?_
      refine hK57 _ _ _ ?_
      by_cases h58 : v36 < (y24.size : Int)
      · replace H := ite_yes h58 H
        refine wpc_true (bool_yes h58) ?_
        refine wpc_skip ?_
        refine hK55 _ _ _ ?_
        refine wpc_seq_k fun K59 hK60 => ?_
        obtain ⟨v61, hC, H⟩ := bind_some H
        refine wpc_mono (Q := fun e r ds w => e = .normal ∧ ds = [] ∧ ∃ (G62 : Gh), G50 ≤ G62 ∧ Has [(4, Value.string y24), (5, Value.int .i64 v61), (6, Value.int .i64 v36)] r ∧ Hp G62 (L) w ∧ True) ?_ ?_
        · replace H := hC
          refine wpc_block ?_
          refine wpc_seq_k fun K67 hK68 => ?_
          refine wpc_region ?_
          refine q_mv (v := Value.string y24) rfl ?_
          refine q_mv (v := Value.int .i64 v36) rfl ?_
          obtain ⟨⟨h69, h69'⟩, H⟩ := ite_some H
          refine q_is so9 rfl rfl h69 h69' rfl ?_
          refine q_neq rfl rfl ?_
          refine q_mv (v := Value.bool (decide (¬ (bt y24 v36) = 32))) rfl ?_
          obtain ⟨v70, hC, H⟩ := bind_some H
          refine wpq_split 10 (K := fun e r ds w => e = .normal ∧ ds = [] ∧ ∃ (G71 : Gh), G50 ≤ G71 ∧ Has [(4, Value.string y24), (5, Value.int .i64 v35), (6, Value.int .i64 v36), (32, Value.bool v70)] r ∧ Hp G71 (L) w ∧ True) ?_ ?_
          · replace H := hC
            by_cases h76 : ¬ (bt y24 v36) = 32
            · replace H := ite_yes h76 H
              refine q_mv (v := Value.int .i64 v36) rfl ?_ (hw := guard_yes rfl rfl rfl (bool_yes h76))
              refine q_eql rfl rfl ?_ (hw := guard_yes rfl rfl rfl (bool_yes h76))
              refine q_mv (v := Value.bool (decide (v36 = 0))) rfl ?_ (hw := guard_yes rfl rfl rfl (bool_yes h76))
              obtain ⟨v77, hC, H⟩ := bind_some H
              refine wpq_split 6 (K := fun e r ds w => e = .normal ∧ ds = [] ∧ ∃ (G78 : Gh), G50 ≤ G78 ∧ Has [(4, Value.string y24), (5, Value.int .i64 v35), (6, Value.int .i64 v36), (22, Value.bool (decide (¬ (bt y24 v36) = 32))), (23, Value.int .i64 v36), (24, Value.bool (decide (v36 = 0))), (25, Value.bool (decide (v36 = 0))), (31, Value.bool v77)] r ∧ Hp G78 (L) w ∧ True) ?_ ?_
              · replace H := hC
                by_cases h83 : v36 = 0
                · replace H := ite_yes h83 H
                  refine wpq_no (guard_no rfl rfl rfl (bool_yes h83) rfl) ?_
                  refine wpq_no (guard_no rfl rfl rfl (bool_yes h83) rfl) ?_
                  refine wpq_no (guard_no rfl rfl rfl (bool_yes h83) rfl) ?_
                  refine wpq_no (guard_no rfl rfl rfl (bool_yes h83) rfl) ?_
                  refine wpq_no (guard_no rfl rfl rfl (bool_yes h83) rfl) ?_
                  refine q_pick true (v := Value.bool true) (bool_yes h83) rfl ?_ (hw := guard_yes rfl rfl rfl (bool_yes h76))
                  refine wpq_nil ?_
                  cases H
                  exact ⟨rfl, rfl, _, (Gh.le_refl _), ⟨rfl, rfl, rfl, rfl, rfl, rfl, rfl, rfl, trivial⟩, hI53, trivial⟩
                · replace H := ite_no h83 H
                  refine q_mv (v := Value.string y24) rfl ?_ (hw := guard_yes rfl rfl rfl (bool_no h83))
                  refine q_mv (v := Value.int .i64 v36) rfl ?_ (hw := guard_yes rfl rfl rfl (bool_no h83))
                  refine q_sub rfl rfl ?_ (hw := guard_yes rfl rfl rfl (bool_no h83))
                  obtain ⟨⟨h84, h84'⟩, H⟩ := ite_some H
                  refine q_is so9 rfl rfl h84 h84' rfl ?_ (hw := guard_yes rfl rfl rfl (bool_no h83))
                  refine q_eql rfl rfl ?_ (hw := guard_yes rfl rfl rfl (bool_no h83))
                  refine q_pick false (v := Value.bool (decide ((bt y24 (w64 (v36 - 1))) = 32))) (bool_no h83) rfl ?_ (hw := guard_yes rfl rfl rfl (bool_yes h76))
                  refine wpq_nil ?_
                  cases H
                  exact ⟨rfl, rfl, _, (Gh.le_refl _), ⟨rfl, rfl, rfl, rfl, rfl, rfl, rfl, rfl, trivial⟩, hI53, trivial⟩
              · clear hC
                rintro e r ds wd80 ⟨rfl, rfl, G78, hG79, hHas, hI81, _⟩
                rw [hHas.eq]; clear hHas
                refine q_pick true (v := Value.bool v77) (bool_yes h76) rfl ?_
                refine wpq_nil ?_
                cases H
                exact ⟨rfl, rfl, _, hG79, ⟨rfl, rfl, rfl, rfl, trivial⟩, hI81, trivial⟩
            · replace H := ite_no h76 H
              refine wpq_no (guard_no rfl rfl rfl (bool_no h76) rfl) ?_
              refine wpq_no (guard_no rfl rfl rfl (bool_no h76) rfl) ?_
              refine wpq_no (guard_no rfl rfl rfl (bool_no h76) rfl) ?_
              refine wpq_no (guard_no rfl rfl rfl rfl rfl) ?_
              refine wpq_no (guard_no rfl rfl rfl rfl rfl) ?_
              refine wpq_no (guard_no rfl rfl rfl rfl rfl) ?_
              refine wpq_no (guard_no rfl rfl rfl rfl rfl) ?_
              refine wpq_no (guard_no rfl rfl rfl rfl rfl) ?_
              refine wpq_no (guard_no rfl rfl rfl (bool_no h76) rfl) ?_
              refine q_pick false (v := Value.bool false) (bool_no h76) rfl ?_
              refine wpq_nil ?_
              cases H
              exact ⟨rfl, rfl, _, (Gh.le_refl _), ⟨rfl, rfl, rfl, rfl, trivial⟩, hI53, trivial⟩
          · clear hC
            rintro e r ds wd73 ⟨rfl, rfl, G71, hG72, hHas, hI74, _⟩
            rw [hHas.eq]; clear hHas
            refine wpq_nil ?_
            refine hK68 _ _ _ ?_
            by_cases h85 : v70 = true
            · replace H := ite_yes h85 H
              refine wpc_true (bval_yes h85) ?_
              refine wpc_region ?_
              refine q_mv (v := Value.int .i64 v35) rfl ?_
              refine q_add rfl rfl ?_
              refine q_as (v := Value.int .i64 (w64 (v35 + 1))) rfl ?_
              refine wpq_nil ?_
              cases H
              exact ⟨rfl, rfl, _, hG72, ⟨rfl, rfl, rfl, trivial⟩, hI74, trivial⟩
            · replace H := ite_no h85 H
              refine wpc_false (bval_no h85) ?_
              refine wpc_skip ?_
              cases H
              exact ⟨rfl, rfl, _, hG72, ⟨rfl, rfl, rfl, trivial⟩, hI74, trivial⟩
        · clear hC
          rintro e r ds wd64 ⟨rfl, rfl, G62, hG63, hHas, hI65, _⟩
          rw [hHas.eq]; clear hHas
          refine hK60 _ _ _ ?_
          refine wpc_region ?_
          refine q_mv (v := Value.int .i64 v36) rfl ?_
          refine q_add rfl rfl ?_
          refine q_as (v := Value.int .i64 (w64 (v36 + 1))) rfl ?_
          refine wpq_nil ?_
          exact ih _ _ _ H _ _ _ (Gh.le_trans hG51 hG63) ⟨rfl, rfl, rfl, trivial⟩ hI65 rfl
      · replace H := ite_no h58 H
        refine wpc_false (bool_no h58) ?_
        refine wpc_exit ?_
        cases H
        exact ⟨rfl, rfl, _, hG51, ⟨rfl, trivial⟩, hI53, trivial⟩
    · clear hC
      rintro e r ds wd47 ⟨rfl, rfl, G45, hG46, hHas, hI48, _⟩
      rw [hHas.eq]; clear hHas
      refine hK28 _ _ _ ?_
      refine wpc_seq_k fun K86 hK87 => ?_
      refine wpc_region ?_
      refine q_mv (v := Value.int .i64 v44) rfl ?_
      refine q_as (v := Value.int .i64 v44) rfl ?_
      refine q_as (v := Value.int .i64 0) rfl ?_
      refine wpq_nil ?_
      refine hK87 _ _ _ ?_
      refine wpc_ret ?_
      cases H
      exact ⟨.inr rfl, rfl, _, ⟨_, _, rfl, rfl, ⟨_, _, rfl, rfl, rfl⟩⟩, _, (Gh.le_trans (Gh.le_trans hG10 hG21) hG46), hI48, rfl⟩
set_option maxHeartbeats 1000000 in
theorem formeref06_Trim_spec {a1 : ByteArray} {r1097 : ByteArray} {r1098 : Int} {G : Gh} {L : List Itm} {w : World} (hI : Hp G (L) w) (H : formeref06_Trim a1 = some (r1097, r1098)) :
    Calls Tryd.prog 19 [Value.string a1].toArray w fun e w' => ∃ (G' : Gh), G ≤ G' ∧ Hp G' (L) w' ∧ e = .returned (Value.tuple [Value.string r1097, Value.int .i64 r1098].toArray) := by
  refine calls_intro (N := 34) Tryd.func19 rfl rfl (Nat.le_of_ble_eq_true rfl) ?_
  unfold formeref06_Trim at H
  refine wpc_seq_k fun K2 hK3 => ?_
  refine wpc_region ?_
  refine q_as (v := Value.string (⟨#[]⟩ : ByteArray)) rfl ?_
  refine q_as (v := Value.int .i64 0) rfl ?_
  refine wpq_nil ?_
  refine hK3 _ _ _ ?_
  refine wpc_seq_k fun K4 hK5 => ?_
  refine wpc_seq_k fun K6 hK7 => ?_
  refine wpc_region ?_
  refine q_mv (v := Value.string a1) rfl ?_
  obtain ⟨y13, hy8, H⟩ := bind_some H
  refine q_cv (vs := [Value.string a1]) bo13 rfl rfl (formeref06_Valid_spec hI hy8) ?_
  rintro _ wd11 ⟨G9, hG10, hI12, rfl⟩
  refine ⟨_, rfl, ?_⟩
  refine q_not rfl ?_
  refine wpq_nil ?_
  refine hK7 _ _ _ ?_
  by_cases h14 : (!y13) = true
  · replace H := ite_yes h14 H
    refine wpc_true (bval_yes h14) ?_
    refine wpc_seq_k fun K15 hK16 => ?_
    refine wpc_region ?_
    refine q_as (v := Value.string (⟨#[]⟩ : ByteArray)) rfl ?_
    refine q_as (v := Value.int .i64 1) rfl ?_
    refine wpq_nil ?_
    refine hK16 _ _ _ ?_
    refine wpc_ret ?_
    cases H
    exact ⟨.inr rfl, rfl, _, ⟨_, _, rfl, rfl, ⟨_, _, rfl, rfl, rfl⟩⟩, _, hG10, hI12, rfl⟩
  · replace H := ite_no h14 H
    refine wpc_false (bval_no h14) ?_
    refine wpc_skip ?_
    refine hK5 _ _ _ ?_
    refine wpc_seq_k fun K17 hK18 => ?_
    refine wpc_block ?_
    obtain ⟨v30, hC, H⟩ := bind_some H
    refine wpc_mono (Q := fun e r ds w => e = .exit 0 ∧ ds = [] ∧ ∃ (G31 : Gh), G9 ≤ G31 ∧ Has [(0, Value.string v30)] r ∧ Hp G31 (L) w ∧ True) ?_ ?_
    · clear H
      refine wpc_loop fun I hLp => ?_
      refine formeref06_Trim_l29.partial_correctness (fun v23 o => ∀ (G36 : Gh) (r : Rg) (w : World), G9 ≤ G36 → Has [(0, Value.string v23)] r → Hp G36 (L) w → o = v30 → I r [] w) ?_ a1 _ hC _ _ _ (Gh.le_refl _) ⟨rfl, trivial⟩ hI12 rfl
      intro _ ih v23 o H G36 r wd38 hG37 hHas hI39 ho
      rw [ho] at H; clear ho
      rw [hHas.eq]; clear hHas
      refine hLp _ _ _ ?_
      refine wpc_seq_k fun K40 hK41 => ?_
      refine wpc_seq_k fun K42 hK43 => ?_
      refine wpc_region ?_
      refine q_mv (v := Value.string v23) rfl ?_
      refine q_lens so9 rfl ?_
      refine q_gtr rfl rfl ?_
      refine q_mv (v := Value.bool (decide (0 < (v23.size : Int)))) rfl ?_
      obtain ⟨v44, hC, H⟩ := bind_some H
      refine wpq_split 4 (K := fun e r ds w => e = .normal ∧ ds = [] ∧ ∃ (G45 : Gh), G36 ≤ G45 ∧ Has [(0, Value.string v23), (14, Value.bool v44)] r ∧ Hp G45 (L) w ∧ True) ?_ ?_
      · replace H := hC
        by_cases h50 : 0 < (v23.size : Int)
        · replace H := ite_yes h50 H
          refine q_mv (v := Value.string v23) rfl ?_ (hw := guard_yes rfl rfl rfl (bool_yes h50))
          obtain ⟨⟨h51, h51'⟩, H⟩ := ite_some H
          refine q_is so9 rfl rfl h51 h51' rfl ?_ (hw := guard_yes rfl rfl rfl (bool_yes h50))
          refine q_eql rfl rfl ?_ (hw := guard_yes rfl rfl rfl (bool_yes h50))
          refine q_pick true (v := Value.bool (decide ((bt v23 0) = 32))) (bool_yes h50) rfl ?_
          refine wpq_nil ?_
          cases H
          exact ⟨rfl, rfl, _, (Gh.le_refl _), ⟨rfl, rfl, trivial⟩, hI39, trivial⟩
        · replace H := ite_no h50 H
          refine wpq_no (guard_no rfl rfl rfl (bool_no h50) rfl) ?_
          refine wpq_no (guard_no rfl rfl rfl (bool_no h50) rfl) ?_
          refine wpq_no (guard_no rfl rfl rfl (bool_no h50) rfl) ?_
          refine q_pick false (v := Value.bool false) (bool_no h50) rfl ?_
          refine wpq_nil ?_
          cases H
          exact ⟨rfl, rfl, _, (Gh.le_refl _), ⟨rfl, rfl, trivial⟩, hI39, trivial⟩
      · clear hC
        rintro e r ds wd47 ⟨rfl, rfl, G45, hG46, hHas, hI48, _⟩
        rw [hHas.eq]; clear hHas
        refine wpq_nil ?_
        refine hK43 _ _ _ ?_
        by_cases h52 : v44 = true
        · replace H := ite_yes h52 H
          refine wpc_true (bval_yes h52) ?_
          refine wpc_skip ?_
          refine hK41 _ _ _ ?_
          refine wpc_block ?_
          refine wpc_region ?_
          refine q_mv (v := Value.string v23) rfl ?_
          obtain ⟨⟨h53, h54⟩, H⟩ := ite_some H
          refine q_ss (l := 1) (h := (v23.size : Int)) so9 rfl (.inr ⟨_, rfl, rfl⟩) (.inl ⟨rfl, rfl⟩) h53 h54 (Int.le_refl _) ?_
          refine q_as (v := Value.string (sub v23 1 (v23.size : Int))) rfl ?_
          refine wpq_nil ?_
          exact ih _ _ H _ _ _ (Gh.le_trans hG37 hG46) ⟨rfl, trivial⟩ hI48 rfl
        · replace H := ite_no h52 H
          refine wpc_false (bval_no h52) ?_
          refine wpc_exit ?_
          cases H
          exact ⟨rfl, rfl, _, (Gh.le_trans hG37 hG46), ⟨rfl, trivial⟩, hI48, trivial⟩
    · clear hC
      rintro e r ds wd33 ⟨rfl, rfl, G31, hG32, hHas, hI34, _⟩
      rw [hHas.eq]; clear hHas
      refine hK18 _ _ _ ?_
      refine wpc_seq_k fun K56 hK57 => ?_
      refine wpc_block ?_
      obtain ⟨v69, hC, H⟩ := bind_some H
      refine wpc_mono (Q := fun e r ds w => e = .exit 2 ∧ ds = [] ∧ ∃ (G70 : Gh), G31 ≤ G70 ∧ Has [(0, Value.string v69)] r ∧ Hp G70 (L) w ∧ True) ?_ ?_
      · clear H
        refine wpc_loop fun I hLp => ?_
        refine formeref06_Trim_l68.partial_correctness (fun v62 o => ∀ (G75 : Gh) (r : Rg) (w : World), G31 ≤ G75 → Has [(0, Value.string v62)] r → Hp G75 (L) w → o = v69 → I r [] w) ?_ v30 _ hC _ _ _ (Gh.le_refl _) ⟨rfl, trivial⟩ hI34 rfl
        intro _ ih v62 o H G75 r wd77 hG76 hHas hI78 ho
        rw [ho] at H; clear ho
        rw [hHas.eq]; clear hHas
        refine hLp _ _ _ ?_
        refine wpc_seq_k fun K79 hK80 => ?_
        refine wpc_seq_k fun K81 hK82 => ?_
        refine wpc_region ?_
        refine q_mv (v := Value.string v62) rfl ?_
        refine q_lens so9 rfl ?_
        refine q_gtr rfl rfl ?_
        refine q_mv (v := Value.bool (decide (0 < (v62.size : Int)))) rfl ?_
        obtain ⟨v83, hC, H⟩ := bind_some H
        refine wpq_split 7 (K := fun e r ds w => e = .normal ∧ ds = [] ∧ ∃ (G84 : Gh), G75 ≤ G84 ∧ Has [(0, Value.string v62), (27, Value.bool v83)] r ∧ Hp G84 (L) w ∧ True) ?_ ?_
        · replace H := hC
          by_cases h89 : 0 < (v62.size : Int)
          · replace H := ite_yes h89 H
            refine q_mv (v := Value.string v62) rfl ?_ (hw := guard_yes rfl rfl rfl (bool_yes h89))
            refine q_mv (v := Value.string v62) rfl ?_ (hw := guard_yes rfl rfl rfl (bool_yes h89))
            refine q_lens so9 rfl ?_ (hw := guard_yes rfl rfl rfl (bool_yes h89))
            refine q_sub rfl rfl ?_ (hw := guard_yes rfl rfl rfl (bool_yes h89))
            obtain ⟨⟨h90, h90'⟩, H⟩ := ite_some H
            refine q_is so9 rfl rfl h90 h90' rfl ?_ (hw := guard_yes rfl rfl rfl (bool_yes h89))
            refine q_eql rfl rfl ?_ (hw := guard_yes rfl rfl rfl (bool_yes h89))
            refine q_pick true (v := Value.bool (decide ((bt v62 (w64 ((v62.size : Int) - 1))) = 32))) (bool_yes h89) rfl ?_
            refine wpq_nil ?_
            cases H
            exact ⟨rfl, rfl, _, (Gh.le_refl _), ⟨rfl, rfl, trivial⟩, hI78, trivial⟩
          · replace H := ite_no h89 H
            refine wpq_no (guard_no rfl rfl rfl (bool_no h89) rfl) ?_
            refine wpq_no (guard_no rfl rfl rfl (bool_no h89) rfl) ?_
            refine wpq_no (guard_no rfl rfl rfl (bool_no h89) rfl) ?_
            refine wpq_no (guard_no rfl rfl rfl (bool_no h89) rfl) ?_
            refine wpq_no (guard_no rfl rfl rfl (bool_no h89) rfl) ?_
            refine wpq_no (guard_no rfl rfl rfl (bool_no h89) rfl) ?_
            refine q_pick false (v := Value.bool false) (bool_no h89) rfl ?_
            refine wpq_nil ?_
            cases H
            exact ⟨rfl, rfl, _, (Gh.le_refl _), ⟨rfl, rfl, trivial⟩, hI78, trivial⟩
        · clear hC
          rintro e r ds wd86 ⟨rfl, rfl, G84, hG85, hHas, hI87, _⟩
          rw [hHas.eq]; clear hHas
          refine wpq_nil ?_
          refine hK82 _ _ _ ?_
          by_cases h91 : v83 = true
          · replace H := ite_yes h91 H
            refine wpc_true (bval_yes h91) ?_
            refine wpc_skip ?_
            refine hK80 _ _ _ ?_
            refine wpc_block ?_
            refine wpc_region ?_
            refine q_mv (v := Value.string v62) rfl ?_
            refine q_mv (v := Value.string v62) rfl ?_
            refine q_lens so9 rfl ?_
            refine q_sub rfl rfl ?_
            obtain ⟨⟨h93, h94⟩, H⟩ := ite_some H
            refine q_ss (l := 0) (h := w64 ((v62.size : Int) - 1)) so9 rfl (.inl ⟨rfl, rfl⟩) (.inr ⟨_, rfl, rfl⟩) (Int.le_refl 0) h93 h94 ?_
            refine q_as (v := Value.string (sub v62 0 (w64 ((v62.size : Int) - 1)))) rfl ?_
            refine wpq_nil ?_
            exact ih _ _ H _ _ _ (Gh.le_trans hG76 hG85) ⟨rfl, trivial⟩ hI87 rfl
          · replace H := ite_no h91 H
            refine wpc_false (bval_no h91) ?_
            refine wpc_exit ?_
            cases H
            exact ⟨rfl, rfl, _, (Gh.le_trans hG76 hG85), ⟨rfl, trivial⟩, hI87, trivial⟩
      · clear hC
        rintro e r ds wd72 ⟨rfl, rfl, G70, hG71, hHas, hI73, _⟩
        rw [hHas.eq]; clear hHas
        refine hK57 _ _ _ ?_
        refine wpc_seq_k fun K95 hK96 => ?_
        refine wpc_region ?_
        refine q_mv (v := Value.string v69) rfl ?_
        refine q_as (v := Value.string v69) rfl ?_
        refine q_as (v := Value.int .i64 0) rfl ?_
        refine wpq_nil ?_
        refine hK96 _ _ _ ?_
        refine wpc_ret ?_
        cases H
        exact ⟨.inr rfl, rfl, _, ⟨_, _, rfl, rfl, ⟨_, _, rfl, rfl, rfl⟩⟩, _, (Gh.le_trans (Gh.le_trans hG10 hG32) hG71), hI73, rfl⟩
set_option maxHeartbeats 1000000 in
theorem formelaw06_TextMatchesReference_spec {a1 : ByteArray} {a2 : Int} {r1160 : Bool} {G : Gh} {L : List Itm} {w : World} (hI : Hp G (L) w) (hgl : Gl G) (H : formelaw06_TextMatchesReference a1 a2 = some r1160) :
    Calls Tryd.prog 3 [Value.string a1, Value.int .u8 a2].toArray w fun e w' => ∃ (G' : Gh), G ≤ G' ∧ Hp G' (L) w' ∧ e = .returned (Value.bool r1160) := by
  refine calls_intro (N := 94) Tryd.func3 rfl rfl (Nat.le_of_ble_eq_true rfl) ?_
  unfold formelaw06_TextMatchesReference at H
  refine wpc_seq_k fun K3 hK4 => ?_
  refine wpc_region ?_
  refine q_as (v := Value.bool false) rfl ?_
  refine wpq_nil ?_
  refine hK4 _ _ _ ?_
  refine wpc_seq_k fun K5 hK6 => ?_
  refine wpc_region ?_
  obtain ⟨y12, hy7, H⟩ := bind_some H
  refine q_cv (vs := []) bo9 rfl rfl (formelaw06_head_spec hI (hgl.mono (Gh.le_refl _)) hy7) ?_
  rintro _ wd10 ⟨G8, hG9, hI11, rfl⟩
  refine ⟨_, rfl, ?_⟩
  refine q_as (v := Value.bool y12) rfl ?_
  refine wpq_nil ?_
  refine hK6 _ _ _ ?_
  refine wpc_seq_k fun K13 hK14 => ?_
  refine wpc_seq_k fun K15 hK16 => ?_
  refine wpc_region ?_
  refine q_mv (v := Value.string a1) rfl ?_
  refine q_lens so9 rfl ?_
  refine q_gtr rfl rfl ?_
  refine wpq_nil ?_
  refine hK16 _ _ _ ?_
  by_cases h17 : 3000 < (a1.size : Int)
  · replace H := ite_yes h17 H
    refine wpc_true (bool_yes h17) ?_
    refine wpc_seq_k fun K18 hK19 => ?_
    refine wpc_region ?_
    refine q_mv (v := Value.bool y12) rfl ?_
    refine q_as (v := Value.bool y12) rfl ?_
    refine wpq_nil ?_
    refine hK19 _ _ _ ?_
    refine wpc_ret ?_
    cases H
    exact ⟨.inr rfl, rfl, _, ⟨_, _, rfl, rfl, rfl⟩, _, hG9, hI11, rfl⟩
  · replace H := ite_no h17 H
    refine wpc_false (bool_no h17) ?_
    refine wpc_skip ?_
    refine hK14 _ _ _ ?_
    refine wpc_seq_k fun K20 hK21 => ?_
    refine wpc_region ?_
    refine q_mv (v := Value.string a1) rfl ?_
    obtain ⟨⟨y27, y28⟩, hy22, H⟩ := bind_some H
    refine q_cv (vs := [Value.string a1]) bo10 rfl rfl (text_Shown_spec hI11 (hgl.mono hG9) hy22) ?_
    rintro _ wd25 ⟨G23, hG24, hI26, rfl⟩
    refine ⟨_, rfl, ?_⟩
    refine q_mv (v := Value.tuple [Value.string y27, Value.int .i64 y28].toArray) rfl ?_
    refine q_ex (v := Value.string y27) rfl rfl ?_
    refine q_ex (v := Value.int .i64 y28) rfl rfl ?_
    refine q_as (v := Value.string y27) rfl ?_
    refine q_as (v := Value.int .i64 y28) rfl ?_
    refine wpq_nil ?_
    refine hK21 _ _ _ ?_
    refine wpc_seq_k fun K29 hK30 => ?_
    refine wpc_region ?_
    refine q_mv (v := Value.string a1) rfl ?_
    obtain ⟨⟨y36, y37⟩, hy31, H⟩ := bind_some H
    refine q_cv (vs := [Value.string a1]) bo11 rfl rfl (formeref06_Shown_spec hI26 hy31) ?_
    rintro _ wd34 ⟨G32, hG33, hI35, rfl⟩
    refine ⟨_, rfl, ?_⟩
    refine q_mv (v := Value.tuple [Value.string y36, Value.int .i64 y37].toArray) rfl ?_
    refine q_ex (v := Value.string y36) rfl rfl ?_
    refine q_ex (v := Value.int .i64 y37) rfl rfl ?_
    refine q_as (v := Value.string y36) rfl ?_
    refine q_as (v := Value.int .i64 y37) rfl ?_
    refine wpq_nil ?_
    refine hK30 _ _ _ ?_
    refine wpc_seq_k fun K38 hK39 => ?_
    refine wpc_region ?_
    refine q_mv (v := Value.bool y12) rfl ?_
    refine q_mv (v := Value.bool y12) rfl ?_
    obtain ⟨v40, hC, H⟩ := bind_some H
    refine wpq_split 6 (K := fun e r ds w => e = .normal ∧ ds = [] ∧ ∃ (G41 : Gh), G32 ≤ G41 ∧ Has [(0, Value.string a1), (1, Value.int .u8 a2), (6, Value.string y27), (7, Value.int .i64 y28), (8, Value.string y36), (9, Value.int .i64 y37), (34, Value.bool v40)] r ∧ Hp G41 (L) w ∧ True) ?_ ?_
    · replace H := hC
      by_cases h46 : y12 = true
      · replace H := ite_yes h46 H
        refine q_mv (v := Value.string a1) rfl ?_ (hw := guard_yes rfl rfl rfl (bval_yes h46))
        obtain ⟨y52, hy47, H⟩ := bind_some H
        refine q_cv (vs := [Value.string a1]) bo12 rfl rfl (text_Valid_spec hI35 hy47) ?_ (hw := guard_yes rfl rfl rfl (bval_yes h46))
        rintro _ wd50 ⟨G48, hG49, hI51, rfl⟩
        refine ⟨_, rfl, ?_⟩
        refine q_mv (v := Value.string a1) rfl ?_ (hw := guard_yes rfl rfl rfl (bval_yes h46))
        obtain ⟨y58, hy53, H⟩ := bind_some H
        refine q_cv (vs := [Value.string a1]) bo13 rfl rfl (formeref06_Valid_spec hI51 hy53) ?_ (hw := guard_yes rfl rfl rfl (bval_yes h46))
        rintro _ wd56 ⟨G54, hG55, hI57, rfl⟩
        refine ⟨_, rfl, ?_⟩
        refine q_bool_eql rfl rfl so4 ?_ (hw := guard_yes rfl rfl rfl (bval_yes h46))
        refine q_pick true (v := Value.bool (decide (y52 = y58))) (bval_yes h46) rfl ?_
        refine wpq_nil ?_
        cases H
        exact ⟨rfl, rfl, _, (Gh.le_trans hG49 hG55), ⟨rfl, rfl, rfl, rfl, rfl, rfl, rfl, trivial⟩, hI57, trivial⟩
      · replace H := ite_no h46 H
        refine wpq_no (guard_no rfl rfl rfl (bval_no h46) rfl) ?_
        refine wpq_no (guard_no rfl rfl rfl (bval_no h46) rfl) ?_
        refine wpq_no (guard_no rfl rfl rfl (bval_no h46) rfl) ?_
        refine wpq_no (guard_no rfl rfl rfl (bval_no h46) rfl) ?_
        refine wpq_no (guard_no rfl rfl rfl (bval_no h46) rfl) ?_
        refine q_pick false (v := Value.bool false) (bval_no h46) rfl ?_
        refine wpq_nil ?_
        cases H
        exact ⟨rfl, rfl, _, (Gh.le_refl _), ⟨rfl, rfl, rfl, rfl, rfl, rfl, rfl, trivial⟩, hI35, trivial⟩
    · clear hC
      rintro e r ds wd43 ⟨rfl, rfl, G41, hG42, hHas, hI44, _⟩
      rw [hHas.eq]; clear hHas
      refine q_mv (v := Value.bool v40) rfl ?_
      obtain ⟨v59, hC, H⟩ := bind_some H
      refine wpq_split 6 (K := fun e r ds w => e = .normal ∧ ds = [] ∧ ∃ (G60 : Gh), G41 ≤ G60 ∧ Has [(0, Value.string a1), (6, Value.string y27), (7, Value.int .i64 y28), (8, Value.string y36), (9, Value.int .i64 y37), (41, Value.bool v59)] r ∧ Hp G60 (L) w ∧ True) ?_ ?_
      · replace H := hC
        by_cases h65 : v40 = true
        · replace H := ite_yes h65 H
          refine q_mv (v := Value.int .u8 a2) rfl ?_ (hw := guard_yes rfl rfl rfl (bval_yes h65))
          obtain ⟨y71, hy66, H⟩ := bind_some H
          refine q_cv (vs := [Value.int .u8 a2]) bo14 rfl rfl (text_Class_spec hI44 hy66) ?_ (hw := guard_yes rfl rfl rfl (bval_yes h65))
          rintro _ wd69 ⟨G67, hG68, hI70, rfl⟩
          refine ⟨_, rfl, ?_⟩
          refine q_mv (v := Value.int .u8 a2) rfl ?_ (hw := guard_yes rfl rfl rfl (bval_yes h65))
          obtain ⟨y77, hy72, H⟩ := bind_some H
          refine q_cv (vs := [Value.int .u8 a2]) bo15 rfl rfl (formeref06_Class_spec hI70 hy72) ?_ (hw := guard_yes rfl rfl rfl (bval_yes h65))
          rintro _ wd75 ⟨G73, hG74, hI76, rfl⟩
          refine ⟨_, rfl, ?_⟩
          refine q_eql rfl rfl ?_ (hw := guard_yes rfl rfl rfl (bval_yes h65))
          refine q_pick true (v := Value.bool (decide (y71 = y77))) (bval_yes h65) rfl ?_
          refine wpq_nil ?_
          cases H
          exact ⟨rfl, rfl, _, (Gh.le_trans hG68 hG74), ⟨rfl, rfl, rfl, rfl, rfl, rfl, trivial⟩, hI76, trivial⟩
        · replace H := ite_no h65 H
          refine wpq_no (guard_no rfl rfl rfl (bval_no h65) rfl) ?_
          refine wpq_no (guard_no rfl rfl rfl (bval_no h65) rfl) ?_
          refine wpq_no (guard_no rfl rfl rfl (bval_no h65) rfl) ?_
          refine wpq_no (guard_no rfl rfl rfl (bval_no h65) rfl) ?_
          refine wpq_no (guard_no rfl rfl rfl (bval_no h65) rfl) ?_
          refine q_pick false (v := Value.bool false) (bval_no h65) rfl ?_
          refine wpq_nil ?_
          cases H
          exact ⟨rfl, rfl, _, (Gh.le_refl _), ⟨rfl, rfl, rfl, rfl, rfl, rfl, trivial⟩, hI44, trivial⟩
      · clear hC
        rintro e r ds wd62 ⟨rfl, rfl, G60, hG61, hHas, hI63, _⟩
        rw [hHas.eq]; clear hHas
        refine q_mv (v := Value.bool v59) rfl ?_
        obtain ⟨v78, hC, H⟩ := bind_some H
        refine wpq_split 4 (K := fun e r ds w => e = .normal ∧ ds = [] ∧ ∃ (G79 : Gh), G60 ≤ G79 ∧ Has [(0, Value.string a1), (7, Value.int .i64 y28), (9, Value.int .i64 y37), (46, Value.bool v78)] r ∧ Hp G79 (L) w ∧ True) ?_ ?_
        · replace H := hC
          by_cases h84 : v59 = true
          · replace H := ite_yes h84 H
            refine q_mv (v := Value.string y27) rfl ?_ (hw := guard_yes rfl rfl rfl (bval_yes h84))
            refine q_mv (v := Value.string y36) rfl ?_ (hw := guard_yes rfl rfl rfl (bval_yes h84))
            refine q_str_eql rfl rfl ?_ (hw := guard_yes rfl rfl rfl (bval_yes h84))
            refine q_pick true (v := Value.bool (decide (y27 = y36))) (bval_yes h84) rfl ?_
            refine wpq_nil ?_
            cases H
            exact ⟨rfl, rfl, _, (Gh.le_refl _), ⟨rfl, rfl, rfl, rfl, trivial⟩, hI63, trivial⟩
          · replace H := ite_no h84 H
            refine wpq_no (guard_no rfl rfl rfl (bval_no h84) rfl) ?_
            refine wpq_no (guard_no rfl rfl rfl (bval_no h84) rfl) ?_
            refine wpq_no (guard_no rfl rfl rfl (bval_no h84) rfl) ?_
            refine q_pick false (v := Value.bool false) (bval_no h84) rfl ?_
            refine wpq_nil ?_
            cases H
            exact ⟨rfl, rfl, _, (Gh.le_refl _), ⟨rfl, rfl, rfl, rfl, trivial⟩, hI63, trivial⟩
        · clear hC
          rintro e r ds wd81 ⟨rfl, rfl, G79, hG80, hHas, hI82, _⟩
          rw [hHas.eq]; clear hHas
          refine q_mv (v := Value.bool v78) rfl ?_
          obtain ⟨v85, hC, H⟩ := bind_some H
          refine wpq_split 4 (K := fun e r ds w => e = .normal ∧ ds = [] ∧ ∃ (G86 : Gh), G79 ≤ G86 ∧ Has [(0, Value.string a1), (51, Value.bool v85)] r ∧ Hp G86 (L) w ∧ True) ?_ ?_
          · replace H := hC
            by_cases h91 : v78 = true
            · replace H := ite_yes h91 H
              refine q_mv (v := Value.int .i64 y28) rfl ?_ (hw := guard_yes rfl rfl rfl (bval_yes h91))
              refine q_mv (v := Value.int .i64 y37) rfl ?_ (hw := guard_yes rfl rfl rfl (bval_yes h91))
              refine q_eql rfl rfl ?_ (hw := guard_yes rfl rfl rfl (bval_yes h91))
              refine q_pick true (v := Value.bool (decide (y28 = y37))) (bval_yes h91) rfl ?_
              refine wpq_nil ?_
              cases H
              exact ⟨rfl, rfl, _, (Gh.le_refl _), ⟨rfl, rfl, trivial⟩, hI82, trivial⟩
            · replace H := ite_no h91 H
              refine wpq_no (guard_no rfl rfl rfl (bval_no h91) rfl) ?_
              refine wpq_no (guard_no rfl rfl rfl (bval_no h91) rfl) ?_
              refine wpq_no (guard_no rfl rfl rfl (bval_no h91) rfl) ?_
              refine q_pick false (v := Value.bool false) (bval_no h91) rfl ?_
              refine wpq_nil ?_
              cases H
              exact ⟨rfl, rfl, _, (Gh.le_refl _), ⟨rfl, rfl, trivial⟩, hI82, trivial⟩
          · clear hC
            rintro e r ds wd88 ⟨rfl, rfl, G86, hG87, hHas, hI89, _⟩
            rw [hHas.eq]; clear hHas
            refine q_as (v := Value.bool v85) rfl ?_
            refine wpq_nil ?_
            refine hK39 _ _ _ ?_
            refine wpc_seq_k fun K92 hK93 => ?_
            refine wpc_region ?_
            refine q_mv (v := Value.string a1) rfl ?_
            obtain ⟨⟨y99, y100⟩, hy94, H⟩ := bind_some H
            refine q_cv (vs := [Value.string a1]) bo16 rfl rfl (text_Words_spec hI89 hy94) ?_
            rintro _ wd97 ⟨G95, hG96, hI98, rfl⟩
            refine ⟨_, rfl, ?_⟩
            refine q_mv (v := Value.tuple [Value.int .i64 y99, Value.int .i64 y100].toArray) rfl ?_
            refine q_ex (v := Value.int .i64 y99) rfl rfl ?_
            refine q_ex (v := Value.int .i64 y100) rfl rfl ?_
            refine q_as (v := Value.int .i64 y99) rfl ?_
            refine q_as (v := Value.int .i64 y100) rfl ?_
            refine wpq_nil ?_
            refine hK93 _ _ _ ?_
            refine wpc_seq_k fun K101 hK102 => ?_
            refine wpc_region ?_
            refine q_mv (v := Value.string a1) rfl ?_
            obtain ⟨⟨y108, y109⟩, hy103, H⟩ := bind_some H
            refine q_cv (vs := [Value.string a1]) bo17 rfl rfl (formeref06_Words_spec hI98 hy103) ?_
            rintro _ wd106 ⟨G104, hG105, hI107, rfl⟩
            refine ⟨_, rfl, ?_⟩
            refine q_mv (v := Value.tuple [Value.int .i64 y108, Value.int .i64 y109].toArray) rfl ?_
            refine q_ex (v := Value.int .i64 y108) rfl rfl ?_
            refine q_ex (v := Value.int .i64 y109) rfl rfl ?_
            refine q_as (v := Value.int .i64 y108) rfl ?_
            refine q_as (v := Value.int .i64 y109) rfl ?_
            refine wpq_nil ?_
            refine hK102 _ _ _ ?_
            refine wpc_seq_k fun K110 hK111 => ?_
            refine wpc_region ?_
            refine q_mv (v := Value.bool v85) rfl ?_
            refine q_mv (v := Value.bool v85) rfl ?_
            obtain ⟨v112, hC, H⟩ := bind_some H
            refine wpq_split 4 (K := fun e r ds w => e = .normal ∧ ds = [] ∧ ∃ (G113 : Gh), G104 ≤ G113 ∧ Has [(0, Value.string a1), (7, Value.int .i64 y100), (9, Value.int .i64 y109), (67, Value.bool v112)] r ∧ Hp G113 (L) w ∧ True) ?_ ?_
            · replace H := hC
              by_cases h118 : v85 = true
              · replace H := ite_yes h118 H
                refine q_mv (v := Value.int .i64 y99) rfl ?_ (hw := guard_yes rfl rfl rfl (bval_yes h118))
                refine q_mv (v := Value.int .i64 y108) rfl ?_ (hw := guard_yes rfl rfl rfl (bval_yes h118))
                refine q_eql rfl rfl ?_ (hw := guard_yes rfl rfl rfl (bval_yes h118))
                refine q_pick true (v := Value.bool (decide (y99 = y108))) (bval_yes h118) rfl ?_
                refine wpq_nil ?_
                cases H
                exact ⟨rfl, rfl, _, (Gh.le_refl _), ⟨rfl, rfl, rfl, rfl, trivial⟩, hI107, trivial⟩
              · replace H := ite_no h118 H
                refine wpq_no (guard_no rfl rfl rfl (bval_no h118) rfl) ?_
                refine wpq_no (guard_no rfl rfl rfl (bval_no h118) rfl) ?_
                refine wpq_no (guard_no rfl rfl rfl (bval_no h118) rfl) ?_
                refine q_pick false (v := Value.bool false) (bval_no h118) rfl ?_
                refine wpq_nil ?_
                cases H
                exact ⟨rfl, rfl, _, (Gh.le_refl _), ⟨rfl, rfl, rfl, rfl, trivial⟩, hI107, trivial⟩
            · clear hC
              rintro e r ds wd115 ⟨rfl, rfl, G113, hG114, hHas, hI116, _⟩
              rw [hHas.eq]; clear hHas
              refine q_mv (v := Value.bool v112) rfl ?_
              obtain ⟨v119, hC, H⟩ := bind_some H
              refine wpq_split 4 (K := fun e r ds w => e = .normal ∧ ds = [] ∧ ∃ (G120 : Gh), G113 ≤ G120 ∧ Has [(0, Value.string a1), (72, Value.bool v119)] r ∧ Hp G120 (L) w ∧ True) ?_ ?_
              · replace H := hC
                by_cases h125 : v112 = true
                · replace H := ite_yes h125 H
                  refine q_mv (v := Value.int .i64 y100) rfl ?_ (hw := guard_yes rfl rfl rfl (bval_yes h125))
                  refine q_mv (v := Value.int .i64 y109) rfl ?_ (hw := guard_yes rfl rfl rfl (bval_yes h125))
                  refine q_eql rfl rfl ?_ (hw := guard_yes rfl rfl rfl (bval_yes h125))
                  refine q_pick true (v := Value.bool (decide (y100 = y109))) (bval_yes h125) rfl ?_
                  refine wpq_nil ?_
                  cases H
                  exact ⟨rfl, rfl, _, (Gh.le_refl _), ⟨rfl, rfl, trivial⟩, hI116, trivial⟩
                · replace H := ite_no h125 H
                  refine wpq_no (guard_no rfl rfl rfl (bval_no h125) rfl) ?_
                  refine wpq_no (guard_no rfl rfl rfl (bval_no h125) rfl) ?_
                  refine wpq_no (guard_no rfl rfl rfl (bval_no h125) rfl) ?_
                  refine q_pick false (v := Value.bool false) (bval_no h125) rfl ?_
                  refine wpq_nil ?_
                  cases H
                  exact ⟨rfl, rfl, _, (Gh.le_refl _), ⟨rfl, rfl, trivial⟩, hI116, trivial⟩
              · clear hC
                rintro e r ds wd122 ⟨rfl, rfl, G120, hG121, hHas, hI123, _⟩
                rw [hHas.eq]; clear hHas
                refine q_as (v := Value.bool v119) rfl ?_
                refine wpq_nil ?_
                refine hK111 _ _ _ ?_
                refine wpc_seq_k fun K126 hK127 => ?_
                refine wpc_region ?_
                refine q_mv (v := Value.string a1) rfl ?_
                obtain ⟨⟨y133, y134⟩, hy128, H⟩ := bind_some H
                refine q_cv (vs := [Value.string a1]) bo18 rfl rfl (text_Trim_spec hI123 hy128) ?_
                rintro _ wd131 ⟨G129, hG130, hI132, rfl⟩
                refine ⟨_, rfl, ?_⟩
                refine q_mv (v := Value.tuple [Value.string y133, Value.int .i64 y134].toArray) rfl ?_
                refine q_ex (v := Value.string y133) rfl rfl ?_
                refine q_ex (v := Value.int .i64 y134) rfl rfl ?_
                refine q_as (v := Value.string y133) rfl ?_
                refine q_as (v := Value.int .i64 y134) rfl ?_
                refine wpq_nil ?_
                refine hK127 _ _ _ ?_
                refine wpc_seq_k fun K135 hK136 => ?_
                refine wpc_region ?_
                refine q_mv (v := Value.string a1) rfl ?_
                obtain ⟨⟨y142, y143⟩, hy137, H⟩ := bind_some H
                refine q_cv (vs := [Value.string a1]) bo19 rfl rfl (formeref06_Trim_spec hI132 hy137) ?_
                rintro _ wd140 ⟨G138, hG139, hI141, rfl⟩
                refine ⟨_, rfl, ?_⟩
                refine q_mv (v := Value.tuple [Value.string y142, Value.int .i64 y143].toArray) rfl ?_
                refine q_ex (v := Value.string y142) rfl rfl ?_
                refine q_ex (v := Value.int .i64 y143) rfl rfl ?_
                refine q_as (v := Value.string y142) rfl ?_
                refine q_as (v := Value.int .i64 y143) rfl ?_
                refine wpq_nil ?_
                refine hK136 _ _ _ ?_
                refine wpc_seq_k fun K144 hK145 => ?_
                refine wpc_region ?_
                refine q_mv (v := Value.bool v119) rfl ?_
                refine q_mv (v := Value.bool v119) rfl ?_
                obtain ⟨v146, hC, H⟩ := bind_some H
                refine wpq_split 4 (K := fun e r ds w => e = .normal ∧ ds = [] ∧ ∃ (G147 : Gh), G138 ≤ G147 ∧ Has [(7, Value.int .i64 y134), (9, Value.int .i64 y143), (88, Value.bool v146)] r ∧ Hp G147 (L) w ∧ True) ?_ ?_
                · replace H := hC
                  by_cases h152 : v119 = true
                  · replace H := ite_yes h152 H
                    refine q_mv (v := Value.string y133) rfl ?_ (hw := guard_yes rfl rfl rfl (bval_yes h152))
                    refine q_mv (v := Value.string y142) rfl ?_ (hw := guard_yes rfl rfl rfl (bval_yes h152))
                    refine q_str_eql rfl rfl ?_ (hw := guard_yes rfl rfl rfl (bval_yes h152))
                    refine q_pick true (v := Value.bool (decide (y133 = y142))) (bval_yes h152) rfl ?_
                    refine wpq_nil ?_
                    cases H
                    exact ⟨rfl, rfl, _, (Gh.le_refl _), ⟨rfl, rfl, rfl, trivial⟩, hI141, trivial⟩
                  · replace H := ite_no h152 H
                    refine wpq_no (guard_no rfl rfl rfl (bval_no h152) rfl) ?_
                    refine wpq_no (guard_no rfl rfl rfl (bval_no h152) rfl) ?_
                    refine wpq_no (guard_no rfl rfl rfl (bval_no h152) rfl) ?_
                    refine q_pick false (v := Value.bool false) (bval_no h152) rfl ?_
                    refine wpq_nil ?_
                    cases H
                    exact ⟨rfl, rfl, _, (Gh.le_refl _), ⟨rfl, rfl, rfl, trivial⟩, hI141, trivial⟩
                · clear hC
                  rintro e r ds wd149 ⟨rfl, rfl, G147, hG148, hHas, hI150, _⟩
                  rw [hHas.eq]; clear hHas
                  refine q_mv (v := Value.bool v146) rfl ?_
                  obtain ⟨v153, hC, H⟩ := bind_some H
                  refine wpq_split 4 (K := fun e r ds w => e = .normal ∧ ds = [] ∧ ∃ (G154 : Gh), G147 ≤ G154 ∧ Has [(93, Value.bool v153)] r ∧ Hp G154 (L) w ∧ True) ?_ ?_
                  · replace H := hC
                    by_cases h159 : v146 = true
                    · replace H := ite_yes h159 H
                      refine q_mv (v := Value.int .i64 y134) rfl ?_ (hw := guard_yes rfl rfl rfl (bval_yes h159))
                      refine q_mv (v := Value.int .i64 y143) rfl ?_ (hw := guard_yes rfl rfl rfl (bval_yes h159))
                      refine q_eql rfl rfl ?_ (hw := guard_yes rfl rfl rfl (bval_yes h159))
                      refine q_pick true (v := Value.bool (decide (y134 = y143))) (bval_yes h159) rfl ?_
                      refine wpq_nil ?_
                      cases H
                      exact ⟨rfl, rfl, _, (Gh.le_refl _), ⟨rfl, trivial⟩, hI150, trivial⟩
                    · replace H := ite_no h159 H
                      refine wpq_no (guard_no rfl rfl rfl (bval_no h159) rfl) ?_
                      refine wpq_no (guard_no rfl rfl rfl (bval_no h159) rfl) ?_
                      refine wpq_no (guard_no rfl rfl rfl (bval_no h159) rfl) ?_
                      refine q_pick false (v := Value.bool false) (bval_no h159) rfl ?_
                      refine wpq_nil ?_
                      cases H
                      exact ⟨rfl, rfl, _, (Gh.le_refl _), ⟨rfl, trivial⟩, hI150, trivial⟩
                  · clear hC
                    rintro e r ds wd156 ⟨rfl, rfl, G154, hG155, hHas, hI157, _⟩
                    rw [hHas.eq]; clear hHas
                    refine q_as (v := Value.bool v153) rfl ?_
                    refine wpq_nil ?_
                    refine hK145 _ _ _ ?_
                    refine wpc_ret ?_
                    cases H
                    exact ⟨.inr rfl, rfl, _, ⟨_, _, rfl, rfl, rfl⟩, _, (Gh.le_trans (Gh.le_trans (Gh.le_trans (Gh.le_trans (Gh.le_trans (Gh.le_trans (Gh.le_trans (Gh.le_trans (Gh.le_trans (Gh.le_trans (Gh.le_trans (Gh.le_trans (Gh.le_trans (Gh.le_trans hG9 hG24) hG33) hG42) hG61) hG80) hG87) hG96) hG105) hG114) hG121) hG130) hG139) hG148) hG155), hI157, rfl⟩
set_option maxHeartbeats 1000000 in
theorem formelaw06_TextParts_spec {a1 : ByteArray} {a2 : ByteArray} {r1157 : Bool} {G : Gh} {L : List Itm} {w : World} (hI : Hp G (L) w) (hgl : Gl G) (H : formelaw06_TextParts a1 a2 = some r1157) :
    Calls Tryd.prog 4 [Value.string a1, Value.string a2].toArray w fun e w' => ∃ (G' : Gh), G ≤ G' ∧ Hp G' (L) w' ∧ e = .returned (Value.bool r1157) := by
  refine calls_intro (N := 102) Tryd.func4 rfl rfl (Nat.le_of_ble_eq_true rfl) ?_
  unfold formelaw06_TextParts at H
  refine wpc_seq_k fun K3 hK4 => ?_
  refine wpc_region ?_
  refine q_as (v := Value.bool false) rfl ?_
  refine wpq_nil ?_
  refine hK4 _ _ _ ?_
  refine wpc_seq_k fun K5 hK6 => ?_
  refine wpc_region ?_
  obtain ⟨y12, hy7, H⟩ := bind_some H
  refine q_cv (vs := []) bo9 rfl rfl (formelaw06_head_spec hI (hgl.mono (Gh.le_refl _)) hy7) ?_
  rintro _ wd10 ⟨G8, hG9, hI11, rfl⟩
  refine ⟨_, rfl, ?_⟩
  refine q_as (v := Value.bool y12) rfl ?_
  refine wpq_nil ?_
  refine hK6 _ _ _ ?_
  refine wpc_seq_k fun K13 hK14 => ?_
  refine wpc_seq_k fun K15 hK16 => ?_
  refine wpc_region ?_
  refine q_mv (v := Value.string a1) rfl ?_
  obtain ⟨y22, hy17, H⟩ := bind_some H
  refine q_cv (vs := [Value.string a1]) bo13 rfl rfl (formeref06_Valid_spec hI11 hy17) ?_
  rintro _ wd20 ⟨G18, hG19, hI21, rfl⟩
  refine ⟨_, rfl, ?_⟩
  refine q_not rfl ?_
  refine q_mv (v := Value.bool (!y22)) rfl ?_
  obtain ⟨v23, hC, H⟩ := bind_some H
  refine wpq_split 4 (K := fun e r ds w => e = .normal ∧ ds = [] ∧ ∃ (G24 : Gh), G18 ≤ G24 ∧ Has [(0, Value.string a1), (1, Value.string a2), (5, Value.bool y12), (22, Value.bool v23)] r ∧ Hp G24 (L) w ∧ True) ?_ ?_
  · replace H := hC
    by_cases h29 : (!y22) = true
    · replace H := ite_yes h29 H
      refine wpq_no (guard_no rfl rfl rfl (bval_yes h29) rfl) ?_
      refine wpq_no (guard_no rfl rfl rfl (bval_yes h29) rfl) ?_
      refine wpq_no (guard_no rfl rfl rfl (bval_yes h29) rfl) ?_
      refine q_pick true (v := Value.bool true) (bval_yes h29) rfl ?_
      refine wpq_nil ?_
      cases H
      exact ⟨rfl, rfl, _, (Gh.le_refl _), ⟨rfl, rfl, rfl, rfl, trivial⟩, hI21, trivial⟩
    · replace H := ite_no h29 H
      refine q_mv (v := Value.string a2) rfl ?_ (hw := guard_yes rfl rfl rfl (bval_no h29))
      obtain ⟨y35, hy30, H⟩ := bind_some H
      refine q_cv (vs := [Value.string a2]) bo13 rfl rfl (formeref06_Valid_spec hI21 hy30) ?_ (hw := guard_yes rfl rfl rfl (bval_no h29))
      rintro _ wd33 ⟨G31, hG32, hI34, rfl⟩
      refine ⟨_, rfl, ?_⟩
      refine q_not rfl ?_ (hw := guard_yes rfl rfl rfl (bval_no h29))
      refine q_pick false (v := Value.bool (!y35)) (bval_no h29) rfl ?_
      refine wpq_nil ?_
      cases H
      exact ⟨rfl, rfl, _, hG32, ⟨rfl, rfl, rfl, rfl, trivial⟩, hI34, trivial⟩
  · clear hC
    rintro e r ds wd26 ⟨rfl, rfl, G24, hG25, hHas, hI27, _⟩
    rw [hHas.eq]; clear hHas
    refine q_mv (v := Value.bool v23) rfl ?_
    obtain ⟨v36, hC, H⟩ := bind_some H
    refine wpq_split 4 (K := fun e r ds w => e = .normal ∧ ds = [] ∧ ∃ (G37 : Gh), G24 ≤ G37 ∧ Has [(0, Value.string a1), (1, Value.string a2), (5, Value.bool y12), (27, Value.bool v36)] r ∧ Hp G37 (L) w ∧ True) ?_ ?_
    · replace H := hC
      by_cases h42 : v23 = true
      · replace H := ite_yes h42 H
        refine wpq_no (guard_no rfl rfl rfl (bval_yes h42) rfl) ?_
        refine wpq_no (guard_no rfl rfl rfl (bval_yes h42) rfl) ?_
        refine wpq_no (guard_no rfl rfl rfl (bval_yes h42) rfl) ?_
        refine q_pick true (v := Value.bool true) (bval_yes h42) rfl ?_
        refine wpq_nil ?_
        cases H
        exact ⟨rfl, rfl, _, (Gh.le_refl _), ⟨rfl, rfl, rfl, rfl, trivial⟩, hI27, trivial⟩
      · replace H := ite_no h42 H
        refine q_mv (v := Value.string a1) rfl ?_ (hw := guard_yes rfl rfl rfl (bval_no h42))
        refine q_lens so9 rfl ?_ (hw := guard_yes rfl rfl rfl (bval_no h42))
        refine q_gtr rfl rfl ?_ (hw := guard_yes rfl rfl rfl (bval_no h42))
        refine q_pick false (v := Value.bool (decide (900 < (a1.size : Int)))) (bval_no h42) rfl ?_
        refine wpq_nil ?_
        cases H
        exact ⟨rfl, rfl, _, (Gh.le_refl _), ⟨rfl, rfl, rfl, rfl, trivial⟩, hI27, trivial⟩
    · clear hC
      rintro e r ds wd39 ⟨rfl, rfl, G37, hG38, hHas, hI40, _⟩
      rw [hHas.eq]; clear hHas
      refine q_mv (v := Value.bool v36) rfl ?_
      obtain ⟨v43, hC, H⟩ := bind_some H
      refine wpq_split 4 (K := fun e r ds w => e = .normal ∧ ds = [] ∧ ∃ (G44 : Gh), G37 ≤ G44 ∧ Has [(0, Value.string a1), (1, Value.string a2), (5, Value.bool y12), (32, Value.bool v43)] r ∧ Hp G44 (L) w ∧ True) ?_ ?_
      · replace H := hC
        by_cases h49 : v36 = true
        · replace H := ite_yes h49 H
          refine wpq_no (guard_no rfl rfl rfl (bval_yes h49) rfl) ?_
          refine wpq_no (guard_no rfl rfl rfl (bval_yes h49) rfl) ?_
          refine wpq_no (guard_no rfl rfl rfl (bval_yes h49) rfl) ?_
          refine q_pick true (v := Value.bool true) (bval_yes h49) rfl ?_
          refine wpq_nil ?_
          cases H
          exact ⟨rfl, rfl, _, (Gh.le_refl _), ⟨rfl, rfl, rfl, rfl, trivial⟩, hI40, trivial⟩
        · replace H := ite_no h49 H
          refine q_mv (v := Value.string a2) rfl ?_ (hw := guard_yes rfl rfl rfl (bval_no h49))
          refine q_lens so9 rfl ?_ (hw := guard_yes rfl rfl rfl (bval_no h49))
          refine q_gtr rfl rfl ?_ (hw := guard_yes rfl rfl rfl (bval_no h49))
          refine q_pick false (v := Value.bool (decide (900 < (a2.size : Int)))) (bval_no h49) rfl ?_
          refine wpq_nil ?_
          cases H
          exact ⟨rfl, rfl, _, (Gh.le_refl _), ⟨rfl, rfl, rfl, rfl, trivial⟩, hI40, trivial⟩
      · clear hC
        rintro e r ds wd46 ⟨rfl, rfl, G44, hG45, hHas, hI47, _⟩
        rw [hHas.eq]; clear hHas
        refine wpq_nil ?_
        refine hK16 _ _ _ ?_
        by_cases h50 : v43 = true
        · replace H := ite_yes h50 H
          refine wpc_true (bval_yes h50) ?_
          refine wpc_seq_k fun K51 hK52 => ?_
          refine wpc_region ?_
          refine q_mv (v := Value.bool y12) rfl ?_
          refine q_as (v := Value.bool y12) rfl ?_
          refine wpq_nil ?_
          refine hK52 _ _ _ ?_
          refine wpc_ret ?_
          cases H
          exact ⟨.inr rfl, rfl, _, ⟨_, _, rfl, rfl, rfl⟩, _, (Gh.le_trans (Gh.le_trans (Gh.le_trans (Gh.le_trans hG9 hG19) hG25) hG38) hG45), hI47, rfl⟩
        · replace H := ite_no h50 H
          refine wpc_false (bval_no h50) ?_
          refine wpc_skip ?_
          refine hK14 _ _ _ ?_
          refine wpc_seq_k fun K53 hK54 => ?_
          refine wpc_region ?_
          refine q_mv (v := Value.string a1) rfl ?_
          obtain ⟨⟨y60, y61⟩, hy55, H⟩ := bind_some H
          refine q_cv (vs := [Value.string a1]) bo16 rfl rfl (text_Words_spec hI47 hy55) ?_
          rintro _ wd58 ⟨G56, hG57, hI59, rfl⟩
          refine ⟨_, rfl, ?_⟩
          refine q_mv (v := Value.tuple [Value.int .i64 y60, Value.int .i64 y61].toArray) rfl ?_
          refine q_ex (v := Value.int .i64 y60) rfl rfl ?_
          refine q_ex (v := Value.int .i64 y61) rfl rfl ?_
          refine q_as (v := Value.int .i64 y60) rfl ?_
          refine q_as (v := Value.int .i64 y61) rfl ?_
          refine wpq_nil ?_
          refine hK54 _ _ _ ?_
          refine wpc_seq_k fun K62 hK63 => ?_
          refine wpc_region ?_
          refine q_mv (v := Value.string a2) rfl ?_
          obtain ⟨⟨y69, y70⟩, hy64, H⟩ := bind_some H
          refine q_cv (vs := [Value.string a2]) bo16 rfl rfl (text_Words_spec hI59 hy64) ?_
          rintro _ wd67 ⟨G65, hG66, hI68, rfl⟩
          refine ⟨_, rfl, ?_⟩
          refine q_mv (v := Value.tuple [Value.int .i64 y69, Value.int .i64 y70].toArray) rfl ?_
          refine q_ex (v := Value.int .i64 y69) rfl rfl ?_
          refine q_ex (v := Value.int .i64 y70) rfl rfl ?_
          refine q_as (v := Value.int .i64 y69) rfl ?_
          refine q_as (v := Value.int .i64 y70) rfl ?_
          refine wpq_nil ?_
          refine hK63 _ _ _ ?_
          refine wpc_seq_k fun K71 hK72 => ?_
          refine wpc_region ?_
          refine q_mv (v := Value.string a1) rfl ?_
          obtain ⟨h73, H⟩ := ite_some H
          refine q_str_add rfl rfl h73 ?_
          refine q_mv (v := Value.string a2) rfl ?_
          obtain ⟨h74, H⟩ := ite_some H
          refine q_str_add rfl rfl h74 ?_
          obtain ⟨⟨y80, y81⟩, hy75, H⟩ := bind_some H
          refine q_cv (vs := [Value.string ((a1 ++ (⟨#[32]⟩ : ByteArray)) ++ a2)]) bo16 rfl rfl (text_Words_spec hI68 hy75) ?_
          rintro _ wd78 ⟨G76, hG77, hI79, rfl⟩
          refine ⟨_, rfl, ?_⟩
          refine q_mv (v := Value.tuple [Value.int .i64 y80, Value.int .i64 y81].toArray) rfl ?_
          refine q_ex (v := Value.int .i64 y80) rfl rfl ?_
          refine q_ex (v := Value.int .i64 y81) rfl rfl ?_
          refine q_as (v := Value.int .i64 y80) rfl ?_
          refine q_as (v := Value.int .i64 y81) rfl ?_
          refine wpq_nil ?_
          refine hK72 _ _ _ ?_
          refine wpc_seq_k fun K82 hK83 => ?_
          refine wpc_region ?_
          refine q_mv (v := Value.string a1) rfl ?_
          refine q_mv (v := Value.string a2) rfl ?_
          obtain ⟨h84, H⟩ := ite_some H
          refine q_str_add rfl rfl h84 ?_
          obtain ⟨⟨y90, y91⟩, hy85, H⟩ := bind_some H
          refine q_cv (vs := [Value.string (a1 ++ a2)]) bo16 rfl rfl (text_Words_spec hI79 hy85) ?_
          rintro _ wd88 ⟨G86, hG87, hI89, rfl⟩
          refine ⟨_, rfl, ?_⟩
          refine q_mv (v := Value.tuple [Value.int .i64 y90, Value.int .i64 y91].toArray) rfl ?_
          refine q_ex (v := Value.int .i64 y90) rfl rfl ?_
          refine q_ex (v := Value.int .i64 y91) rfl rfl ?_
          refine q_as (v := Value.int .i64 y90) rfl ?_
          refine q_as (v := Value.int .i64 y91) rfl ?_
          refine wpq_nil ?_
          refine hK83 _ _ _ ?_
          refine wpc_seq_k fun K92 hK93 => ?_
          refine wpc_region ?_
          refine q_mv (v := Value.bool y12) rfl ?_
          refine q_mv (v := Value.bool y12) rfl ?_
          obtain ⟨v94, hC, H⟩ := bind_some H
          refine wpq_split 3 (K := fun e r ds w => e = .normal ∧ ds = [] ∧ ∃ (G95 : Gh), G86 ≤ G95 ∧ Has [(6, Value.int .i64 y60), (8, Value.int .i64 y69), (9, Value.int .i64 y70), (10, Value.int .i64 y80), (11, Value.int .i64 y81), (12, Value.int .i64 y90), (13, Value.int .i64 y91), (63, Value.bool v94)] r ∧ Hp G95 (L) w ∧ True) ?_ ?_
          · replace H := hC
            by_cases h100 : y12 = true
            · replace H := ite_yes h100 H
              refine q_mv (v := Value.int .i64 y61) rfl ?_ (hw := guard_yes rfl rfl rfl (bval_yes h100))
              refine q_eql rfl rfl ?_ (hw := guard_yes rfl rfl rfl (bval_yes h100))
              refine q_pick true (v := Value.bool (decide (y61 = 0))) (bval_yes h100) rfl ?_
              refine wpq_nil ?_
              cases H
              exact ⟨rfl, rfl, _, (Gh.le_refl _), ⟨rfl, rfl, rfl, rfl, rfl, rfl, rfl, rfl, trivial⟩, hI89, trivial⟩
            · replace H := ite_no h100 H
              refine wpq_no (guard_no rfl rfl rfl (bval_no h100) rfl) ?_
              refine wpq_no (guard_no rfl rfl rfl (bval_no h100) rfl) ?_
              refine q_pick false (v := Value.bool false) (bval_no h100) rfl ?_
              refine wpq_nil ?_
              cases H
              exact ⟨rfl, rfl, _, (Gh.le_refl _), ⟨rfl, rfl, rfl, rfl, rfl, rfl, rfl, rfl, trivial⟩, hI89, trivial⟩
          · clear hC
            rintro e r ds wd97 ⟨rfl, rfl, G95, hG96, hHas, hI98, _⟩
            rw [hHas.eq]; clear hHas
            refine q_mv (v := Value.bool v94) rfl ?_
            obtain ⟨v101, hC, H⟩ := bind_some H
            refine wpq_split 3 (K := fun e r ds w => e = .normal ∧ ds = [] ∧ ∃ (G102 : Gh), G95 ≤ G102 ∧ Has [(6, Value.int .i64 y60), (8, Value.int .i64 y69), (10, Value.int .i64 y80), (11, Value.int .i64 y81), (12, Value.int .i64 y90), (13, Value.int .i64 y91), (67, Value.bool v101)] r ∧ Hp G102 (L) w ∧ True) ?_ ?_
            · replace H := hC
              by_cases h107 : v94 = true
              · replace H := ite_yes h107 H
                refine q_mv (v := Value.int .i64 y70) rfl ?_ (hw := guard_yes rfl rfl rfl (bval_yes h107))
                refine q_eql rfl rfl ?_ (hw := guard_yes rfl rfl rfl (bval_yes h107))
                refine q_pick true (v := Value.bool (decide (y70 = 0))) (bval_yes h107) rfl ?_
                refine wpq_nil ?_
                cases H
                exact ⟨rfl, rfl, _, (Gh.le_refl _), ⟨rfl, rfl, rfl, rfl, rfl, rfl, rfl, trivial⟩, hI98, trivial⟩
              · replace H := ite_no h107 H
                refine wpq_no (guard_no rfl rfl rfl (bval_no h107) rfl) ?_
                refine wpq_no (guard_no rfl rfl rfl (bval_no h107) rfl) ?_
                refine q_pick false (v := Value.bool false) (bval_no h107) rfl ?_
                refine wpq_nil ?_
                cases H
                exact ⟨rfl, rfl, _, (Gh.le_refl _), ⟨rfl, rfl, rfl, rfl, rfl, rfl, rfl, trivial⟩, hI98, trivial⟩
            · clear hC
              rintro e r ds wd104 ⟨rfl, rfl, G102, hG103, hHas, hI105, _⟩
              rw [hHas.eq]; clear hHas
              refine q_mv (v := Value.bool v101) rfl ?_
              obtain ⟨v108, hC, H⟩ := bind_some H
              refine wpq_split 3 (K := fun e r ds w => e = .normal ∧ ds = [] ∧ ∃ (G109 : Gh), G102 ≤ G109 ∧ Has [(6, Value.int .i64 y60), (8, Value.int .i64 y69), (10, Value.int .i64 y80), (12, Value.int .i64 y90), (13, Value.int .i64 y91), (71, Value.bool v108)] r ∧ Hp G109 (L) w ∧ True) ?_ ?_
              · replace H := hC
                by_cases h114 : v101 = true
                · replace H := ite_yes h114 H
                  refine q_mv (v := Value.int .i64 y81) rfl ?_ (hw := guard_yes rfl rfl rfl (bval_yes h114))
                  refine q_eql rfl rfl ?_ (hw := guard_yes rfl rfl rfl (bval_yes h114))
                  refine q_pick true (v := Value.bool (decide (y81 = 0))) (bval_yes h114) rfl ?_
                  refine wpq_nil ?_
                  cases H
                  exact ⟨rfl, rfl, _, (Gh.le_refl _), ⟨rfl, rfl, rfl, rfl, rfl, rfl, trivial⟩, hI105, trivial⟩
                · replace H := ite_no h114 H
                  refine wpq_no (guard_no rfl rfl rfl (bval_no h114) rfl) ?_
                  refine wpq_no (guard_no rfl rfl rfl (bval_no h114) rfl) ?_
                  refine q_pick false (v := Value.bool false) (bval_no h114) rfl ?_
                  refine wpq_nil ?_
                  cases H
                  exact ⟨rfl, rfl, _, (Gh.le_refl _), ⟨rfl, rfl, rfl, rfl, rfl, rfl, trivial⟩, hI105, trivial⟩
              · clear hC
                rintro e r ds wd111 ⟨rfl, rfl, G109, hG110, hHas, hI112, _⟩
                rw [hHas.eq]; clear hHas
                refine q_mv (v := Value.bool v108) rfl ?_
                obtain ⟨v115, hC, H⟩ := bind_some H
                refine wpq_split 3 (K := fun e r ds w => e = .normal ∧ ds = [] ∧ ∃ (G116 : Gh), G109 ≤ G116 ∧ Has [(6, Value.int .i64 y60), (8, Value.int .i64 y69), (10, Value.int .i64 y80), (12, Value.int .i64 y90), (75, Value.bool v115)] r ∧ Hp G116 (L) w ∧ True) ?_ ?_
                · replace H := hC
                  by_cases h121 : v108 = true
                  · replace H := ite_yes h121 H
                    refine q_mv (v := Value.int .i64 y91) rfl ?_ (hw := guard_yes rfl rfl rfl (bval_yes h121))
                    refine q_eql rfl rfl ?_ (hw := guard_yes rfl rfl rfl (bval_yes h121))
                    refine q_pick true (v := Value.bool (decide (y91 = 0))) (bval_yes h121) rfl ?_
                    refine wpq_nil ?_
                    cases H
                    exact ⟨rfl, rfl, _, (Gh.le_refl _), ⟨rfl, rfl, rfl, rfl, rfl, trivial⟩, hI112, trivial⟩
                  · replace H := ite_no h121 H
                    refine wpq_no (guard_no rfl rfl rfl (bval_no h121) rfl) ?_
                    refine wpq_no (guard_no rfl rfl rfl (bval_no h121) rfl) ?_
                    refine q_pick false (v := Value.bool false) (bval_no h121) rfl ?_
                    refine wpq_nil ?_
                    cases H
                    exact ⟨rfl, rfl, _, (Gh.le_refl _), ⟨rfl, rfl, rfl, rfl, rfl, trivial⟩, hI112, trivial⟩
                · clear hC
                  rintro e r ds wd118 ⟨rfl, rfl, G116, hG117, hHas, hI119, _⟩
                  rw [hHas.eq]; clear hHas
                  refine q_mv (v := Value.bool v115) rfl ?_
                  obtain ⟨v122, hC, H⟩ := bind_some H
                  refine wpq_split 6 (K := fun e r ds w => e = .normal ∧ ds = [] ∧ ∃ (G123 : Gh), G116 ≤ G123 ∧ Has [(6, Value.int .i64 y60), (8, Value.int .i64 y69), (10, Value.int .i64 y80), (12, Value.int .i64 y90), (82, Value.bool v122)] r ∧ Hp G123 (L) w ∧ True) ?_ ?_
                  · replace H := hC
                    by_cases h128 : v115 = true
                    · replace H := ite_yes h128 H
                      refine q_mv (v := Value.int .i64 y80) rfl ?_ (hw := guard_yes rfl rfl rfl (bval_yes h128))
                      refine q_mv (v := Value.int .i64 y60) rfl ?_ (hw := guard_yes rfl rfl rfl (bval_yes h128))
                      refine q_mv (v := Value.int .i64 y69) rfl ?_ (hw := guard_yes rfl rfl rfl (bval_yes h128))
                      refine q_add rfl rfl ?_ (hw := guard_yes rfl rfl rfl (bval_yes h128))
                      refine q_eql rfl rfl ?_ (hw := guard_yes rfl rfl rfl (bval_yes h128))
                      refine q_pick true (v := Value.bool (decide (y80 = (w64 (y60 + y69))))) (bval_yes h128) rfl ?_
                      refine wpq_nil ?_
                      cases H
                      exact ⟨rfl, rfl, _, (Gh.le_refl _), ⟨rfl, rfl, rfl, rfl, rfl, trivial⟩, hI119, trivial⟩
                    · replace H := ite_no h128 H
                      refine wpq_no (guard_no rfl rfl rfl (bval_no h128) rfl) ?_
                      refine wpq_no (guard_no rfl rfl rfl (bval_no h128) rfl) ?_
                      refine wpq_no (guard_no rfl rfl rfl (bval_no h128) rfl) ?_
                      refine wpq_no (guard_no rfl rfl rfl (bval_no h128) rfl) ?_
                      refine wpq_no (guard_no rfl rfl rfl (bval_no h128) rfl) ?_
                      refine q_pick false (v := Value.bool false) (bval_no h128) rfl ?_
                      refine wpq_nil ?_
                      cases H
                      exact ⟨rfl, rfl, _, (Gh.le_refl _), ⟨rfl, rfl, rfl, rfl, rfl, trivial⟩, hI119, trivial⟩
                  · clear hC
                    rintro e r ds wd125 ⟨rfl, rfl, G123, hG124, hHas, hI126, _⟩
                    rw [hHas.eq]; clear hHas
                    refine q_mv (v := Value.bool v122) rfl ?_
                    obtain ⟨v129, hC, H⟩ := bind_some H
                    refine wpq_split 18 (K := fun e r ds w => e = .normal ∧ ds = [] ∧ ∃ (G130 : Gh), G123 ≤ G130 ∧ Has [(101, Value.bool v129)] r ∧ Hp G130 (L) w ∧ True) ?_ ?_
                    · replace H := hC
                      by_cases h135 : v122 = true
                      · replace H := ite_yes h135 H
                        refine q_mv (v := Value.int .i64 y90) rfl ?_ (hw := guard_yes rfl rfl rfl (bval_yes h135))
                        refine q_mv (v := Value.int .i64 y80) rfl ?_ (hw := guard_yes rfl rfl rfl (bval_yes h135))
                        refine q_eql rfl rfl ?_ (hw := guard_yes rfl rfl rfl (bval_yes h135))
                        refine q_mv (v := Value.bool (decide (y90 = y80))) rfl ?_ (hw := guard_yes rfl rfl rfl (bval_yes h135))
                        obtain ⟨v136, hC, H⟩ := bind_some H
                        refine wpq_split 13 (K := fun e r ds w => e = .normal ∧ ds = [] ∧ ∃ (G137 : Gh), G123 ≤ G137 ∧ Has [(83, Value.bool v122), (100, Value.bool v136)] r ∧ Hp G137 (L) w ∧ True) ?_ ?_
                        · replace H := hC
                          by_cases h142 : y90 = y80
                          · replace H := ite_yes h142 H
                            refine wpq_no (guard_no rfl rfl rfl (bool_yes h142) rfl) ?_
                            refine wpq_no (guard_no rfl rfl rfl (bool_yes h142) rfl) ?_
                            refine wpq_no (guard_no rfl rfl rfl (bool_yes h142) rfl) ?_
                            refine wpq_no (guard_no rfl rfl rfl (bool_yes h142) rfl) ?_
                            refine wpq_no (guard_no rfl rfl rfl (bool_yes h142) rfl) ?_
                            refine wpq_no (guard_no rfl rfl rfl rfl rfl) ?_
                            refine wpq_no (guard_no rfl rfl rfl rfl rfl) ?_
                            refine wpq_no (guard_no rfl rfl rfl (bool_yes h142) rfl) ?_
                            refine wpq_no (guard_no rfl rfl rfl (bool_yes h142) rfl) ?_
                            refine wpq_no (guard_no rfl rfl rfl rfl rfl) ?_
                            refine wpq_no (guard_no rfl rfl rfl rfl rfl) ?_
                            refine wpq_no (guard_no rfl rfl rfl (bool_yes h142) rfl) ?_
                            refine q_pick true (v := Value.bool true) (bool_yes h142) rfl ?_ (hw := guard_yes rfl rfl rfl (bval_yes h135))
                            refine wpq_nil ?_
                            cases H
                            exact ⟨rfl, rfl, _, (Gh.le_refl _), ⟨rfl, rfl, trivial⟩, hI126, trivial⟩
                          · replace H := ite_no h142 H
                            refine q_mv (v := Value.int .i64 y90) rfl ?_ (hw := guard_yes rfl rfl rfl (bool_no h142))
                            refine q_mv (v := Value.int .i64 y80) rfl ?_ (hw := guard_yes rfl rfl rfl (bool_no h142))
                            refine q_sub rfl rfl ?_ (hw := guard_yes rfl rfl rfl (bool_no h142))
                            refine q_eql rfl rfl ?_ (hw := guard_yes rfl rfl rfl (bool_no h142))
                            refine q_mv (v := Value.bool (decide (y90 = (w64 (y80 - 1))))) rfl ?_ (hw := guard_yes rfl rfl rfl (bool_no h142))
                            obtain ⟨v143, hC, H⟩ := bind_some H
                            refine wpq_split 3 (K := fun e r ds w => e = .normal ∧ ds = [] ∧ ∃ (G144 : Gh), G123 ≤ G144 ∧ Has [(8, Value.int .i64 y69), (83, Value.bool v122), (87, Value.bool (decide (y90 = y80))), (95, Value.bool v143)] r ∧ Hp G144 (L) w ∧ True) ?_ ?_
                            · replace H := hC
                              by_cases h149 : y90 = (w64 (y80 - 1))
                              · replace H := ite_yes h149 H
                                refine q_mv (v := Value.int .i64 y60) rfl ?_ (hw := guard_yes rfl rfl rfl (bool_yes h149))
                                refine q_gtr rfl rfl ?_ (hw := guard_yes rfl rfl rfl (bool_yes h149))
                                refine q_pick true (v := Value.bool (decide (0 < y60))) (bool_yes h149) rfl ?_ (hw := guard_yes rfl rfl rfl (bool_no h142))
                                refine wpq_nil ?_
                                cases H
                                exact ⟨rfl, rfl, _, (Gh.le_refl _), ⟨rfl, rfl, rfl, rfl, trivial⟩, hI126, trivial⟩
                              · replace H := ite_no h149 H
                                refine wpq_no (guard_no rfl rfl rfl (bool_no h149) rfl) ?_
                                refine wpq_no (guard_no rfl rfl rfl (bool_no h149) rfl) ?_
                                refine q_pick false (v := Value.bool false) (bool_no h149) rfl ?_ (hw := guard_yes rfl rfl rfl (bool_no h142))
                                refine wpq_nil ?_
                                cases H
                                exact ⟨rfl, rfl, _, (Gh.le_refl _), ⟨rfl, rfl, rfl, rfl, trivial⟩, hI126, trivial⟩
                            · clear hC
                              rintro e r ds wd146 ⟨rfl, rfl, G144, hG145, hHas, hI147, _⟩
                              rw [hHas.eq]; clear hHas
                              refine q_mv (v := Value.bool v143) rfl ?_ (hw := guard_yes rfl rfl rfl (bool_no h142))
                              obtain ⟨v150, hC, H⟩ := bind_some H
                              refine wpq_split 3 (K := fun e r ds w => e = .normal ∧ ds = [] ∧ ∃ (G151 : Gh), G144 ≤ G151 ∧ Has [(83, Value.bool v122), (87, Value.bool (decide (y90 = y80))), (99, Value.bool v150)] r ∧ Hp G151 (L) w ∧ True) ?_ ?_
                              · replace H := hC
                                by_cases h156 : v143 = true
                                · replace H := ite_yes h156 H
                                  refine q_mv (v := Value.int .i64 y69) rfl ?_ (hw := guard_yes rfl rfl rfl (bval_yes h156))
                                  refine q_gtr rfl rfl ?_ (hw := guard_yes rfl rfl rfl (bval_yes h156))
                                  refine q_pick true (v := Value.bool (decide (0 < y69))) (bval_yes h156) rfl ?_ (hw := guard_yes rfl rfl rfl (bool_no h142))
                                  refine wpq_nil ?_
                                  cases H
                                  exact ⟨rfl, rfl, _, (Gh.le_refl _), ⟨rfl, rfl, rfl, trivial⟩, hI147, trivial⟩
                                · replace H := ite_no h156 H
                                  refine wpq_no (guard_no rfl rfl rfl (bval_no h156) rfl) ?_
                                  refine wpq_no (guard_no rfl rfl rfl (bval_no h156) rfl) ?_
                                  refine q_pick false (v := Value.bool false) (bval_no h156) rfl ?_ (hw := guard_yes rfl rfl rfl (bool_no h142))
                                  refine wpq_nil ?_
                                  cases H
                                  exact ⟨rfl, rfl, _, (Gh.le_refl _), ⟨rfl, rfl, rfl, trivial⟩, hI147, trivial⟩
                              · clear hC
                                rintro e r ds wd153 ⟨rfl, rfl, G151, hG152, hHas, hI154, _⟩
                                rw [hHas.eq]; clear hHas
                                refine q_pick false (v := Value.bool v150) (bool_no h142) rfl ?_ (hw := guard_yes rfl rfl rfl (bval_yes h135))
                                refine wpq_nil ?_
                                cases H
                                exact ⟨rfl, rfl, _, (Gh.le_trans hG145 hG152), ⟨rfl, rfl, trivial⟩, hI154, trivial⟩
                        · clear hC
                          rintro e r ds wd139 ⟨rfl, rfl, G137, hG138, hHas, hI140, _⟩
                          rw [hHas.eq]; clear hHas
                          refine q_pick true (v := Value.bool v136) (bval_yes h135) rfl ?_
                          refine wpq_nil ?_
                          cases H
                          exact ⟨rfl, rfl, _, hG138, ⟨rfl, trivial⟩, hI140, trivial⟩
                      · replace H := ite_no h135 H
                        refine wpq_no (guard_no rfl rfl rfl (bval_no h135) rfl) ?_
                        refine wpq_no (guard_no rfl rfl rfl (bval_no h135) rfl) ?_
                        refine wpq_no (guard_no rfl rfl rfl (bval_no h135) rfl) ?_
                        refine wpq_no (guard_no rfl rfl rfl (bval_no h135) rfl) ?_
                        refine wpq_no (guard_no rfl rfl rfl rfl rfl) ?_
                        refine wpq_no (guard_no rfl rfl rfl rfl rfl) ?_
                        refine wpq_no (guard_no rfl rfl rfl rfl rfl) ?_
                        refine wpq_no (guard_no rfl rfl rfl rfl rfl) ?_
                        refine wpq_no (guard_no rfl rfl rfl rfl rfl) ?_
                        refine wpq_no (guard_no rfl rfl rfl rfl rfl) ?_
                        refine wpq_no (guard_no rfl rfl rfl rfl rfl) ?_
                        refine wpq_no (guard_no rfl rfl rfl rfl rfl) ?_
                        refine wpq_no (guard_no rfl rfl rfl rfl rfl) ?_
                        refine wpq_no (guard_no rfl rfl rfl rfl rfl) ?_
                        refine wpq_no (guard_no rfl rfl rfl rfl rfl) ?_
                        refine wpq_no (guard_no rfl rfl rfl rfl rfl) ?_
                        refine wpq_no (guard_no rfl rfl rfl (bval_no h135) rfl) ?_
                        refine q_pick false (v := Value.bool false) (bval_no h135) rfl ?_
                        refine wpq_nil ?_
                        cases H
                        exact ⟨rfl, rfl, _, (Gh.le_refl _), ⟨rfl, trivial⟩, hI126, trivial⟩
                    · clear hC
                      rintro e r ds wd132 ⟨rfl, rfl, G130, hG131, hHas, hI133, _⟩
                      rw [hHas.eq]; clear hHas
                      refine q_as (v := Value.bool v129) rfl ?_
                      refine wpq_nil ?_
                      refine hK93 _ _ _ ?_
                      refine wpc_ret ?_
                      cases H
                      exact ⟨.inr rfl, rfl, _, ⟨_, _, rfl, rfl, rfl⟩, _, (Gh.le_trans (Gh.le_trans (Gh.le_trans (Gh.le_trans (Gh.le_trans (Gh.le_trans (Gh.le_trans (Gh.le_trans (Gh.le_trans (Gh.le_trans (Gh.le_trans (Gh.le_trans (Gh.le_trans (Gh.le_trans hG9 hG19) hG25) hG38) hG45) hG57) hG66) hG77) hG87) hG96) hG103) hG110) hG117) hG124) hG131), hI133, rfl⟩
set_option maxHeartbeats 1000000 in
theorem strings_HasPrefix_spec {a0 : ByteArray} {a1 : ByteArray} {r0 : Bool} {G : Gh} {L : List Itm} {w : World} (hI : Hp G L w) (H : strings_HasPrefix a0 a1 = some r0) :
    Calls Tryd.prog 20 [Value.string a0, Value.string a1].toArray w fun e w' => ∃ (G' : Gh), G ≤ G' ∧ Hp G' L w' ∧ e = .returned (Value.bool r0) := by
  unfold strings_HasPrefix at H
  obtain ⟨hs, H⟩ := ite_some H
  cases H
  exact of_same hI (Any.strings_HasPrefix Tryd.l99 a0 a1 w)
set_option maxHeartbeats 1000000 in
theorem strings_HasSuffix_spec {a0 : ByteArray} {a1 : ByteArray} {r0 : Bool} {G : Gh} {L : List Itm} {w : World} (hI : Hp G L w) (H : strings_HasSuffix a0 a1 = some r0) :
    Calls Tryd.prog 21 [Value.string a0, Value.string a1].toArray w fun e w' => ∃ (G' : Gh), G ≤ G' ∧ Hp G' L w' ∧ e = .returned (Value.bool r0) := by
  unfold strings_HasSuffix at H
  obtain ⟨hs, H⟩ := ite_some H
  cases H
  exact of_same hI (Any.strings_HasSuffix Tryd.l100 a0 a1 w hs)
set_option maxHeartbeats 1000000 in
theorem formelaw06_TextClasses_spec {a1 : ByteArray} {r1214 : Bool} {G : Gh} {L : List Itm} {w : World} (hI : Hp G (L) w) (hgl : Gl G) (H : formelaw06_TextClasses a1 = some r1214) :
    Calls Tryd.prog 5 [Value.string a1].toArray w fun e w' => ∃ (G' : Gh), G ≤ G' ∧ Hp G' (L) w' ∧ e = .returned (Value.bool r1214) := by
  refine calls_intro (N := 99) Tryd.func5 rfl rfl (Nat.le_of_ble_eq_true rfl) ?_
  unfold formelaw06_TextClasses at H
  refine wpc_seq_k fun K2 hK3 => ?_
  refine wpc_region ?_
  refine q_as (v := Value.bool false) rfl ?_
  refine wpq_nil ?_
  refine hK3 _ _ _ ?_
  refine wpc_seq_k fun K4 hK5 => ?_
  refine wpc_region ?_
  obtain ⟨y11, hy6, H⟩ := bind_some H
  refine q_cv (vs := []) bo9 rfl rfl (formelaw06_head_spec hI (hgl.mono (Gh.le_refl _)) hy6) ?_
  rintro _ wd9 ⟨G7, hG8, hI10, rfl⟩
  refine ⟨_, rfl, ?_⟩
  refine q_as (v := Value.bool y11) rfl ?_
  refine wpq_nil ?_
  refine hK5 _ _ _ ?_
  refine wpc_seq_k fun K12 hK13 => ?_
  refine wpc_seq_k fun K14 hK15 => ?_
  refine wpc_region ?_
  refine q_mv (v := Value.string a1) rfl ?_
  refine q_lens so9 rfl ?_
  refine q_gtr rfl rfl ?_
  refine wpq_nil ?_
  refine hK15 _ _ _ ?_
  by_cases h16 : 3000 < (a1.size : Int)
  · replace H := ite_yes h16 H
    refine wpc_true (bool_yes h16) ?_
    refine wpc_seq_k fun K17 hK18 => ?_
    refine wpc_region ?_
    refine q_mv (v := Value.bool y11) rfl ?_
    refine q_as (v := Value.bool y11) rfl ?_
    refine wpq_nil ?_
    refine hK18 _ _ _ ?_
    refine wpc_ret ?_
    cases H
    exact ⟨.inr rfl, rfl, _, ⟨_, _, rfl, rfl, rfl⟩, _, hG8, hI10, rfl⟩
  · replace H := ite_no h16 H
    refine wpc_false (bool_no h16) ?_
    refine wpc_skip ?_
    refine hK13 _ _ _ ?_
    refine wpc_seq_k fun K19 hK20 => ?_
    refine wpc_region ?_
    refine q_mv (v := Value.string a1) rfl ?_
    refine q_lens so9 rfl ?_
    refine q_leq rfl rfl ?_
    refine q_as (v := Value.bool (decide ((a1.size : Int) ≤ 2000))) rfl ?_
    refine wpq_nil ?_
    refine hK20 _ _ _ ?_
    refine wpc_seq_k fun K21 hK22 => ?_
    refine wpc_seq_k fun K23 hK24 => ?_
    refine wpc_region ?_
    refine q_as (v := Value.int .i64 0) rfl ?_
    refine wpq_nil ?_
    refine hK24 _ _ _ ?_
    refine wpc_block ?_
    obtain ⟨v38, hC, H⟩ := bind_some H
    refine wpc_mono (Q := fun e r ds w => e = .exit 0 ∧ ds = [] ∧ ∃ (G39 : Gh), G7 ≤ G39 ∧ Has [(0, Value.string a1), (3, Value.bool y11), (4, Value.bool v38)] r ∧ Hp G39 (L) w ∧ True) ?_ ?_
    · clear H
      refine wpc_loop fun I hLp => ?_
      refine formelaw06_TextClasses_l37.partial_correctness a1 (fun v29 v30 o => ∀ (G44 : Gh) (r : Rg) (w : World), G7 ≤ G44 → Has [(0, Value.string a1), (3, Value.bool y11), (4, Value.bool v29), (5, Value.int .i64 v30)] r → Hp G44 (L) w → o = v38 → I r [] w) ?_ (decide ((a1.size : Int) ≤ 2000)) 0 _ hC _ _ _ (Gh.le_refl _) ⟨rfl, rfl, rfl, rfl, trivial⟩ hI10 rfl
      intro _ ih v29 v30 o H G44 r wd46 hG45 hHas hI47 ho
      rw [ho] at H; clear ho
      rw [hHas.eq]; clear hHas
      refine hLp _ _ _ ?_
      refine wpc_seq_k fun K48 hK49 => ?_
      refine wpc_seq_k fun K50 hK51 => ?_
      refine wpc_region ?_
      refine q_mv (v := Value.int .i64 v30) rfl ?_
      refine q_mv (v := Value.string a1) rfl ?_
      refine q_lens so9 rfl ?_
      refine q_lss rfl rfl ?_
      refine wpq_nil ?_
      refine hK51 _ _ _ ?_
      by_cases h52 : v30 < (a1.size : Int)
      · replace H := ite_yes h52 H
        refine wpc_true (bool_yes h52) ?_
        refine wpc_skip ?_
        refine hK49 _ _ _ ?_
        refine wpc_seq_k fun K53 hK54 => ?_
        refine wpc_block ?_
        refine wpc_region ?_
        refine q_mv (v := Value.bool v29) rfl ?_
        refine q_mv (v := Value.bool v29) rfl ?_
        obtain ⟨v55, hC, H⟩ := bind_some H
        refine wpq_split 6 (K := fun e r ds w => e = .normal ∧ ds = [] ∧ ∃ (G56 : Gh), G44 ≤ G56 ∧ Has [(0, Value.string a1), (3, Value.bool y11), (5, Value.int .i64 v30), (35, Value.bool v55)] r ∧ Hp G56 (L) w ∧ True) ?_ ?_
        · replace H := hC
          by_cases h61 : v29 = true
          · replace H := ite_yes h61 H
            refine q_mv (v := Value.string a1) rfl ?_ (hw := guard_yes rfl rfl rfl (bval_yes h61))
            refine q_mv (v := Value.int .i64 v30) rfl ?_ (hw := guard_yes rfl rfl rfl (bval_yes h61))
            obtain ⟨⟨h62, h62'⟩, H⟩ := ite_some H
            refine q_is so9 rfl rfl h62 h62' rfl ?_ (hw := guard_yes rfl rfl rfl (bval_yes h61))
            obtain ⟨y68, hy63, H⟩ := bind_some H
            refine q_cv (vs := [Value.int .u8 (bt a1 v30)]) bo14 rfl rfl (text_Class_spec hI47 hy63) ?_ (hw := guard_yes rfl rfl rfl (bval_yes h61))
            rintro _ wd66 ⟨G64, hG65, hI67, rfl⟩
            refine ⟨_, rfl, ?_⟩
            refine q_gtr rfl rfl ?_ (hw := guard_yes rfl rfl rfl (bval_yes h61))
            refine q_pick true (v := Value.bool (decide (0 < y68))) (bval_yes h61) rfl ?_
            refine wpq_nil ?_
            cases H
            exact ⟨rfl, rfl, _, hG65, ⟨rfl, rfl, rfl, rfl, trivial⟩, hI67, trivial⟩
          · replace H := ite_no h61 H
            refine wpq_no (guard_no rfl rfl rfl (bval_no h61) rfl) ?_
            refine wpq_no (guard_no rfl rfl rfl (bval_no h61) rfl) ?_
            refine wpq_no (guard_no rfl rfl rfl (bval_no h61) rfl) ?_
            refine wpq_no (guard_no rfl rfl rfl (bval_no h61) rfl) ?_
            refine wpq_no (guard_no rfl rfl rfl (bval_no h61) rfl) ?_
            refine q_pick false (v := Value.bool false) (bval_no h61) rfl ?_
            refine wpq_nil ?_
            cases H
            exact ⟨rfl, rfl, _, (Gh.le_refl _), ⟨rfl, rfl, rfl, rfl, trivial⟩, hI47, trivial⟩
        · clear hC
          rintro e r ds wd58 ⟨rfl, rfl, G56, hG57, hHas, hI59, _⟩
          rw [hHas.eq]; clear hHas
          refine q_as (v := Value.bool v55) rfl ?_
          refine wpq_nil ?_
          refine hK54 _ _ _ ?_
          refine wpc_region ?_
          refine q_mv (v := Value.int .i64 v30) rfl ?_
          refine q_add rfl rfl ?_
          refine q_as (v := Value.int .i64 (w64 (v30 + 1))) rfl ?_
          refine wpq_nil ?_
          exact ih _ _ _ H _ _ _ (Gh.le_trans hG45 hG57) ⟨rfl, rfl, rfl, rfl, trivial⟩ hI59 rfl
      · replace H := ite_no h52 H
        refine wpc_false (bool_no h52) ?_
        refine wpc_exit ?_
        cases H
        exact ⟨rfl, rfl, _, hG45, ⟨rfl, rfl, rfl, trivial⟩, hI47, trivial⟩
    · clear hC
      rintro e r ds wd41 ⟨rfl, rfl, G39, hG40, hHas, hI42, _⟩
      rw [hHas.eq]; clear hHas
      refine hK22 _ _ _ ?_
      refine wpc_seq_k fun K69 hK70 => ?_
      refine wpc_seq_k fun K71 hK72 => ?_
      refine wpc_region ?_
      refine q_mv (v := Value.string a1) rfl ?_
      obtain ⟨y78, hy73, H⟩ := bind_some H
      refine q_cv (vs := [Value.string a1]) bo12 rfl rfl (text_Valid_spec hI42 hy73) ?_
      rintro _ wd76 ⟨G74, hG75, hI77, rfl⟩
      refine ⟨_, rfl, ?_⟩
      refine q_mv (v := Value.bool v38) rfl ?_
      refine q_bool_neq rfl rfl so4 ?_
      refine wpq_nil ?_
      refine hK72 _ _ _ ?_
      by_cases h79 : ¬ y78 = v38
      · replace H := ite_yes h79 H
        refine wpc_true (bool_yes h79) ?_
        refine wpc_seq_k fun K80 hK81 => ?_
        refine wpc_region ?_
        refine q_as (v := Value.bool false) rfl ?_
        refine wpq_nil ?_
        refine hK81 _ _ _ ?_
        refine wpc_ret ?_
        cases H
        exact ⟨.inr rfl, rfl, _, ⟨_, _, rfl, rfl, rfl⟩, _, (Gh.le_trans (Gh.le_trans hG8 hG40) hG75), hI77, rfl⟩
      · replace H := ite_no h79 H
        refine wpc_false (bool_no h79) ?_
        refine wpc_skip ?_
        refine hK70 _ _ _ ?_
        refine wpc_seq_k fun K82 hK83 => ?_
        refine wpc_seq_k fun K84 hK85 => ?_
        refine wpc_region ?_
        refine q_mv (v := Value.bool v38) rfl ?_
        refine q_not rfl ?_
        refine q_mv (v := Value.bool (!v38)) rfl ?_
        obtain ⟨v86, hC, H⟩ := bind_some H
        refine wpq_split 3 (K := fun e r ds w => e = .normal ∧ ds = [] ∧ ∃ (G87 : Gh), G74 ≤ G87 ∧ Has [(0, Value.string a1), (3, Value.bool y11), (45, Value.bool v86)] r ∧ Hp G87 (L) w ∧ True) ?_ ?_
        · replace H := hC
          by_cases h92 : (!v38) = true
          · replace H := ite_yes h92 H
            refine wpq_no (guard_no rfl rfl rfl (bval_yes h92) rfl) ?_
            refine wpq_no (guard_no rfl rfl rfl (bval_yes h92) rfl) ?_
            refine q_pick true (v := Value.bool true) (bval_yes h92) rfl ?_
            refine wpq_nil ?_
            cases H
            exact ⟨rfl, rfl, _, (Gh.le_refl _), ⟨rfl, rfl, rfl, trivial⟩, hI77, trivial⟩
          · replace H := ite_no h92 H
            refine q_mv (v := Value.string a1) rfl ?_ (hw := guard_yes rfl rfl rfl (bval_no h92))
            obtain ⟨y98, hy93, H⟩ := bind_some H
            refine q_cv (vs := [Value.string a1, Value.string (⟨#[126]⟩ : ByteArray)]) bo20 rfl rfl (strings_HasPrefix_spec hI77 hy93) ?_ (hw := guard_yes rfl rfl rfl (bval_no h92))
            rintro _ wd96 ⟨G94, hG95, hI97, rfl⟩
            refine ⟨_, rfl, ?_⟩
            refine q_pick false (v := Value.bool y98) (bval_no h92) rfl ?_
            refine wpq_nil ?_
            cases H
            exact ⟨rfl, rfl, _, hG95, ⟨rfl, rfl, rfl, trivial⟩, hI97, trivial⟩
        · clear hC
          rintro e r ds wd89 ⟨rfl, rfl, G87, hG88, hHas, hI90, _⟩
          rw [hHas.eq]; clear hHas
          refine q_mv (v := Value.bool v86) rfl ?_
          obtain ⟨v99, hC, H⟩ := bind_some H
          refine wpq_split 3 (K := fun e r ds w => e = .normal ∧ ds = [] ∧ ∃ (G100 : Gh), G87 ≤ G100 ∧ Has [(0, Value.string a1), (3, Value.bool y11), (49, Value.bool v99)] r ∧ Hp G100 (L) w ∧ True) ?_ ?_
          · replace H := hC
            by_cases h105 : v86 = true
            · replace H := ite_yes h105 H
              refine wpq_no (guard_no rfl rfl rfl (bval_yes h105) rfl) ?_
              refine wpq_no (guard_no rfl rfl rfl (bval_yes h105) rfl) ?_
              refine q_pick true (v := Value.bool true) (bval_yes h105) rfl ?_
              refine wpq_nil ?_
              cases H
              exact ⟨rfl, rfl, _, (Gh.le_refl _), ⟨rfl, rfl, rfl, trivial⟩, hI90, trivial⟩
            · replace H := ite_no h105 H
              refine q_mv (v := Value.string a1) rfl ?_ (hw := guard_yes rfl rfl rfl (bval_no h105))
              obtain ⟨y111, hy106, H⟩ := bind_some H
              refine q_cv (vs := [Value.string a1, Value.string (⟨#[126]⟩ : ByteArray)]) bo21 rfl rfl (strings_HasSuffix_spec hI90 hy106) ?_ (hw := guard_yes rfl rfl rfl (bval_no h105))
              rintro _ wd109 ⟨G107, hG108, hI110, rfl⟩
              refine ⟨_, rfl, ?_⟩
              refine q_pick false (v := Value.bool y111) (bval_no h105) rfl ?_
              refine wpq_nil ?_
              cases H
              exact ⟨rfl, rfl, _, hG108, ⟨rfl, rfl, rfl, trivial⟩, hI110, trivial⟩
          · clear hC
            rintro e r ds wd102 ⟨rfl, rfl, G100, hG101, hHas, hI103, _⟩
            rw [hHas.eq]; clear hHas
            refine wpq_nil ?_
            refine hK85 _ _ _ ?_
            by_cases h112 : v99 = true
            · replace H := ite_yes h112 H
              refine wpc_true (bval_yes h112) ?_
              refine wpc_seq_k fun K113 hK114 => ?_
              refine wpc_region ?_
              refine q_mv (v := Value.bool y11) rfl ?_
              refine q_as (v := Value.bool y11) rfl ?_
              refine wpq_nil ?_
              refine hK114 _ _ _ ?_
              refine wpc_ret ?_
              cases H
              exact ⟨.inr rfl, rfl, _, ⟨_, _, rfl, rfl, rfl⟩, _, (Gh.le_trans (Gh.le_trans (Gh.le_trans (Gh.le_trans hG8 hG40) hG75) hG88) hG101), hI103, rfl⟩
            · replace H := ite_no h112 H
              refine wpc_false (bval_no h112) ?_
              refine wpc_skip ?_
              refine hK83 _ _ _ ?_
              refine wpc_seq_k fun K115 hK116 => ?_
              refine wpc_region ?_
              refine q_mv (v := Value.string a1) rfl ?_
              obtain ⟨⟨y122, y123⟩, hy117, H⟩ := bind_some H
              refine q_cv (vs := [Value.string a1]) bo10 rfl rfl (text_Shown_spec hI103 (hgl.mono (Gh.le_trans (Gh.le_trans (Gh.le_trans (Gh.le_trans hG8 hG40) hG75) hG88) hG101)) hy117) ?_
              rintro _ wd120 ⟨G118, hG119, hI121, rfl⟩
              refine ⟨_, rfl, ?_⟩
              refine q_mv (v := Value.tuple [Value.string y122, Value.int .i64 y123].toArray) rfl ?_
              refine q_ex (v := Value.string y122) rfl rfl ?_
              refine q_ex (v := Value.int .i64 y123) rfl rfl ?_
              refine q_as (v := Value.string y122) rfl ?_
              refine q_as (v := Value.int .i64 y123) rfl ?_
              refine wpq_nil ?_
              refine hK116 _ _ _ ?_
              refine wpc_seq_k fun K124 hK125 => ?_
              refine wpc_region ?_
              refine q_mv (v := Value.string y122) rfl ?_
              obtain ⟨⟨y131, y132⟩, hy126, H⟩ := bind_some H
              refine q_cv (vs := [Value.string y122]) bo18 rfl rfl (text_Trim_spec hI121 hy126) ?_
              rintro _ wd129 ⟨G127, hG128, hI130, rfl⟩
              refine ⟨_, rfl, ?_⟩
              refine q_mv (v := Value.tuple [Value.string y131, Value.int .i64 y132].toArray) rfl ?_
              refine q_ex (v := Value.string y131) rfl rfl ?_
              refine q_ex (v := Value.int .i64 y132) rfl rfl ?_
              refine q_as (v := Value.string y131) rfl ?_
              refine q_as (v := Value.int .i64 y132) rfl ?_
              refine wpq_nil ?_
              refine hK125 _ _ _ ?_
              refine wpc_seq_k fun K133 hK134 => ?_
              refine wpc_region ?_
              refine q_mv (v := Value.string a1) rfl ?_
              obtain ⟨⟨y140, y141⟩, hy135, H⟩ := bind_some H
              refine q_cv (vs := [Value.string a1]) bo18 rfl rfl (text_Trim_spec hI130 hy135) ?_
              rintro _ wd138 ⟨G136, hG137, hI139, rfl⟩
              refine ⟨_, rfl, ?_⟩
              refine q_mv (v := Value.tuple [Value.string y140, Value.int .i64 y141].toArray) rfl ?_
              refine q_ex (v := Value.string y140) rfl rfl ?_
              refine q_ex (v := Value.int .i64 y141) rfl rfl ?_
              refine q_as (v := Value.string y140) rfl ?_
              refine q_as (v := Value.int .i64 y141) rfl ?_
              refine wpq_nil ?_
              refine hK134 _ _ _ ?_
              refine wpc_seq_k fun K142 hK143 => ?_
              refine wpc_region ?_
              refine q_mv (v := Value.string y140) rfl ?_
              obtain ⟨⟨y149, y150⟩, hy144, H⟩ := bind_some H
              refine q_cv (vs := [Value.string y140]) bo10 rfl rfl (text_Shown_spec hI139 (hgl.mono (Gh.le_trans (Gh.le_trans (Gh.le_trans (Gh.le_trans (Gh.le_trans (Gh.le_trans (Gh.le_trans hG8 hG40) hG75) hG88) hG101) hG119) hG128) hG137)) hy144) ?_
              rintro _ wd147 ⟨G145, hG146, hI148, rfl⟩
              refine ⟨_, rfl, ?_⟩
              refine q_mv (v := Value.tuple [Value.string y149, Value.int .i64 y150].toArray) rfl ?_
              refine q_ex (v := Value.string y149) rfl rfl ?_
              refine q_ex (v := Value.int .i64 y150) rfl rfl ?_
              refine q_as (v := Value.string y149) rfl ?_
              refine q_as (v := Value.int .i64 y150) rfl ?_
              refine wpq_nil ?_
              refine hK143 _ _ _ ?_
              refine wpc_seq_k fun K151 hK152 => ?_
              refine wpc_seq_k fun K153 hK154 => ?_
              refine wpc_region ?_
              refine q_mv (v := Value.int .i64 y123) rfl ?_
              refine q_neq rfl rfl ?_
              refine q_mv (v := Value.bool (decide (¬ y123 = 0))) rfl ?_
              obtain ⟨v155, hC, H⟩ := bind_some H
              refine wpq_split 3 (K := fun e r ds w => e = .normal ∧ ds = [] ∧ ∃ (G156 : Gh), G145 ≤ G156 ∧ Has [(3, Value.bool y11), (8, Value.string y131), (10, Value.string y140), (11, Value.int .i64 y141), (12, Value.string y149), (13, Value.int .i64 y150), (76, Value.bool v155)] r ∧ Hp G156 (L) w ∧ True) ?_ ?_
              · replace H := hC
                by_cases h161 : ¬ y123 = 0
                · replace H := ite_yes h161 H
                  refine wpq_no (guard_no rfl rfl rfl (bool_yes h161) rfl) ?_
                  refine wpq_no (guard_no rfl rfl rfl (bool_yes h161) rfl) ?_
                  refine q_pick true (v := Value.bool true) (bool_yes h161) rfl ?_
                  refine wpq_nil ?_
                  cases H
                  exact ⟨rfl, rfl, _, (Gh.le_refl _), ⟨rfl, rfl, rfl, rfl, rfl, rfl, rfl, trivial⟩, hI148, trivial⟩
                · replace H := ite_no h161 H
                  refine q_mv (v := Value.int .i64 y132) rfl ?_ (hw := guard_yes rfl rfl rfl (bool_no h161))
                  refine q_neq rfl rfl ?_ (hw := guard_yes rfl rfl rfl (bool_no h161))
                  refine q_pick false (v := Value.bool (decide (¬ y132 = 0))) (bool_no h161) rfl ?_
                  refine wpq_nil ?_
                  cases H
                  exact ⟨rfl, rfl, _, (Gh.le_refl _), ⟨rfl, rfl, rfl, rfl, rfl, rfl, rfl, trivial⟩, hI148, trivial⟩
              · clear hC
                rintro e r ds wd158 ⟨rfl, rfl, G156, hG157, hHas, hI159, _⟩
                rw [hHas.eq]; clear hHas
                refine q_mv (v := Value.bool v155) rfl ?_
                obtain ⟨v162, hC, H⟩ := bind_some H
                refine wpq_split 3 (K := fun e r ds w => e = .normal ∧ ds = [] ∧ ∃ (G163 : Gh), G156 ≤ G163 ∧ Has [(3, Value.bool y11), (8, Value.string y131), (10, Value.string y140), (12, Value.string y149), (13, Value.int .i64 y150), (80, Value.bool v162)] r ∧ Hp G163 (L) w ∧ True) ?_ ?_
                · replace H := hC
                  by_cases h168 : v155 = true
                  · replace H := ite_yes h168 H
                    refine wpq_no (guard_no rfl rfl rfl (bval_yes h168) rfl) ?_
                    refine wpq_no (guard_no rfl rfl rfl (bval_yes h168) rfl) ?_
                    refine q_pick true (v := Value.bool true) (bval_yes h168) rfl ?_
                    refine wpq_nil ?_
                    cases H
                    exact ⟨rfl, rfl, _, (Gh.le_refl _), ⟨rfl, rfl, rfl, rfl, rfl, rfl, trivial⟩, hI159, trivial⟩
                  · replace H := ite_no h168 H
                    refine q_mv (v := Value.int .i64 y141) rfl ?_ (hw := guard_yes rfl rfl rfl (bval_no h168))
                    refine q_neq rfl rfl ?_ (hw := guard_yes rfl rfl rfl (bval_no h168))
                    refine q_pick false (v := Value.bool (decide (¬ y141 = 0))) (bval_no h168) rfl ?_
                    refine wpq_nil ?_
                    cases H
                    exact ⟨rfl, rfl, _, (Gh.le_refl _), ⟨rfl, rfl, rfl, rfl, rfl, rfl, trivial⟩, hI159, trivial⟩
                · clear hC
                  rintro e r ds wd165 ⟨rfl, rfl, G163, hG164, hHas, hI166, _⟩
                  rw [hHas.eq]; clear hHas
                  refine q_mv (v := Value.bool v162) rfl ?_
                  obtain ⟨v169, hC, H⟩ := bind_some H
                  refine wpq_split 3 (K := fun e r ds w => e = .normal ∧ ds = [] ∧ ∃ (G170 : Gh), G163 ≤ G170 ∧ Has [(3, Value.bool y11), (8, Value.string y131), (10, Value.string y140), (12, Value.string y149), (84, Value.bool v169)] r ∧ Hp G170 (L) w ∧ True) ?_ ?_
                  · replace H := hC
                    by_cases h175 : v162 = true
                    · replace H := ite_yes h175 H
                      refine wpq_no (guard_no rfl rfl rfl (bval_yes h175) rfl) ?_
                      refine wpq_no (guard_no rfl rfl rfl (bval_yes h175) rfl) ?_
                      refine q_pick true (v := Value.bool true) (bval_yes h175) rfl ?_
                      refine wpq_nil ?_
                      cases H
                      exact ⟨rfl, rfl, _, (Gh.le_refl _), ⟨rfl, rfl, rfl, rfl, rfl, trivial⟩, hI166, trivial⟩
                    · replace H := ite_no h175 H
                      refine q_mv (v := Value.int .i64 y150) rfl ?_ (hw := guard_yes rfl rfl rfl (bval_no h175))
                      refine q_neq rfl rfl ?_ (hw := guard_yes rfl rfl rfl (bval_no h175))
                      refine q_pick false (v := Value.bool (decide (¬ y150 = 0))) (bval_no h175) rfl ?_
                      refine wpq_nil ?_
                      cases H
                      exact ⟨rfl, rfl, _, (Gh.le_refl _), ⟨rfl, rfl, rfl, rfl, rfl, trivial⟩, hI166, trivial⟩
                  · clear hC
                    rintro e r ds wd172 ⟨rfl, rfl, G170, hG171, hHas, hI173, _⟩
                    rw [hHas.eq]; clear hHas
                    refine wpq_nil ?_
                    refine hK154 _ _ _ ?_
                    by_cases h176 : v169 = true
                    · replace H := ite_yes h176 H
                      refine wpc_true (bval_yes h176) ?_
                      refine wpc_seq_k fun K177 hK178 => ?_
                      refine wpc_region ?_
                      refine q_as (v := Value.bool false) rfl ?_
                      refine wpq_nil ?_
                      refine hK178 _ _ _ ?_
                      refine wpc_ret ?_
                      cases H
                      exact ⟨.inr rfl, rfl, _, ⟨_, _, rfl, rfl, rfl⟩, _, (Gh.le_trans (Gh.le_trans (Gh.le_trans (Gh.le_trans (Gh.le_trans (Gh.le_trans (Gh.le_trans (Gh.le_trans (Gh.le_trans (Gh.le_trans (Gh.le_trans hG8 hG40) hG75) hG88) hG101) hG119) hG128) hG137) hG146) hG157) hG164) hG171), hI173, rfl⟩
                    · replace H := ite_no h176 H
                      refine wpc_false (bval_no h176) ?_
                      refine wpc_skip ?_
                      refine hK152 _ _ _ ?_
                      refine wpc_seq_k fun K179 hK180 => ?_
                      refine wpc_region ?_
                      refine q_mv (v := Value.bool y11) rfl ?_
                      refine q_mv (v := Value.bool y11) rfl ?_
                      obtain ⟨v181, hC, H⟩ := bind_some H
                      refine wpq_split 12 (K := fun e r ds w => e = .normal ∧ ds = [] ∧ ∃ (G182 : Gh), G170 ≤ G182 ∧ Has [(98, Value.bool v181)] r ∧ Hp G182 (L) w ∧ True) ?_ ?_
                      · replace H := hC
                        by_cases h187 : y11 = true
                        · replace H := ite_yes h187 H
                          refine q_mv (v := Value.string y131) rfl ?_ (hw := guard_yes rfl rfl rfl (bval_yes h187))
                          refine q_mv (v := Value.string y149) rfl ?_ (hw := guard_yes rfl rfl rfl (bval_yes h187))
                          refine q_str_eql rfl rfl ?_ (hw := guard_yes rfl rfl rfl (bval_yes h187))
                          refine q_mv (v := Value.bool (decide (y131 = y149))) rfl ?_ (hw := guard_yes rfl rfl rfl (bval_yes h187))
                          obtain ⟨v188, hC, H⟩ := bind_some H
                          refine wpq_split 3 (K := fun e r ds w => e = .normal ∧ ds = [] ∧ ∃ (G189 : Gh), G170 ≤ G189 ∧ Has [(10, Value.string y140), (86, Value.bool y11), (93, Value.bool v188)] r ∧ Hp G189 (L) w ∧ True) ?_ ?_
                          · replace H := hC
                            by_cases h194 : y131 = y149
                            · replace H := ite_yes h194 H
                              refine wpq_no (guard_no rfl rfl rfl (bool_yes h194) rfl) ?_
                              refine wpq_no (guard_no rfl rfl rfl (bool_yes h194) rfl) ?_
                              refine q_pick true (v := Value.bool true) (bool_yes h194) rfl ?_ (hw := guard_yes rfl rfl rfl (bval_yes h187))
                              refine wpq_nil ?_
                              cases H
                              exact ⟨rfl, rfl, _, (Gh.le_refl _), ⟨rfl, rfl, rfl, trivial⟩, hI173, trivial⟩
                            · replace H := ite_no h194 H
                              refine q_mv (v := Value.string y140) rfl ?_ (hw := guard_yes rfl rfl rfl (bool_no h194))
                              obtain ⟨y200, hy195, H⟩ := bind_some H
                              refine q_cv (vs := [Value.string y140, Value.string (⟨#[126]⟩ : ByteArray)]) bo20 rfl rfl (strings_HasPrefix_spec hI173 hy195) ?_ (hw := guard_yes rfl rfl rfl (bool_no h194))
                              rintro _ wd198 ⟨G196, hG197, hI199, rfl⟩
                              refine ⟨_, rfl, ?_⟩
                              refine q_pick false (v := Value.bool y200) (bool_no h194) rfl ?_ (hw := guard_yes rfl rfl rfl (bval_yes h187))
                              refine wpq_nil ?_
                              cases H
                              exact ⟨rfl, rfl, _, hG197, ⟨rfl, rfl, rfl, trivial⟩, hI199, trivial⟩
                          · clear hC
                            rintro e r ds wd191 ⟨rfl, rfl, G189, hG190, hHas, hI192, _⟩
                            rw [hHas.eq]; clear hHas
                            refine q_mv (v := Value.bool v188) rfl ?_ (hw := guard_yes rfl rfl rfl (bval_yes h187))
                            obtain ⟨v201, hC, H⟩ := bind_some H
                            refine wpq_split 3 (K := fun e r ds w => e = .normal ∧ ds = [] ∧ ∃ (G202 : Gh), G189 ≤ G202 ∧ Has [(86, Value.bool y11), (97, Value.bool v201)] r ∧ Hp G202 (L) w ∧ True) ?_ ?_
                            · replace H := hC
                              by_cases h207 : v188 = true
                              · replace H := ite_yes h207 H
                                refine wpq_no (guard_no rfl rfl rfl (bval_yes h207) rfl) ?_
                                refine wpq_no (guard_no rfl rfl rfl (bval_yes h207) rfl) ?_
                                refine q_pick true (v := Value.bool true) (bval_yes h207) rfl ?_ (hw := guard_yes rfl rfl rfl (bval_yes h187))
                                refine wpq_nil ?_
                                cases H
                                exact ⟨rfl, rfl, _, (Gh.le_refl _), ⟨rfl, rfl, trivial⟩, hI192, trivial⟩
                              · replace H := ite_no h207 H
                                refine q_mv (v := Value.string y140) rfl ?_ (hw := guard_yes rfl rfl rfl (bval_no h207))
                                obtain ⟨y213, hy208, H⟩ := bind_some H
                                refine q_cv (vs := [Value.string y140, Value.string (⟨#[126]⟩ : ByteArray)]) bo21 rfl rfl (strings_HasSuffix_spec hI192 hy208) ?_ (hw := guard_yes rfl rfl rfl (bval_no h207))
                                rintro _ wd211 ⟨G209, hG210, hI212, rfl⟩
                                refine ⟨_, rfl, ?_⟩
                                refine q_pick false (v := Value.bool y213) (bval_no h207) rfl ?_ (hw := guard_yes rfl rfl rfl (bval_yes h187))
                                refine wpq_nil ?_
                                cases H
                                exact ⟨rfl, rfl, _, hG210, ⟨rfl, rfl, trivial⟩, hI212, trivial⟩
                            · clear hC
                              rintro e r ds wd204 ⟨rfl, rfl, G202, hG203, hHas, hI205, _⟩
                              rw [hHas.eq]; clear hHas
                              refine q_pick true (v := Value.bool v201) (bval_yes h187) rfl ?_
                              refine wpq_nil ?_
                              cases H
                              exact ⟨rfl, rfl, _, (Gh.le_trans hG190 hG203), ⟨rfl, trivial⟩, hI205, trivial⟩
                        · replace H := ite_no h187 H
                          refine wpq_no (guard_no rfl rfl rfl (bval_no h187) rfl) ?_
                          refine wpq_no (guard_no rfl rfl rfl (bval_no h187) rfl) ?_
                          refine wpq_no (guard_no rfl rfl rfl (bval_no h187) rfl) ?_
                          refine wpq_no (guard_no rfl rfl rfl (bval_no h187) rfl) ?_
                          refine wpq_no (guard_no rfl rfl rfl rfl rfl) ?_
                          refine wpq_no (guard_no rfl rfl rfl rfl rfl) ?_
                          refine wpq_no (guard_no rfl rfl rfl (bval_no h187) rfl) ?_
                          refine wpq_no (guard_no rfl rfl rfl (bval_no h187) rfl) ?_
                          refine wpq_no (guard_no rfl rfl rfl rfl rfl) ?_
                          refine wpq_no (guard_no rfl rfl rfl rfl rfl) ?_
                          refine wpq_no (guard_no rfl rfl rfl (bval_no h187) rfl) ?_
                          refine q_pick false (v := Value.bool false) (bval_no h187) rfl ?_
                          refine wpq_nil ?_
                          cases H
                          exact ⟨rfl, rfl, _, (Gh.le_refl _), ⟨rfl, trivial⟩, hI173, trivial⟩
                      · clear hC
                        rintro e r ds wd184 ⟨rfl, rfl, G182, hG183, hHas, hI185, _⟩
                        rw [hHas.eq]; clear hHas
                        refine q_as (v := Value.bool v181) rfl ?_
                        refine wpq_nil ?_
                        refine hK180 _ _ _ ?_
                        refine wpc_ret ?_
                        cases H
                        exact ⟨.inr rfl, rfl, _, ⟨_, _, rfl, rfl, rfl⟩, _, (Gh.le_trans (Gh.le_trans (Gh.le_trans (Gh.le_trans (Gh.le_trans (Gh.le_trans (Gh.le_trans (Gh.le_trans (Gh.le_trans (Gh.le_trans (Gh.le_trans (Gh.le_trans hG8 hG40) hG75) hG88) hG101) hG119) hG128) hG137) hG146) hG157) hG164) hG171) hG183), hI185, rfl⟩
set_option maxHeartbeats 1000000 in
theorem strings_Count_spec {a0 : ByteArray} {a1 : ByteArray} {r0 : Int} {G : Gh} {L : List Itm} {w : World} (hI : Hp G L w) (H : strings_Count a0 a1 = some r0) :
    Calls Tryd.prog 22 [Value.string a0, Value.string a1].toArray w fun e w' => ∃ (G' : Gh), G ≤ G' ∧ Hp G' L w' ∧ e = .returned (Value.int .i64 r0) := by
  unfold strings_Count at H
  split at H
  · rename_i b hb
    cases H
    rw [one_byte hb]
    exact of_same hI (Any.strings_Count_one Tryd.l138 a0 b w)
  · cases H
set_option maxHeartbeats 1000000 in
theorem formelaw06_TextWords_spec {a1 : ByteArray} {r1109 : Bool} {G : Gh} {L : List Itm} {w : World} (hI : Hp G (L) w) (hgl : Gl G) (H : formelaw06_TextWords a1 = some r1109) :
    Calls Tryd.prog 6 [Value.string a1].toArray w fun e w' => ∃ (G' : Gh), G ≤ G' ∧ Hp G' (L) w' ∧ e = .returned (Value.bool r1109) := by
  refine calls_intro (N := 70) Tryd.func6 rfl rfl (Nat.le_of_ble_eq_true rfl) ?_
  unfold formelaw06_TextWords at H
  refine wpc_seq_k fun K2 hK3 => ?_
  refine wpc_region ?_
  refine q_as (v := Value.bool false) rfl ?_
  refine wpq_nil ?_
  refine hK3 _ _ _ ?_
  refine wpc_seq_k fun K4 hK5 => ?_
  refine wpc_region ?_
  obtain ⟨y11, hy6, H⟩ := bind_some H
  refine q_cv (vs := []) bo9 rfl rfl (formelaw06_head_spec hI (hgl.mono (Gh.le_refl _)) hy6) ?_
  rintro _ wd9 ⟨G7, hG8, hI10, rfl⟩
  refine ⟨_, rfl, ?_⟩
  refine q_as (v := Value.bool y11) rfl ?_
  refine wpq_nil ?_
  refine hK5 _ _ _ ?_
  refine wpc_seq_k fun K12 hK13 => ?_
  refine wpc_seq_k fun K14 hK15 => ?_
  refine wpc_region ?_
  refine q_mv (v := Value.string a1) rfl ?_
  obtain ⟨y21, hy16, H⟩ := bind_some H
  refine q_cv (vs := [Value.string a1]) bo13 rfl rfl (formeref06_Valid_spec hI10 hy16) ?_
  rintro _ wd19 ⟨G17, hG18, hI20, rfl⟩
  refine ⟨_, rfl, ?_⟩
  refine q_not rfl ?_
  refine wpq_nil ?_
  refine hK15 _ _ _ ?_
  by_cases h22 : (!y21) = true
  · replace H := ite_yes h22 H
    refine wpc_true (bval_yes h22) ?_
    refine wpc_seq_k fun K23 hK24 => ?_
    refine wpc_region ?_
    refine q_mv (v := Value.bool y11) rfl ?_
    refine q_as (v := Value.bool y11) rfl ?_
    refine wpq_nil ?_
    refine hK24 _ _ _ ?_
    refine wpc_ret ?_
    cases H
    exact ⟨.inr rfl, rfl, _, ⟨_, _, rfl, rfl, rfl⟩, _, (Gh.le_trans hG8 hG18), hI20, rfl⟩
  · replace H := ite_no h22 H
    refine wpc_false (bval_no h22) ?_
    refine wpc_skip ?_
    refine hK13 _ _ _ ?_
    refine wpc_seq_k fun K25 hK26 => ?_
    refine wpc_region ?_
    refine q_mv (v := Value.string a1) rfl ?_
    obtain ⟨⟨y32, y33⟩, hy27, H⟩ := bind_some H
    refine q_cv (vs := [Value.string a1]) bo10 rfl rfl (text_Shown_spec hI20 (hgl.mono (Gh.le_trans hG8 hG18)) hy27) ?_
    rintro _ wd30 ⟨G28, hG29, hI31, rfl⟩
    refine ⟨_, rfl, ?_⟩
    refine q_mv (v := Value.tuple [Value.string y32, Value.int .i64 y33].toArray) rfl ?_
    refine q_ex (v := Value.string y32) rfl rfl ?_
    refine q_ex (v := Value.int .i64 y33) rfl rfl ?_
    refine q_as (v := Value.string y32) rfl ?_
    refine q_as (v := Value.int .i64 y33) rfl ?_
    refine wpq_nil ?_
    refine hK26 _ _ _ ?_
    refine wpc_seq_k fun K34 hK35 => ?_
    refine wpc_region ?_
    refine q_mv (v := Value.string a1) rfl ?_
    obtain ⟨⟨y41, y42⟩, hy36, H⟩ := bind_some H
    refine q_cv (vs := [Value.string a1]) bo16 rfl rfl (text_Words_spec hI31 hy36) ?_
    rintro _ wd39 ⟨G37, hG38, hI40, rfl⟩
    refine ⟨_, rfl, ?_⟩
    refine q_mv (v := Value.tuple [Value.int .i64 y41, Value.int .i64 y42].toArray) rfl ?_
    refine q_ex (v := Value.int .i64 y41) rfl rfl ?_
    refine q_ex (v := Value.int .i64 y42) rfl rfl ?_
    refine q_as (v := Value.int .i64 y41) rfl ?_
    refine q_as (v := Value.int .i64 y42) rfl ?_
    refine wpq_nil ?_
    refine hK35 _ _ _ ?_
    refine wpc_seq_k fun K43 hK44 => ?_
    refine wpc_region ?_
    refine q_mv (v := Value.string y32) rfl ?_
    obtain ⟨⟨y50, y51⟩, hy45, H⟩ := bind_some H
    refine q_cv (vs := [Value.string y32]) bo16 rfl rfl (text_Words_spec hI40 hy45) ?_
    rintro _ wd48 ⟨G46, hG47, hI49, rfl⟩
    refine ⟨_, rfl, ?_⟩
    refine q_mv (v := Value.tuple [Value.int .i64 y50, Value.int .i64 y51].toArray) rfl ?_
    refine q_ex (v := Value.int .i64 y50) rfl rfl ?_
    refine q_ex (v := Value.int .i64 y51) rfl rfl ?_
    refine q_as (v := Value.int .i64 y50) rfl ?_
    refine q_as (v := Value.int .i64 y51) rfl ?_
    refine wpq_nil ?_
    refine hK44 _ _ _ ?_
    refine wpc_seq_k fun K52 hK53 => ?_
    refine wpc_region ?_
    refine q_mv (v := Value.bool y11) rfl ?_
    refine q_mv (v := Value.bool y11) rfl ?_
    obtain ⟨v54, hC, H⟩ := bind_some H
    refine wpq_split 3 (K := fun e r ds w => e = .normal ∧ ds = [] ∧ ∃ (G55 : Gh), G46 ≤ G55 ∧ Has [(4, Value.string y32), (6, Value.int .i64 y41), (7, Value.int .i64 y42), (8, Value.int .i64 y50), (9, Value.int .i64 y51), (34, Value.bool v54)] r ∧ Hp G55 (L) w ∧ True) ?_ ?_
    · replace H := hC
      by_cases h60 : y11 = true
      · replace H := ite_yes h60 H
        refine q_mv (v := Value.int .i64 y33) rfl ?_ (hw := guard_yes rfl rfl rfl (bval_yes h60))
        refine q_eql rfl rfl ?_ (hw := guard_yes rfl rfl rfl (bval_yes h60))
        refine q_pick true (v := Value.bool (decide (y33 = 0))) (bval_yes h60) rfl ?_
        refine wpq_nil ?_
        cases H
        exact ⟨rfl, rfl, _, (Gh.le_refl _), ⟨rfl, rfl, rfl, rfl, rfl, rfl, trivial⟩, hI49, trivial⟩
      · replace H := ite_no h60 H
        refine wpq_no (guard_no rfl rfl rfl (bval_no h60) rfl) ?_
        refine wpq_no (guard_no rfl rfl rfl (bval_no h60) rfl) ?_
        refine q_pick false (v := Value.bool false) (bval_no h60) rfl ?_
        refine wpq_nil ?_
        cases H
        exact ⟨rfl, rfl, _, (Gh.le_refl _), ⟨rfl, rfl, rfl, rfl, rfl, rfl, trivial⟩, hI49, trivial⟩
    · clear hC
      rintro e r ds wd57 ⟨rfl, rfl, G55, hG56, hHas, hI58, _⟩
      rw [hHas.eq]; clear hHas
      refine q_mv (v := Value.bool v54) rfl ?_
      obtain ⟨v61, hC, H⟩ := bind_some H
      refine wpq_split 3 (K := fun e r ds w => e = .normal ∧ ds = [] ∧ ∃ (G62 : Gh), G55 ≤ G62 ∧ Has [(4, Value.string y32), (6, Value.int .i64 y41), (8, Value.int .i64 y50), (9, Value.int .i64 y51), (38, Value.bool v61)] r ∧ Hp G62 (L) w ∧ True) ?_ ?_
      · replace H := hC
        by_cases h67 : v54 = true
        · replace H := ite_yes h67 H
          refine q_mv (v := Value.int .i64 y42) rfl ?_ (hw := guard_yes rfl rfl rfl (bval_yes h67))
          refine q_eql rfl rfl ?_ (hw := guard_yes rfl rfl rfl (bval_yes h67))
          refine q_pick true (v := Value.bool (decide (y42 = 0))) (bval_yes h67) rfl ?_
          refine wpq_nil ?_
          cases H
          exact ⟨rfl, rfl, _, (Gh.le_refl _), ⟨rfl, rfl, rfl, rfl, rfl, trivial⟩, hI58, trivial⟩
        · replace H := ite_no h67 H
          refine wpq_no (guard_no rfl rfl rfl (bval_no h67) rfl) ?_
          refine wpq_no (guard_no rfl rfl rfl (bval_no h67) rfl) ?_
          refine q_pick false (v := Value.bool false) (bval_no h67) rfl ?_
          refine wpq_nil ?_
          cases H
          exact ⟨rfl, rfl, _, (Gh.le_refl _), ⟨rfl, rfl, rfl, rfl, rfl, trivial⟩, hI58, trivial⟩
      · clear hC
        rintro e r ds wd64 ⟨rfl, rfl, G62, hG63, hHas, hI65, _⟩
        rw [hHas.eq]; clear hHas
        refine q_mv (v := Value.bool v61) rfl ?_
        obtain ⟨v68, hC, H⟩ := bind_some H
        refine wpq_split 3 (K := fun e r ds w => e = .normal ∧ ds = [] ∧ ∃ (G69 : Gh), G62 ≤ G69 ∧ Has [(4, Value.string y32), (6, Value.int .i64 y41), (8, Value.int .i64 y50), (42, Value.bool v68)] r ∧ Hp G69 (L) w ∧ True) ?_ ?_
        · replace H := hC
          by_cases h74 : v61 = true
          · replace H := ite_yes h74 H
            refine q_mv (v := Value.int .i64 y51) rfl ?_ (hw := guard_yes rfl rfl rfl (bval_yes h74))
            refine q_eql rfl rfl ?_ (hw := guard_yes rfl rfl rfl (bval_yes h74))
            refine q_pick true (v := Value.bool (decide (y51 = 0))) (bval_yes h74) rfl ?_
            refine wpq_nil ?_
            cases H
            exact ⟨rfl, rfl, _, (Gh.le_refl _), ⟨rfl, rfl, rfl, rfl, trivial⟩, hI65, trivial⟩
          · replace H := ite_no h74 H
            refine wpq_no (guard_no rfl rfl rfl (bval_no h74) rfl) ?_
            refine wpq_no (guard_no rfl rfl rfl (bval_no h74) rfl) ?_
            refine q_pick false (v := Value.bool false) (bval_no h74) rfl ?_
            refine wpq_nil ?_
            cases H
            exact ⟨rfl, rfl, _, (Gh.le_refl _), ⟨rfl, rfl, rfl, rfl, trivial⟩, hI65, trivial⟩
        · clear hC
          rintro e r ds wd71 ⟨rfl, rfl, G69, hG70, hHas, hI72, _⟩
          rw [hHas.eq]; clear hHas
          refine q_mv (v := Value.bool v68) rfl ?_
          obtain ⟨v75, hC, H⟩ := bind_some H
          refine wpq_split 4 (K := fun e r ds w => e = .normal ∧ ds = [] ∧ ∃ (G76 : Gh), G69 ≤ G76 ∧ Has [(4, Value.string y32), (6, Value.int .i64 y41), (47, Value.bool v75)] r ∧ Hp G76 (L) w ∧ True) ?_ ?_
          · replace H := hC
            by_cases h81 : v68 = true
            · replace H := ite_yes h81 H
              refine q_mv (v := Value.int .i64 y41) rfl ?_ (hw := guard_yes rfl rfl rfl (bval_yes h81))
              refine q_mv (v := Value.int .i64 y50) rfl ?_ (hw := guard_yes rfl rfl rfl (bval_yes h81))
              refine q_eql rfl rfl ?_ (hw := guard_yes rfl rfl rfl (bval_yes h81))
              refine q_pick true (v := Value.bool (decide (y41 = y50))) (bval_yes h81) rfl ?_
              refine wpq_nil ?_
              cases H
              exact ⟨rfl, rfl, _, (Gh.le_refl _), ⟨rfl, rfl, rfl, trivial⟩, hI72, trivial⟩
            · replace H := ite_no h81 H
              refine wpq_no (guard_no rfl rfl rfl (bval_no h81) rfl) ?_
              refine wpq_no (guard_no rfl rfl rfl (bval_no h81) rfl) ?_
              refine wpq_no (guard_no rfl rfl rfl (bval_no h81) rfl) ?_
              refine q_pick false (v := Value.bool false) (bval_no h81) rfl ?_
              refine wpq_nil ?_
              cases H
              exact ⟨rfl, rfl, _, (Gh.le_refl _), ⟨rfl, rfl, rfl, trivial⟩, hI72, trivial⟩
          · clear hC
            rintro e r ds wd78 ⟨rfl, rfl, G76, hG77, hHas, hI79, _⟩
            rw [hHas.eq]; clear hHas
            refine q_mv (v := Value.bool v75) rfl ?_
            obtain ⟨v82, hC, H⟩ := bind_some H
            refine wpq_split 9 (K := fun e r ds w => e = .normal ∧ ds = [] ∧ ∃ (G83 : Gh), G76 ≤ G83 ∧ Has [(4, Value.string y32), (6, Value.int .i64 y41), (57, Value.bool v82)] r ∧ Hp G83 (L) w ∧ True) ?_ ?_
            · replace H := hC
              by_cases h88 : v75 = true
              · replace H := ite_yes h88 H
                refine q_mv (v := Value.int .i64 y41) rfl ?_ (hw := guard_yes rfl rfl rfl (bval_yes h88))
                refine q_gtr rfl rfl ?_ (hw := guard_yes rfl rfl rfl (bval_yes h88))
                refine q_mv (v := Value.string y32) rfl ?_ (hw := guard_yes rfl rfl rfl (bval_yes h88))
                obtain ⟨y94, hy89, H⟩ := bind_some H
                refine q_cv (vs := [Value.string y32, Value.string (⟨#[32]⟩ : ByteArray)]) bo22 rfl rfl (strings_Count_spec hI79 hy89) ?_ (hw := guard_yes rfl rfl rfl (bval_yes h88))
                rintro _ wd92 ⟨G90, hG91, hI93, rfl⟩
                refine ⟨_, rfl, ?_⟩
                refine q_mv (v := Value.string y32) rfl ?_ (hw := guard_yes rfl rfl rfl (bval_yes h88))
                refine q_lens so9 rfl ?_ (hw := guard_yes rfl rfl rfl (bval_yes h88))
                refine q_lss rfl rfl ?_ (hw := guard_yes rfl rfl rfl (bval_yes h88))
                refine q_bool_eql rfl rfl so4 ?_ (hw := guard_yes rfl rfl rfl (bval_yes h88))
                refine q_pick true (v := Value.bool (decide ((decide (0 < y41)) = (decide (y94 < (y32.size : Int)))))) (bval_yes h88) rfl ?_
                refine wpq_nil ?_
                cases H
                exact ⟨rfl, rfl, _, hG91, ⟨rfl, rfl, rfl, trivial⟩, hI93, trivial⟩
              · replace H := ite_no h88 H
                refine wpq_no (guard_no rfl rfl rfl (bval_no h88) rfl) ?_
                refine wpq_no (guard_no rfl rfl rfl (bval_no h88) rfl) ?_
                refine wpq_no (guard_no rfl rfl rfl (bval_no h88) rfl) ?_
                refine wpq_no (guard_no rfl rfl rfl (bval_no h88) rfl) ?_
                refine wpq_no (guard_no rfl rfl rfl (bval_no h88) rfl) ?_
                refine wpq_no (guard_no rfl rfl rfl (bval_no h88) rfl) ?_
                refine wpq_no (guard_no rfl rfl rfl (bval_no h88) rfl) ?_
                refine wpq_no (guard_no rfl rfl rfl (bval_no h88) rfl) ?_
                refine q_pick false (v := Value.bool false) (bval_no h88) rfl ?_
                refine wpq_nil ?_
                cases H
                exact ⟨rfl, rfl, _, (Gh.le_refl _), ⟨rfl, rfl, rfl, trivial⟩, hI79, trivial⟩
            · clear hC
              rintro e r ds wd85 ⟨rfl, rfl, G83, hG84, hHas, hI86, _⟩
              rw [hHas.eq]; clear hHas
              refine q_mv (v := Value.bool v82) rfl ?_
              obtain ⟨v95, hC, H⟩ := bind_some H
              refine wpq_split 3 (K := fun e r ds w => e = .normal ∧ ds = [] ∧ ∃ (G96 : Gh), G83 ≤ G96 ∧ Has [(4, Value.string y32), (6, Value.int .i64 y41), (61, Value.bool v95)] r ∧ Hp G96 (L) w ∧ True) ?_ ?_
              · replace H := hC
                by_cases h101 : v82 = true
                · replace H := ite_yes h101 H
                  refine q_mv (v := Value.int .i64 y41) rfl ?_ (hw := guard_yes rfl rfl rfl (bval_yes h101))
                  refine q_geq rfl rfl ?_ (hw := guard_yes rfl rfl rfl (bval_yes h101))
                  refine q_pick true (v := Value.bool (decide (0 ≤ y41))) (bval_yes h101) rfl ?_
                  refine wpq_nil ?_
                  cases H
                  exact ⟨rfl, rfl, _, (Gh.le_refl _), ⟨rfl, rfl, rfl, trivial⟩, hI86, trivial⟩
                · replace H := ite_no h101 H
                  refine wpq_no (guard_no rfl rfl rfl (bval_no h101) rfl) ?_
                  refine wpq_no (guard_no rfl rfl rfl (bval_no h101) rfl) ?_
                  refine q_pick false (v := Value.bool false) (bval_no h101) rfl ?_
                  refine wpq_nil ?_
                  cases H
                  exact ⟨rfl, rfl, _, (Gh.le_refl _), ⟨rfl, rfl, rfl, trivial⟩, hI86, trivial⟩
              · clear hC
                rintro e r ds wd98 ⟨rfl, rfl, G96, hG97, hHas, hI99, _⟩
                rw [hHas.eq]; clear hHas
                refine q_mv (v := Value.bool v95) rfl ?_
                obtain ⟨v102, hC, H⟩ := bind_some H
                refine wpq_split 7 (K := fun e r ds w => e = .normal ∧ ds = [] ∧ ∃ (G103 : Gh), G96 ≤ G103 ∧ Has [(69, Value.bool v102)] r ∧ Hp G103 (L) w ∧ True) ?_ ?_
                · replace H := hC
                  by_cases h108 : v95 = true
                  · replace H := ite_yes h108 H
                    refine q_mv (v := Value.int .i64 y41) rfl ?_ (hw := guard_yes rfl rfl rfl (bval_yes h108))
                    refine q_mul rfl rfl ?_ (hw := guard_yes rfl rfl rfl (bval_yes h108))
                    refine q_mv (v := Value.string y32) rfl ?_ (hw := guard_yes rfl rfl rfl (bval_yes h108))
                    refine q_lens so9 rfl ?_ (hw := guard_yes rfl rfl rfl (bval_yes h108))
                    refine q_add rfl rfl ?_ (hw := guard_yes rfl rfl rfl (bval_yes h108))
                    refine q_leq rfl rfl ?_ (hw := guard_yes rfl rfl rfl (bval_yes h108))
                    refine q_pick true (v := Value.bool (decide ((w64 (2 * y41)) ≤ (w64 ((y32.size : Int) + 1))))) (bval_yes h108) rfl ?_
                    refine wpq_nil ?_
                    cases H
                    exact ⟨rfl, rfl, _, (Gh.le_refl _), ⟨rfl, trivial⟩, hI99, trivial⟩
                  · replace H := ite_no h108 H
                    refine wpq_no (guard_no rfl rfl rfl (bval_no h108) rfl) ?_
                    refine wpq_no (guard_no rfl rfl rfl (bval_no h108) rfl) ?_
                    refine wpq_no (guard_no rfl rfl rfl (bval_no h108) rfl) ?_
                    refine wpq_no (guard_no rfl rfl rfl (bval_no h108) rfl) ?_
                    refine wpq_no (guard_no rfl rfl rfl (bval_no h108) rfl) ?_
                    refine wpq_no (guard_no rfl rfl rfl (bval_no h108) rfl) ?_
                    refine q_pick false (v := Value.bool false) (bval_no h108) rfl ?_
                    refine wpq_nil ?_
                    cases H
                    exact ⟨rfl, rfl, _, (Gh.le_refl _), ⟨rfl, trivial⟩, hI99, trivial⟩
                · clear hC
                  rintro e r ds wd105 ⟨rfl, rfl, G103, hG104, hHas, hI106, _⟩
                  rw [hHas.eq]; clear hHas
                  refine q_as (v := Value.bool v102) rfl ?_
                  refine wpq_nil ?_
                  refine hK53 _ _ _ ?_
                  refine wpc_ret ?_
                  cases H
                  exact ⟨.inr rfl, rfl, _, ⟨_, _, rfl, rfl, rfl⟩, _, (Gh.le_trans (Gh.le_trans (Gh.le_trans (Gh.le_trans (Gh.le_trans (Gh.le_trans (Gh.le_trans (Gh.le_trans (Gh.le_trans (Gh.le_trans (Gh.le_trans hG8 hG18) hG29) hG38) hG47) hG56) hG63) hG70) hG77) hG84) hG97) hG104), hI106, rfl⟩
set_option maxHeartbeats 1000000 in
theorem strings_Contains_spec {a0 : ByteArray} {a1 : ByteArray} {r0 : Bool} {G : Gh} {L : List Itm} {w : World} (hI : Hp G L w) (H : strings_Contains a0 a1 = some r0) :
    Calls Tryd.prog 23 [Value.string a0, Value.string a1].toArray w fun e w' => ∃ (G' : Gh), G ≤ G' ∧ Hp G' L w' ∧ e = .returned (Value.bool r0) := by
  unfold strings_Contains at H
  split at H
  · rename_i b hb
    cases H
    rw [one_byte hb]
    exact of_same hI (Any.strings_Contains_one Tryd.l144 a0 b w)
  · cases H
set_option maxHeartbeats 1000000 in
theorem formelaw06_TextShown_spec {a1 : ByteArray} {r1105 : Bool} {G : Gh} {L : List Itm} {w : World} (hI : Hp G (L) w) (hgl : Gl G) (H : formelaw06_TextShown a1 = some r1105) :
    Calls Tryd.prog 7 [Value.string a1].toArray w fun e w' => ∃ (G' : Gh), G ≤ G' ∧ Hp G' (L) w' ∧ e = .returned (Value.bool r1105) := by
  refine calls_intro (N := 56) Tryd.func7 rfl rfl (Nat.le_of_ble_eq_true rfl) ?_
  unfold formelaw06_TextShown at H
  refine wpc_seq_k fun K2 hK3 => ?_
  refine wpc_region ?_
  refine q_as (v := Value.bool false) rfl ?_
  refine wpq_nil ?_
  refine hK3 _ _ _ ?_
  refine wpc_seq_k fun K4 hK5 => ?_
  refine wpc_region ?_
  obtain ⟨y11, hy6, H⟩ := bind_some H
  refine q_cv (vs := []) bo9 rfl rfl (formelaw06_head_spec hI (hgl.mono (Gh.le_refl _)) hy6) ?_
  rintro _ wd9 ⟨G7, hG8, hI10, rfl⟩
  refine ⟨_, rfl, ?_⟩
  refine q_as (v := Value.bool y11) rfl ?_
  refine wpq_nil ?_
  refine hK5 _ _ _ ?_
  refine wpc_seq_k fun K12 hK13 => ?_
  refine wpc_seq_k fun K14 hK15 => ?_
  refine wpc_region ?_
  refine q_mv (v := Value.string a1) rfl ?_
  obtain ⟨y21, hy16, H⟩ := bind_some H
  refine q_cv (vs := [Value.string a1]) bo13 rfl rfl (formeref06_Valid_spec hI10 hy16) ?_
  rintro _ wd19 ⟨G17, hG18, hI20, rfl⟩
  refine ⟨_, rfl, ?_⟩
  refine q_not rfl ?_
  refine wpq_nil ?_
  refine hK15 _ _ _ ?_
  by_cases h22 : (!y21) = true
  · replace H := ite_yes h22 H
    refine wpc_true (bval_yes h22) ?_
    refine wpc_seq_k fun K23 hK24 => ?_
    refine wpc_region ?_
    refine q_mv (v := Value.bool y11) rfl ?_
    refine q_as (v := Value.bool y11) rfl ?_
    refine wpq_nil ?_
    refine hK24 _ _ _ ?_
    refine wpc_ret ?_
    cases H
    exact ⟨.inr rfl, rfl, _, ⟨_, _, rfl, rfl, rfl⟩, _, (Gh.le_trans hG8 hG18), hI20, rfl⟩
  · replace H := ite_no h22 H
    refine wpc_false (bval_no h22) ?_
    refine wpc_skip ?_
    refine hK13 _ _ _ ?_
    refine wpc_seq_k fun K25 hK26 => ?_
    refine wpc_region ?_
    refine q_mv (v := Value.string a1) rfl ?_
    obtain ⟨⟨y32, y33⟩, hy27, H⟩ := bind_some H
    refine q_cv (vs := [Value.string a1]) bo10 rfl rfl (text_Shown_spec hI20 (hgl.mono (Gh.le_trans hG8 hG18)) hy27) ?_
    rintro _ wd30 ⟨G28, hG29, hI31, rfl⟩
    refine ⟨_, rfl, ?_⟩
    refine q_mv (v := Value.tuple [Value.string y32, Value.int .i64 y33].toArray) rfl ?_
    refine q_ex (v := Value.string y32) rfl rfl ?_
    refine q_ex (v := Value.int .i64 y33) rfl rfl ?_
    refine q_as (v := Value.string y32) rfl ?_
    refine q_as (v := Value.int .i64 y33) rfl ?_
    refine wpq_nil ?_
    refine hK26 _ _ _ ?_
    refine wpc_seq_k fun K34 hK35 => ?_
    refine wpc_region ?_
    refine q_mv (v := Value.string y32) rfl ?_
    obtain ⟨⟨y41, y42⟩, hy36, H⟩ := bind_some H
    refine q_cv (vs := [Value.string y32]) bo10 rfl rfl (text_Shown_spec hI31 (hgl.mono (Gh.le_trans (Gh.le_trans hG8 hG18) hG29)) hy36) ?_
    rintro _ wd39 ⟨G37, hG38, hI40, rfl⟩
    refine ⟨_, rfl, ?_⟩
    refine q_mv (v := Value.tuple [Value.string y41, Value.int .i64 y42].toArray) rfl ?_
    refine q_ex (v := Value.string y41) rfl rfl ?_
    refine q_ex (v := Value.int .i64 y42) rfl rfl ?_
    refine q_as (v := Value.string y41) rfl ?_
    refine q_as (v := Value.int .i64 y42) rfl ?_
    refine wpq_nil ?_
    refine hK35 _ _ _ ?_
    refine wpc_seq_k fun K43 hK44 => ?_
    refine wpc_region ?_
    refine q_mv (v := Value.bool y11) rfl ?_
    refine q_mv (v := Value.bool y11) rfl ?_
    obtain ⟨v45, hC, H⟩ := bind_some H
    refine wpq_split 3 (K := fun e r ds w => e = .normal ∧ ds = [] ∧ ∃ (G46 : Gh), G37 ≤ G46 ∧ Has [(0, Value.string a1), (4, Value.string y32), (6, Value.string y41), (7, Value.int .i64 y42), (27, Value.bool v45)] r ∧ Hp G46 (L) w ∧ True) ?_ ?_
    · replace H := hC
      by_cases h51 : y11 = true
      · replace H := ite_yes h51 H
        refine q_mv (v := Value.int .i64 y33) rfl ?_ (hw := guard_yes rfl rfl rfl (bval_yes h51))
        refine q_eql rfl rfl ?_ (hw := guard_yes rfl rfl rfl (bval_yes h51))
        refine q_pick true (v := Value.bool (decide (y33 = 0))) (bval_yes h51) rfl ?_
        refine wpq_nil ?_
        cases H
        exact ⟨rfl, rfl, _, (Gh.le_refl _), ⟨rfl, rfl, rfl, rfl, rfl, trivial⟩, hI40, trivial⟩
      · replace H := ite_no h51 H
        refine wpq_no (guard_no rfl rfl rfl (bval_no h51) rfl) ?_
        refine wpq_no (guard_no rfl rfl rfl (bval_no h51) rfl) ?_
        refine q_pick false (v := Value.bool false) (bval_no h51) rfl ?_
        refine wpq_nil ?_
        cases H
        exact ⟨rfl, rfl, _, (Gh.le_refl _), ⟨rfl, rfl, rfl, rfl, rfl, trivial⟩, hI40, trivial⟩
    · clear hC
      rintro e r ds wd48 ⟨rfl, rfl, G46, hG47, hHas, hI49, _⟩
      rw [hHas.eq]; clear hHas
      refine q_mv (v := Value.bool v45) rfl ?_
      obtain ⟨v52, hC, H⟩ := bind_some H
      refine wpq_split 3 (K := fun e r ds w => e = .normal ∧ ds = [] ∧ ∃ (G53 : Gh), G46 ≤ G53 ∧ Has [(0, Value.string a1), (4, Value.string y32), (6, Value.string y41), (31, Value.bool v52)] r ∧ Hp G53 (L) w ∧ True) ?_ ?_
      · replace H := hC
        by_cases h58 : v45 = true
        · replace H := ite_yes h58 H
          refine q_mv (v := Value.int .i64 y42) rfl ?_ (hw := guard_yes rfl rfl rfl (bval_yes h58))
          refine q_eql rfl rfl ?_ (hw := guard_yes rfl rfl rfl (bval_yes h58))
          refine q_pick true (v := Value.bool (decide (y42 = 0))) (bval_yes h58) rfl ?_
          refine wpq_nil ?_
          cases H
          exact ⟨rfl, rfl, _, (Gh.le_refl _), ⟨rfl, rfl, rfl, rfl, trivial⟩, hI49, trivial⟩
        · replace H := ite_no h58 H
          refine wpq_no (guard_no rfl rfl rfl (bval_no h58) rfl) ?_
          refine wpq_no (guard_no rfl rfl rfl (bval_no h58) rfl) ?_
          refine q_pick false (v := Value.bool false) (bval_no h58) rfl ?_
          refine wpq_nil ?_
          cases H
          exact ⟨rfl, rfl, _, (Gh.le_refl _), ⟨rfl, rfl, rfl, rfl, trivial⟩, hI49, trivial⟩
      · clear hC
        rintro e r ds wd55 ⟨rfl, rfl, G53, hG54, hHas, hI56, _⟩
        rw [hHas.eq]; clear hHas
        refine q_mv (v := Value.bool v52) rfl ?_
        obtain ⟨v59, hC, H⟩ := bind_some H
        refine wpq_split 4 (K := fun e r ds w => e = .normal ∧ ds = [] ∧ ∃ (G60 : Gh), G53 ≤ G60 ∧ Has [(0, Value.string a1), (4, Value.string y32), (36, Value.bool v59)] r ∧ Hp G60 (L) w ∧ True) ?_ ?_
        · replace H := hC
          by_cases h65 : v52 = true
          · replace H := ite_yes h65 H
            refine q_mv (v := Value.string y32) rfl ?_ (hw := guard_yes rfl rfl rfl (bval_yes h65))
            refine q_mv (v := Value.string y41) rfl ?_ (hw := guard_yes rfl rfl rfl (bval_yes h65))
            refine q_str_eql rfl rfl ?_ (hw := guard_yes rfl rfl rfl (bval_yes h65))
            refine q_pick true (v := Value.bool (decide (y32 = y41))) (bval_yes h65) rfl ?_
            refine wpq_nil ?_
            cases H
            exact ⟨rfl, rfl, _, (Gh.le_refl _), ⟨rfl, rfl, rfl, trivial⟩, hI56, trivial⟩
          · replace H := ite_no h65 H
            refine wpq_no (guard_no rfl rfl rfl (bval_no h65) rfl) ?_
            refine wpq_no (guard_no rfl rfl rfl (bval_no h65) rfl) ?_
            refine wpq_no (guard_no rfl rfl rfl (bval_no h65) rfl) ?_
            refine q_pick false (v := Value.bool false) (bval_no h65) rfl ?_
            refine wpq_nil ?_
            cases H
            exact ⟨rfl, rfl, _, (Gh.le_refl _), ⟨rfl, rfl, rfl, trivial⟩, hI56, trivial⟩
        · clear hC
          rintro e r ds wd62 ⟨rfl, rfl, G60, hG61, hHas, hI63, _⟩
          rw [hHas.eq]; clear hHas
          refine q_mv (v := Value.bool v59) rfl ?_
          obtain ⟨v66, hC, H⟩ := bind_some H
          refine wpq_split 3 (K := fun e r ds w => e = .normal ∧ ds = [] ∧ ∃ (G67 : Gh), G60 ≤ G67 ∧ Has [(0, Value.string a1), (4, Value.string y32), (40, Value.bool v66)] r ∧ Hp G67 (L) w ∧ True) ?_ ?_
          · replace H := hC
            by_cases h72 : v59 = true
            · replace H := ite_yes h72 H
              refine q_mv (v := Value.string y32) rfl ?_ (hw := guard_yes rfl rfl rfl (bval_yes h72))
              obtain ⟨y78, hy73, H⟩ := bind_some H
              refine q_cv (vs := [Value.string y32]) bo12 rfl rfl (text_Valid_spec hI63 hy73) ?_ (hw := guard_yes rfl rfl rfl (bval_yes h72))
              rintro _ wd76 ⟨G74, hG75, hI77, rfl⟩
              refine ⟨_, rfl, ?_⟩
              refine q_pick true (v := Value.bool y78) (bval_yes h72) rfl ?_
              refine wpq_nil ?_
              cases H
              exact ⟨rfl, rfl, _, hG75, ⟨rfl, rfl, rfl, trivial⟩, hI77, trivial⟩
            · replace H := ite_no h72 H
              refine wpq_no (guard_no rfl rfl rfl (bval_no h72) rfl) ?_
              refine wpq_no (guard_no rfl rfl rfl (bval_no h72) rfl) ?_
              refine q_pick false (v := Value.bool false) (bval_no h72) rfl ?_
              refine wpq_nil ?_
              cases H
              exact ⟨rfl, rfl, _, (Gh.le_refl _), ⟨rfl, rfl, rfl, trivial⟩, hI63, trivial⟩
          · clear hC
            rintro e r ds wd69 ⟨rfl, rfl, G67, hG68, hHas, hI70, _⟩
            rw [hHas.eq]; clear hHas
            refine q_mv (v := Value.bool v66) rfl ?_
            obtain ⟨v79, hC, H⟩ := bind_some H
            refine wpq_split 4 (K := fun e r ds w => e = .normal ∧ ds = [] ∧ ∃ (G80 : Gh), G67 ≤ G80 ∧ Has [(0, Value.string a1), (4, Value.string y32), (45, Value.bool v79)] r ∧ Hp G80 (L) w ∧ True) ?_ ?_
            · replace H := hC
              by_cases h85 : v66 = true
              · replace H := ite_yes h85 H
                refine q_mv (v := Value.string y32) rfl ?_ (hw := guard_yes rfl rfl rfl (bval_yes h85))
                obtain ⟨y91, hy86, H⟩ := bind_some H
                refine q_cv (vs := [Value.string y32, Value.string (⟨#[126]⟩ : ByteArray)]) bo23 rfl rfl (strings_Contains_spec hI70 hy86) ?_ (hw := guard_yes rfl rfl rfl (bval_yes h85))
                rintro _ wd89 ⟨G87, hG88, hI90, rfl⟩
                refine ⟨_, rfl, ?_⟩
                refine q_not rfl ?_ (hw := guard_yes rfl rfl rfl (bval_yes h85))
                refine q_pick true (v := Value.bool (!y91)) (bval_yes h85) rfl ?_
                refine wpq_nil ?_
                cases H
                exact ⟨rfl, rfl, _, hG88, ⟨rfl, rfl, rfl, trivial⟩, hI90, trivial⟩
              · replace H := ite_no h85 H
                refine wpq_no (guard_no rfl rfl rfl (bval_no h85) rfl) ?_
                refine wpq_no (guard_no rfl rfl rfl (bval_no h85) rfl) ?_
                refine wpq_no (guard_no rfl rfl rfl (bval_no h85) rfl) ?_
                refine q_pick false (v := Value.bool false) (bval_no h85) rfl ?_
                refine wpq_nil ?_
                cases H
                exact ⟨rfl, rfl, _, (Gh.le_refl _), ⟨rfl, rfl, rfl, trivial⟩, hI70, trivial⟩
            · clear hC
              rintro e r ds wd82 ⟨rfl, rfl, G80, hG81, hHas, hI83, _⟩
              rw [hHas.eq]; clear hHas
              refine q_mv (v := Value.bool v79) rfl ?_
              obtain ⟨v92, hC, H⟩ := bind_some H
              refine wpq_split 9 (K := fun e r ds w => e = .normal ∧ ds = [] ∧ ∃ (G93 : Gh), G80 ≤ G93 ∧ Has [(55, Value.bool v92)] r ∧ Hp G93 (L) w ∧ True) ?_ ?_
              · replace H := hC
                by_cases h98 : v79 = true
                · replace H := ite_yes h98 H
                  refine q_mv (v := Value.string y32) rfl ?_ (hw := guard_yes rfl rfl rfl (bval_yes h98))
                  refine q_lens so9 rfl ?_ (hw := guard_yes rfl rfl rfl (bval_yes h98))
                  refine q_mv (v := Value.string a1) rfl ?_ (hw := guard_yes rfl rfl rfl (bval_yes h98))
                  obtain ⟨y104, hy99, H⟩ := bind_some H
                  refine q_cv (vs := [Value.string a1, Value.string (⟨#[126]⟩ : ByteArray)]) bo22 rfl rfl (strings_Count_spec hI83 hy99) ?_ (hw := guard_yes rfl rfl rfl (bval_yes h98))
                  rintro _ wd102 ⟨G100, hG101, hI103, rfl⟩
                  refine ⟨_, rfl, ?_⟩
                  refine q_add rfl rfl ?_ (hw := guard_yes rfl rfl rfl (bval_yes h98))
                  refine q_mv (v := Value.string a1) rfl ?_ (hw := guard_yes rfl rfl rfl (bval_yes h98))
                  refine q_lens so9 rfl ?_ (hw := guard_yes rfl rfl rfl (bval_yes h98))
                  refine q_eql rfl rfl ?_ (hw := guard_yes rfl rfl rfl (bval_yes h98))
                  refine q_pick true (v := Value.bool (decide ((w64 ((y32.size : Int) + y104)) = (a1.size : Int)))) (bval_yes h98) rfl ?_
                  refine wpq_nil ?_
                  cases H
                  exact ⟨rfl, rfl, _, hG101, ⟨rfl, trivial⟩, hI103, trivial⟩
                · replace H := ite_no h98 H
                  refine wpq_no (guard_no rfl rfl rfl (bval_no h98) rfl) ?_
                  refine wpq_no (guard_no rfl rfl rfl (bval_no h98) rfl) ?_
                  refine wpq_no (guard_no rfl rfl rfl (bval_no h98) rfl) ?_
                  refine wpq_no (guard_no rfl rfl rfl (bval_no h98) rfl) ?_
                  refine wpq_no (guard_no rfl rfl rfl (bval_no h98) rfl) ?_
                  refine wpq_no (guard_no rfl rfl rfl (bval_no h98) rfl) ?_
                  refine wpq_no (guard_no rfl rfl rfl (bval_no h98) rfl) ?_
                  refine wpq_no (guard_no rfl rfl rfl (bval_no h98) rfl) ?_
                  refine q_pick false (v := Value.bool false) (bval_no h98) rfl ?_
                  refine wpq_nil ?_
                  cases H
                  exact ⟨rfl, rfl, _, (Gh.le_refl _), ⟨rfl, trivial⟩, hI83, trivial⟩
              · clear hC
                rintro e r ds wd95 ⟨rfl, rfl, G93, hG94, hHas, hI96, _⟩
                rw [hHas.eq]; clear hHas
                refine q_as (v := Value.bool v92) rfl ?_
                refine wpq_nil ?_
                refine hK44 _ _ _ ?_
                refine wpc_ret ?_
                cases H
                exact ⟨.inr rfl, rfl, _, ⟨_, _, rfl, rfl, rfl⟩, _, (Gh.le_trans (Gh.le_trans (Gh.le_trans (Gh.le_trans (Gh.le_trans (Gh.le_trans (Gh.le_trans (Gh.le_trans (Gh.le_trans hG8 hG18) hG29) hG38) hG47) hG54) hG61) hG68) hG81) hG94), hI96, rfl⟩
set_option maxHeartbeats 1000000 in
theorem strings_Index_spec {a0 : ByteArray} {a1 : ByteArray} {r0 : Int} {G : Gh} {L : List Itm} {w : World} (hI : Hp G L w) (hgl : Gl G) (H : strings_Index a0 a1 = some r0) :
    Calls Tryd.prog 24 [Value.string a0, Value.string a1].toArray w fun e w' => ∃ (G' : Gh), G ≤ G' ∧ Hp G' L w' ∧ e = .returned (Value.int .i64 r0) := by
  unfold strings_Index at H
  obtain ⟨hs, H⟩ := ite_some H
  cases H
  obtain ⟨m, hm⟩ := (hgl.get hI).maxlen
  exact of_same hI (Any.strings_Index { Tryd.lM143 with } a0 a1 m w hs hm)
set_option maxHeartbeats 1000000 in
theorem formelaw06_TextTrims_spec {a1 : ByteArray} {r1178 : Bool} {G : Gh} {L : List Itm} {w : World} (hI : Hp G (L) w) (hgl : Gl G) (H : formelaw06_TextTrims a1 = some r1178) :
    Calls Tryd.prog 8 [Value.string a1].toArray w fun e w' => ∃ (G' : Gh), G ≤ G' ∧ Hp G' (L) w' ∧ e = .returned (Value.bool r1178) := by
  refine calls_intro (N := 103) Tryd.func8 rfl rfl (Nat.le_of_ble_eq_true rfl) ?_
  unfold formelaw06_TextTrims at H
  refine wpc_seq_k fun K2 hK3 => ?_
  refine wpc_region ?_
  refine q_as (v := Value.bool false) rfl ?_
  refine wpq_nil ?_
  refine hK3 _ _ _ ?_
  refine wpc_seq_k fun K4 hK5 => ?_
  refine wpc_region ?_
  obtain ⟨y11, hy6, H⟩ := bind_some H
  refine q_cv (vs := []) bo9 rfl rfl (formelaw06_head_spec hI (hgl.mono (Gh.le_refl _)) hy6) ?_
  rintro _ wd9 ⟨G7, hG8, hI10, rfl⟩
  refine ⟨_, rfl, ?_⟩
  refine q_as (v := Value.bool y11) rfl ?_
  refine wpq_nil ?_
  refine hK5 _ _ _ ?_
  refine wpc_seq_k fun K12 hK13 => ?_
  refine wpc_seq_k fun K14 hK15 => ?_
  refine wpc_region ?_
  refine q_mv (v := Value.string a1) rfl ?_
  obtain ⟨y21, hy16, H⟩ := bind_some H
  refine q_cv (vs := [Value.string a1]) bo13 rfl rfl (formeref06_Valid_spec hI10 hy16) ?_
  rintro _ wd19 ⟨G17, hG18, hI20, rfl⟩
  refine ⟨_, rfl, ?_⟩
  refine q_not rfl ?_
  refine wpq_nil ?_
  refine hK15 _ _ _ ?_
  by_cases h22 : (!y21) = true
  · replace H := ite_yes h22 H
    refine wpc_true (bval_yes h22) ?_
    refine wpc_seq_k fun K23 hK24 => ?_
    refine wpc_region ?_
    refine q_mv (v := Value.bool y11) rfl ?_
    refine q_as (v := Value.bool y11) rfl ?_
    refine wpq_nil ?_
    refine hK24 _ _ _ ?_
    refine wpc_ret ?_
    cases H
    exact ⟨.inr rfl, rfl, _, ⟨_, _, rfl, rfl, rfl⟩, _, (Gh.le_trans hG8 hG18), hI20, rfl⟩
  · replace H := ite_no h22 H
    refine wpc_false (bval_no h22) ?_
    refine wpc_skip ?_
    refine hK13 _ _ _ ?_
    refine wpc_seq_k fun K25 hK26 => ?_
    refine wpc_region ?_
    refine q_mv (v := Value.string a1) rfl ?_
    obtain ⟨⟨y32, y33⟩, hy27, H⟩ := bind_some H
    refine q_cv (vs := [Value.string a1]) bo18 rfl rfl (text_Trim_spec hI20 hy27) ?_
    rintro _ wd30 ⟨G28, hG29, hI31, rfl⟩
    refine ⟨_, rfl, ?_⟩
    refine q_mv (v := Value.tuple [Value.string y32, Value.int .i64 y33].toArray) rfl ?_
    refine q_ex (v := Value.string y32) rfl rfl ?_
    refine q_ex (v := Value.int .i64 y33) rfl rfl ?_
    refine q_as (v := Value.string y32) rfl ?_
    refine q_as (v := Value.int .i64 y33) rfl ?_
    refine wpq_nil ?_
    refine hK26 _ _ _ ?_
    refine wpc_seq_k fun K34 hK35 => ?_
    refine wpc_region ?_
    refine q_mv (v := Value.string y32) rfl ?_
    obtain ⟨⟨y41, y42⟩, hy36, H⟩ := bind_some H
    refine q_cv (vs := [Value.string y32]) bo18 rfl rfl (text_Trim_spec hI31 hy36) ?_
    rintro _ wd39 ⟨G37, hG38, hI40, rfl⟩
    refine ⟨_, rfl, ?_⟩
    refine q_mv (v := Value.tuple [Value.string y41, Value.int .i64 y42].toArray) rfl ?_
    refine q_ex (v := Value.string y41) rfl rfl ?_
    refine q_ex (v := Value.int .i64 y42) rfl rfl ?_
    refine q_as (v := Value.string y41) rfl ?_
    refine q_as (v := Value.int .i64 y42) rfl ?_
    refine wpq_nil ?_
    refine hK35 _ _ _ ?_
    refine wpc_seq_k fun K43 hK44 => ?_
    refine wpc_region ?_
    refine q_mv (v := Value.string a1) rfl ?_
    obtain ⟨⟨y50, y51⟩, hy45, H⟩ := bind_some H
    refine q_cv (vs := [Value.string a1]) bo16 rfl rfl (text_Words_spec hI40 hy45) ?_
    rintro _ wd48 ⟨G46, hG47, hI49, rfl⟩
    refine ⟨_, rfl, ?_⟩
    refine q_mv (v := Value.tuple [Value.int .i64 y50, Value.int .i64 y51].toArray) rfl ?_
    refine q_ex (v := Value.int .i64 y50) rfl rfl ?_
    refine q_ex (v := Value.int .i64 y51) rfl rfl ?_
    refine q_as (v := Value.int .i64 y50) rfl ?_
    refine q_as (v := Value.int .i64 y51) rfl ?_
    refine wpq_nil ?_
    refine hK44 _ _ _ ?_
    refine wpc_seq_k fun K52 hK53 => ?_
    refine wpc_region ?_
    refine q_mv (v := Value.string y32) rfl ?_
    obtain ⟨⟨y59, y60⟩, hy54, H⟩ := bind_some H
    refine q_cv (vs := [Value.string y32]) bo16 rfl rfl (text_Words_spec hI49 hy54) ?_
    rintro _ wd57 ⟨G55, hG56, hI58, rfl⟩
    refine ⟨_, rfl, ?_⟩
    refine q_mv (v := Value.tuple [Value.int .i64 y59, Value.int .i64 y60].toArray) rfl ?_
    refine q_ex (v := Value.int .i64 y59) rfl rfl ?_
    refine q_ex (v := Value.int .i64 y60) rfl rfl ?_
    refine q_as (v := Value.int .i64 y59) rfl ?_
    refine q_as (v := Value.int .i64 y60) rfl ?_
    refine wpq_nil ?_
    refine hK53 _ _ _ ?_
    refine wpc_seq_k fun K61 hK62 => ?_
    refine wpc_seq_k fun K63 hK64 => ?_
    refine wpc_region ?_
    refine q_mv (v := Value.int .i64 y33) rfl ?_
    refine q_neq rfl rfl ?_
    refine q_mv (v := Value.bool (decide (¬ y33 = 0))) rfl ?_
    obtain ⟨v65, hC, H⟩ := bind_some H
    refine wpq_split 3 (K := fun e r ds w => e = .normal ∧ ds = [] ∧ ∃ (G66 : Gh), G55 ≤ G66 ∧ Has [(0, Value.string a1), (3, Value.bool y11), (4, Value.string y32), (6, Value.string y41), (8, Value.int .i64 y50), (9, Value.int .i64 y51), (10, Value.int .i64 y59), (11, Value.int .i64 y60), (43, Value.bool v65)] r ∧ Hp G66 (L) w ∧ True) ?_ ?_
    · replace H := hC
      by_cases h71 : ¬ y33 = 0
      · replace H := ite_yes h71 H
        refine wpq_no (guard_no rfl rfl rfl (bool_yes h71) rfl) ?_
        refine wpq_no (guard_no rfl rfl rfl (bool_yes h71) rfl) ?_
        refine q_pick true (v := Value.bool true) (bool_yes h71) rfl ?_
        refine wpq_nil ?_
        cases H
        exact ⟨rfl, rfl, _, (Gh.le_refl _), ⟨rfl, rfl, rfl, rfl, rfl, rfl, rfl, rfl, rfl, trivial⟩, hI58, trivial⟩
      · replace H := ite_no h71 H
        refine q_mv (v := Value.int .i64 y42) rfl ?_ (hw := guard_yes rfl rfl rfl (bool_no h71))
        refine q_neq rfl rfl ?_ (hw := guard_yes rfl rfl rfl (bool_no h71))
        refine q_pick false (v := Value.bool (decide (¬ y42 = 0))) (bool_no h71) rfl ?_
        refine wpq_nil ?_
        cases H
        exact ⟨rfl, rfl, _, (Gh.le_refl _), ⟨rfl, rfl, rfl, rfl, rfl, rfl, rfl, rfl, rfl, trivial⟩, hI58, trivial⟩
    · clear hC
      rintro e r ds wd68 ⟨rfl, rfl, G66, hG67, hHas, hI69, _⟩
      rw [hHas.eq]; clear hHas
      refine q_mv (v := Value.bool v65) rfl ?_
      obtain ⟨v72, hC, H⟩ := bind_some H
      refine wpq_split 3 (K := fun e r ds w => e = .normal ∧ ds = [] ∧ ∃ (G73 : Gh), G66 ≤ G73 ∧ Has [(0, Value.string a1), (3, Value.bool y11), (4, Value.string y32), (6, Value.string y41), (8, Value.int .i64 y50), (10, Value.int .i64 y59), (11, Value.int .i64 y60), (47, Value.bool v72)] r ∧ Hp G73 (L) w ∧ True) ?_ ?_
      · replace H := hC
        by_cases h78 : v65 = true
        · replace H := ite_yes h78 H
          refine wpq_no (guard_no rfl rfl rfl (bval_yes h78) rfl) ?_
          refine wpq_no (guard_no rfl rfl rfl (bval_yes h78) rfl) ?_
          refine q_pick true (v := Value.bool true) (bval_yes h78) rfl ?_
          refine wpq_nil ?_
          cases H
          exact ⟨rfl, rfl, _, (Gh.le_refl _), ⟨rfl, rfl, rfl, rfl, rfl, rfl, rfl, rfl, trivial⟩, hI69, trivial⟩
        · replace H := ite_no h78 H
          refine q_mv (v := Value.int .i64 y51) rfl ?_ (hw := guard_yes rfl rfl rfl (bval_no h78))
          refine q_neq rfl rfl ?_ (hw := guard_yes rfl rfl rfl (bval_no h78))
          refine q_pick false (v := Value.bool (decide (¬ y51 = 0))) (bval_no h78) rfl ?_
          refine wpq_nil ?_
          cases H
          exact ⟨rfl, rfl, _, (Gh.le_refl _), ⟨rfl, rfl, rfl, rfl, rfl, rfl, rfl, rfl, trivial⟩, hI69, trivial⟩
      · clear hC
        rintro e r ds wd75 ⟨rfl, rfl, G73, hG74, hHas, hI76, _⟩
        rw [hHas.eq]; clear hHas
        refine q_mv (v := Value.bool v72) rfl ?_
        obtain ⟨v79, hC, H⟩ := bind_some H
        refine wpq_split 3 (K := fun e r ds w => e = .normal ∧ ds = [] ∧ ∃ (G80 : Gh), G73 ≤ G80 ∧ Has [(0, Value.string a1), (3, Value.bool y11), (4, Value.string y32), (6, Value.string y41), (8, Value.int .i64 y50), (10, Value.int .i64 y59), (51, Value.bool v79)] r ∧ Hp G80 (L) w ∧ True) ?_ ?_
        · replace H := hC
          by_cases h85 : v72 = true
          · replace H := ite_yes h85 H
            refine wpq_no (guard_no rfl rfl rfl (bval_yes h85) rfl) ?_
            refine wpq_no (guard_no rfl rfl rfl (bval_yes h85) rfl) ?_
            refine q_pick true (v := Value.bool true) (bval_yes h85) rfl ?_
            refine wpq_nil ?_
            cases H
            exact ⟨rfl, rfl, _, (Gh.le_refl _), ⟨rfl, rfl, rfl, rfl, rfl, rfl, rfl, trivial⟩, hI76, trivial⟩
          · replace H := ite_no h85 H
            refine q_mv (v := Value.int .i64 y60) rfl ?_ (hw := guard_yes rfl rfl rfl (bval_no h85))
            refine q_neq rfl rfl ?_ (hw := guard_yes rfl rfl rfl (bval_no h85))
            refine q_pick false (v := Value.bool (decide (¬ y60 = 0))) (bval_no h85) rfl ?_
            refine wpq_nil ?_
            cases H
            exact ⟨rfl, rfl, _, (Gh.le_refl _), ⟨rfl, rfl, rfl, rfl, rfl, rfl, rfl, trivial⟩, hI76, trivial⟩
        · clear hC
          rintro e r ds wd82 ⟨rfl, rfl, G80, hG81, hHas, hI83, _⟩
          rw [hHas.eq]; clear hHas
          refine q_mv (v := Value.bool v79) rfl ?_
          obtain ⟨v86, hC, H⟩ := bind_some H
          refine wpq_split 4 (K := fun e r ds w => e = .normal ∧ ds = [] ∧ ∃ (G87 : Gh), G80 ≤ G87 ∧ Has [(0, Value.string a1), (3, Value.bool y11), (4, Value.string y32), (8, Value.int .i64 y50), (10, Value.int .i64 y59), (56, Value.bool v86)] r ∧ Hp G87 (L) w ∧ True) ?_ ?_
          · replace H := hC
            by_cases h92 : v79 = true
            · replace H := ite_yes h92 H
              refine wpq_no (guard_no rfl rfl rfl (bval_yes h92) rfl) ?_
              refine wpq_no (guard_no rfl rfl rfl (bval_yes h92) rfl) ?_
              refine wpq_no (guard_no rfl rfl rfl (bval_yes h92) rfl) ?_
              refine q_pick true (v := Value.bool true) (bval_yes h92) rfl ?_
              refine wpq_nil ?_
              cases H
              exact ⟨rfl, rfl, _, (Gh.le_refl _), ⟨rfl, rfl, rfl, rfl, rfl, rfl, trivial⟩, hI83, trivial⟩
            · replace H := ite_no h92 H
              refine q_mv (v := Value.string y32) rfl ?_ (hw := guard_yes rfl rfl rfl (bval_no h92))
              refine q_mv (v := Value.string y41) rfl ?_ (hw := guard_yes rfl rfl rfl (bval_no h92))
              refine q_str_neq rfl rfl ?_ (hw := guard_yes rfl rfl rfl (bval_no h92))
              refine q_pick false (v := Value.bool (decide (¬ y32 = y41))) (bval_no h92) rfl ?_
              refine wpq_nil ?_
              cases H
              exact ⟨rfl, rfl, _, (Gh.le_refl _), ⟨rfl, rfl, rfl, rfl, rfl, rfl, trivial⟩, hI83, trivial⟩
          · clear hC
            rintro e r ds wd89 ⟨rfl, rfl, G87, hG88, hHas, hI90, _⟩
            rw [hHas.eq]; clear hHas
            refine q_mv (v := Value.bool v86) rfl ?_
            obtain ⟨v93, hC, H⟩ := bind_some H
            refine wpq_split 4 (K := fun e r ds w => e = .normal ∧ ds = [] ∧ ∃ (G94 : Gh), G87 ≤ G94 ∧ Has [(0, Value.string a1), (3, Value.bool y11), (4, Value.string y32), (61, Value.bool v93)] r ∧ Hp G94 (L) w ∧ True) ?_ ?_
            · replace H := hC
              by_cases h99 : v86 = true
              · replace H := ite_yes h99 H
                refine wpq_no (guard_no rfl rfl rfl (bval_yes h99) rfl) ?_
                refine wpq_no (guard_no rfl rfl rfl (bval_yes h99) rfl) ?_
                refine wpq_no (guard_no rfl rfl rfl (bval_yes h99) rfl) ?_
                refine q_pick true (v := Value.bool true) (bval_yes h99) rfl ?_
                refine wpq_nil ?_
                cases H
                exact ⟨rfl, rfl, _, (Gh.le_refl _), ⟨rfl, rfl, rfl, rfl, trivial⟩, hI90, trivial⟩
              · replace H := ite_no h99 H
                refine q_mv (v := Value.int .i64 y50) rfl ?_ (hw := guard_yes rfl rfl rfl (bval_no h99))
                refine q_mv (v := Value.int .i64 y59) rfl ?_ (hw := guard_yes rfl rfl rfl (bval_no h99))
                refine q_neq rfl rfl ?_ (hw := guard_yes rfl rfl rfl (bval_no h99))
                refine q_pick false (v := Value.bool (decide (¬ y50 = y59))) (bval_no h99) rfl ?_
                refine wpq_nil ?_
                cases H
                exact ⟨rfl, rfl, _, (Gh.le_refl _), ⟨rfl, rfl, rfl, rfl, trivial⟩, hI90, trivial⟩
            · clear hC
              rintro e r ds wd96 ⟨rfl, rfl, G94, hG95, hHas, hI97, _⟩
              rw [hHas.eq]; clear hHas
              refine q_mv (v := Value.bool v93) rfl ?_
              obtain ⟨v100, hC, H⟩ := bind_some H
              refine wpq_split 3 (K := fun e r ds w => e = .normal ∧ ds = [] ∧ ∃ (G101 : Gh), G94 ≤ G101 ∧ Has [(0, Value.string a1), (3, Value.bool y11), (4, Value.string y32), (65, Value.bool v100)] r ∧ Hp G101 (L) w ∧ True) ?_ ?_
              · replace H := hC
                by_cases h106 : v93 = true
                · replace H := ite_yes h106 H
                  refine wpq_no (guard_no rfl rfl rfl (bval_yes h106) rfl) ?_
                  refine wpq_no (guard_no rfl rfl rfl (bval_yes h106) rfl) ?_
                  refine q_pick true (v := Value.bool true) (bval_yes h106) rfl ?_
                  refine wpq_nil ?_
                  cases H
                  exact ⟨rfl, rfl, _, (Gh.le_refl _), ⟨rfl, rfl, rfl, rfl, trivial⟩, hI97, trivial⟩
                · replace H := ite_no h106 H
                  refine q_mv (v := Value.string y32) rfl ?_ (hw := guard_yes rfl rfl rfl (bval_no h106))
                  obtain ⟨y112, hy107, H⟩ := bind_some H
                  refine q_cv (vs := [Value.string y32, Value.string (⟨#[32]⟩ : ByteArray)]) bo20 rfl rfl (strings_HasPrefix_spec hI97 hy107) ?_ (hw := guard_yes rfl rfl rfl (bval_no h106))
                  rintro _ wd110 ⟨G108, hG109, hI111, rfl⟩
                  refine ⟨_, rfl, ?_⟩
                  refine q_pick false (v := Value.bool y112) (bval_no h106) rfl ?_
                  refine wpq_nil ?_
                  cases H
                  exact ⟨rfl, rfl, _, hG109, ⟨rfl, rfl, rfl, rfl, trivial⟩, hI111, trivial⟩
              · clear hC
                rintro e r ds wd103 ⟨rfl, rfl, G101, hG102, hHas, hI104, _⟩
                rw [hHas.eq]; clear hHas
                refine q_mv (v := Value.bool v100) rfl ?_
                obtain ⟨v113, hC, H⟩ := bind_some H
                refine wpq_split 3 (K := fun e r ds w => e = .normal ∧ ds = [] ∧ ∃ (G114 : Gh), G101 ≤ G114 ∧ Has [(0, Value.string a1), (3, Value.bool y11), (4, Value.string y32), (69, Value.bool v113)] r ∧ Hp G114 (L) w ∧ True) ?_ ?_
                · replace H := hC
                  by_cases h119 : v100 = true
                  · replace H := ite_yes h119 H
                    refine wpq_no (guard_no rfl rfl rfl (bval_yes h119) rfl) ?_
                    refine wpq_no (guard_no rfl rfl rfl (bval_yes h119) rfl) ?_
                    refine q_pick true (v := Value.bool true) (bval_yes h119) rfl ?_
                    refine wpq_nil ?_
                    cases H
                    exact ⟨rfl, rfl, _, (Gh.le_refl _), ⟨rfl, rfl, rfl, rfl, trivial⟩, hI104, trivial⟩
                  · replace H := ite_no h119 H
                    refine q_mv (v := Value.string y32) rfl ?_ (hw := guard_yes rfl rfl rfl (bval_no h119))
                    obtain ⟨y125, hy120, H⟩ := bind_some H
                    refine q_cv (vs := [Value.string y32, Value.string (⟨#[32]⟩ : ByteArray)]) bo21 rfl rfl (strings_HasSuffix_spec hI104 hy120) ?_ (hw := guard_yes rfl rfl rfl (bval_no h119))
                    rintro _ wd123 ⟨G121, hG122, hI124, rfl⟩
                    refine ⟨_, rfl, ?_⟩
                    refine q_pick false (v := Value.bool y125) (bval_no h119) rfl ?_
                    refine wpq_nil ?_
                    cases H
                    exact ⟨rfl, rfl, _, hG122, ⟨rfl, rfl, rfl, rfl, trivial⟩, hI124, trivial⟩
                · clear hC
                  rintro e r ds wd116 ⟨rfl, rfl, G114, hG115, hHas, hI117, _⟩
                  rw [hHas.eq]; clear hHas
                  refine wpq_nil ?_
                  refine hK64 _ _ _ ?_
                  by_cases h126 : v113 = true
                  · replace H := ite_yes h126 H
                    refine wpc_true (bval_yes h126) ?_
                    refine wpc_seq_k fun K127 hK128 => ?_
                    refine wpc_region ?_
                    refine q_as (v := Value.bool false) rfl ?_
                    refine wpq_nil ?_
                    refine hK128 _ _ _ ?_
                    refine wpc_ret ?_
                    cases H
                    exact ⟨.inr rfl, rfl, _, ⟨_, _, rfl, rfl, rfl⟩, _, (Gh.le_trans (Gh.le_trans (Gh.le_trans (Gh.le_trans (Gh.le_trans (Gh.le_trans (Gh.le_trans (Gh.le_trans (Gh.le_trans (Gh.le_trans (Gh.le_trans (Gh.le_trans hG8 hG18) hG29) hG38) hG47) hG56) hG67) hG74) hG81) hG88) hG95) hG102) hG115), hI117, rfl⟩
                  · replace H := ite_no h126 H
                    refine wpc_false (bval_no h126) ?_
                    refine wpc_skip ?_
                    refine hK62 _ _ _ ?_
                    refine wpc_seq_k fun K129 hK130 => ?_
                    refine wpc_region ?_
                    refine q_mv (v := Value.string a1) rfl ?_
                    refine q_mv (v := Value.string y32) rfl ?_
                    obtain ⟨y136, hy131, H⟩ := bind_some H
                    refine q_cv (vs := [Value.string a1, Value.string y32]) bo24 rfl rfl (strings_Index_spec hI117 (hgl.mono (Gh.le_trans (Gh.le_trans (Gh.le_trans (Gh.le_trans (Gh.le_trans (Gh.le_trans (Gh.le_trans (Gh.le_trans (Gh.le_trans (Gh.le_trans (Gh.le_trans (Gh.le_trans hG8 hG18) hG29) hG38) hG47) hG56) hG67) hG74) hG81) hG88) hG95) hG102) hG115)) hy131) ?_
                    rintro _ wd134 ⟨G132, hG133, hI135, rfl⟩
                    refine ⟨_, rfl, ?_⟩
                    refine q_as (v := Value.int .i64 y136) rfl ?_
                    refine wpq_nil ?_
                    refine hK130 _ _ _ ?_
                    refine wpc_seq_k fun K137 hK138 => ?_
                    refine wpc_region ?_
                    refine q_mv (v := Value.bool y11) rfl ?_
                    refine q_mv (v := Value.bool y11) rfl ?_
                    obtain ⟨v139, hC, H⟩ := bind_some H
                    refine wpq_split 3 (K := fun e r ds w => e = .normal ∧ ds = [] ∧ ∃ (G140 : Gh), G132 ≤ G140 ∧ Has [(0, Value.string a1), (4, Value.string y32), (12, Value.int .i64 y136), (77, Value.bool v139)] r ∧ Hp G140 (L) w ∧ True) ?_ ?_
                    · replace H := hC
                      by_cases h145 : y11 = true
                      · replace H := ite_yes h145 H
                        refine q_mv (v := Value.int .i64 y136) rfl ?_ (hw := guard_yes rfl rfl rfl (bval_yes h145))
                        refine q_geq rfl rfl ?_ (hw := guard_yes rfl rfl rfl (bval_yes h145))
                        refine q_pick true (v := Value.bool (decide (0 ≤ y136))) (bval_yes h145) rfl ?_
                        refine wpq_nil ?_
                        cases H
                        exact ⟨rfl, rfl, _, (Gh.le_refl _), ⟨rfl, rfl, rfl, rfl, trivial⟩, hI135, trivial⟩
                      · replace H := ite_no h145 H
                        refine wpq_no (guard_no rfl rfl rfl (bval_no h145) rfl) ?_
                        refine wpq_no (guard_no rfl rfl rfl (bval_no h145) rfl) ?_
                        refine q_pick false (v := Value.bool false) (bval_no h145) rfl ?_
                        refine wpq_nil ?_
                        cases H
                        exact ⟨rfl, rfl, _, (Gh.le_refl _), ⟨rfl, rfl, rfl, rfl, trivial⟩, hI135, trivial⟩
                    · clear hC
                      rintro e r ds wd142 ⟨rfl, rfl, G140, hG141, hHas, hI143, _⟩
                      rw [hHas.eq]; clear hHas
                      refine q_mv (v := Value.bool v139) rfl ?_
                      obtain ⟨v146, hC, H⟩ := bind_some H
                      refine wpq_split 7 (K := fun e r ds w => e = .normal ∧ ds = [] ∧ ∃ (G147 : Gh), G140 ≤ G147 ∧ Has [(0, Value.string a1), (4, Value.string y32), (12, Value.int .i64 y136), (85, Value.bool v146)] r ∧ Hp G147 (L) w ∧ True) ?_ ?_
                      · replace H := hC
                        by_cases h152 : v139 = true
                        · replace H := ite_yes h152 H
                          refine q_mv (v := Value.string a1) rfl ?_ (hw := guard_yes rfl rfl rfl (bval_yes h152))
                          refine q_mv (v := Value.int .i64 y136) rfl ?_ (hw := guard_yes rfl rfl rfl (bval_yes h152))
                          obtain ⟨⟨h154, h155⟩, H⟩ := ite_some H
                          refine q_ss (l := 0) (h := y136) so9 rfl (.inl ⟨rfl, rfl⟩) (.inr ⟨_, rfl, rfl⟩) (Int.le_refl 0) h154 h155 ?_ (hw := guard_yes rfl rfl rfl (bval_yes h152))
                          obtain ⟨y161, hy156, H⟩ := bind_some H
                          refine q_cv (vs := [Value.string (sub a1 0 y136), Value.string (⟨#[32]⟩ : ByteArray)]) bo22 rfl rfl (strings_Count_spec hI143 hy156) ?_ (hw := guard_yes rfl rfl rfl (bval_yes h152))
                          rintro _ wd159 ⟨G157, hG158, hI160, rfl⟩
                          refine ⟨_, rfl, ?_⟩
                          refine q_mv (v := Value.int .i64 y136) rfl ?_ (hw := guard_yes rfl rfl rfl (bval_yes h152))
                          refine q_eql rfl rfl ?_ (hw := guard_yes rfl rfl rfl (bval_yes h152))
                          refine q_pick true (v := Value.bool (decide (y161 = y136))) (bval_yes h152) rfl ?_
                          refine wpq_nil ?_
                          cases H
                          exact ⟨rfl, rfl, _, hG158, ⟨rfl, rfl, rfl, rfl, trivial⟩, hI160, trivial⟩
                        · replace H := ite_no h152 H
                          refine wpq_no (guard_no rfl rfl rfl (bval_no h152) rfl) ?_
                          refine wpq_no (guard_no rfl rfl rfl (bval_no h152) rfl) ?_
                          refine wpq_no (guard_no rfl rfl rfl (bval_no h152) rfl) ?_
                          refine wpq_no (guard_no rfl rfl rfl (bval_no h152) rfl) ?_
                          refine wpq_no (guard_no rfl rfl rfl (bval_no h152) rfl) ?_
                          refine wpq_no (guard_no rfl rfl rfl (bval_no h152) rfl) ?_
                          refine q_pick false (v := Value.bool false) (bval_no h152) rfl ?_
                          refine wpq_nil ?_
                          cases H
                          exact ⟨rfl, rfl, _, (Gh.le_refl _), ⟨rfl, rfl, rfl, rfl, trivial⟩, hI143, trivial⟩
                      · clear hC
                        rintro e r ds wd149 ⟨rfl, rfl, G147, hG148, hHas, hI150, _⟩
                        rw [hHas.eq]; clear hHas
                        refine q_mv (v := Value.bool v146) rfl ?_
                        obtain ⟨v162, hC, H⟩ := bind_some H
                        refine wpq_split 16 (K := fun e r ds w => e = .normal ∧ ds = [] ∧ ∃ (G163 : Gh), G147 ≤ G163 ∧ Has [(102, Value.bool v162)] r ∧ Hp G163 (L) w ∧ True) ?_ ?_
                        · replace H := hC
                          by_cases h168 : v146 = true
                          · replace H := ite_yes h168 H
                            refine q_mv (v := Value.string a1) rfl ?_ (hw := guard_yes rfl rfl rfl (bval_yes h168))
                            refine q_mv (v := Value.int .i64 y136) rfl ?_ (hw := guard_yes rfl rfl rfl (bval_yes h168))
                            refine q_mv (v := Value.string y32) rfl ?_ (hw := guard_yes rfl rfl rfl (bval_yes h168))
                            refine q_lens so9 rfl ?_ (hw := guard_yes rfl rfl rfl (bval_yes h168))
                            refine q_add rfl rfl ?_ (hw := guard_yes rfl rfl rfl (bval_yes h168))
                            obtain ⟨⟨h169, h170⟩, H⟩ := ite_some H
                            refine q_ss (l := w64 (y136 + (y32.size : Int))) (h := (a1.size : Int)) so9 rfl (.inr ⟨_, rfl, rfl⟩) (.inl ⟨rfl, rfl⟩) h169 h170 (Int.le_refl _) ?_ (hw := guard_yes rfl rfl rfl (bval_yes h168))
                            obtain ⟨y177, hy172, H⟩ := bind_some H
                            refine q_cv (vs := [Value.string (sub a1 (w64 (y136 + (y32.size : Int))) (a1.size : Int)), Value.string (⟨#[32]⟩ : ByteArray)]) bo22 rfl rfl (strings_Count_spec hI150 hy172) ?_ (hw := guard_yes rfl rfl rfl (bval_yes h168))
                            rintro _ wd175 ⟨G173, hG174, hI176, rfl⟩
                            refine ⟨_, rfl, ?_⟩
                            refine q_mv (v := Value.string a1) rfl ?_ (hw := guard_yes rfl rfl rfl (bval_yes h168))
                            refine q_lens so9 rfl ?_ (hw := guard_yes rfl rfl rfl (bval_yes h168))
                            refine q_mv (v := Value.int .i64 y136) rfl ?_ (hw := guard_yes rfl rfl rfl (bval_yes h168))
                            refine q_sub rfl rfl ?_ (hw := guard_yes rfl rfl rfl (bval_yes h168))
                            refine q_mv (v := Value.string y32) rfl ?_ (hw := guard_yes rfl rfl rfl (bval_yes h168))
                            refine q_lens so9 rfl ?_ (hw := guard_yes rfl rfl rfl (bval_yes h168))
                            refine q_sub rfl rfl ?_ (hw := guard_yes rfl rfl rfl (bval_yes h168))
                            refine q_eql rfl rfl ?_ (hw := guard_yes rfl rfl rfl (bval_yes h168))
                            refine q_pick true (v := Value.bool (decide (y177 = (w64 ((w64 ((a1.size : Int) - y136)) - (y32.size : Int)))))) (bval_yes h168) rfl ?_
                            refine wpq_nil ?_
                            cases H
                            exact ⟨rfl, rfl, _, hG174, ⟨rfl, trivial⟩, hI176, trivial⟩
                          · replace H := ite_no h168 H
                            refine wpq_no (guard_no rfl rfl rfl (bval_no h168) rfl) ?_
                            refine wpq_no (guard_no rfl rfl rfl (bval_no h168) rfl) ?_
                            refine wpq_no (guard_no rfl rfl rfl (bval_no h168) rfl) ?_
                            refine wpq_no (guard_no rfl rfl rfl (bval_no h168) rfl) ?_
                            refine wpq_no (guard_no rfl rfl rfl (bval_no h168) rfl) ?_
                            refine wpq_no (guard_no rfl rfl rfl (bval_no h168) rfl) ?_
                            refine wpq_no (guard_no rfl rfl rfl (bval_no h168) rfl) ?_
                            refine wpq_no (guard_no rfl rfl rfl (bval_no h168) rfl) ?_
                            refine wpq_no (guard_no rfl rfl rfl (bval_no h168) rfl) ?_
                            refine wpq_no (guard_no rfl rfl rfl (bval_no h168) rfl) ?_
                            refine wpq_no (guard_no rfl rfl rfl (bval_no h168) rfl) ?_
                            refine wpq_no (guard_no rfl rfl rfl (bval_no h168) rfl) ?_
                            refine wpq_no (guard_no rfl rfl rfl (bval_no h168) rfl) ?_
                            refine wpq_no (guard_no rfl rfl rfl (bval_no h168) rfl) ?_
                            refine wpq_no (guard_no rfl rfl rfl (bval_no h168) rfl) ?_
                            refine q_pick false (v := Value.bool false) (bval_no h168) rfl ?_
                            refine wpq_nil ?_
                            cases H
                            exact ⟨rfl, rfl, _, (Gh.le_refl _), ⟨rfl, trivial⟩, hI150, trivial⟩
                        · clear hC
                          rintro e r ds wd165 ⟨rfl, rfl, G163, hG164, hHas, hI166, _⟩
                          rw [hHas.eq]; clear hHas
                          refine q_as (v := Value.bool v162) rfl ?_
                          refine wpq_nil ?_
                          refine hK138 _ _ _ ?_
                          refine wpc_ret ?_
                          cases H
                          exact ⟨.inr rfl, rfl, _, ⟨_, _, rfl, rfl, rfl⟩, _, (Gh.le_trans (Gh.le_trans (Gh.le_trans (Gh.le_trans (Gh.le_trans (Gh.le_trans (Gh.le_trans (Gh.le_trans (Gh.le_trans (Gh.le_trans (Gh.le_trans (Gh.le_trans (Gh.le_trans (Gh.le_trans (Gh.le_trans (Gh.le_trans hG8 hG18) hG29) hG38) hG47) hG56) hG67) hG74) hG81) hG88) hG95) hG102) hG115) hG133) hG141) hG148) hG164), hI166, rfl⟩
end Go.Proofs.YtpefcdchjokggaaDoor.LG
