/-
  The walks: each function computes its plain function: printed by a program out of the translation.
-/
import Derived.Test.YtiahgcidgbalkaaDoorTy
import Derived.Test.YtiahgcidgbalkaaDoorLa
set_option linter.unusedVariables false
set_option linter.unusedSimpArgs false
set_option maxRecDepth 100000
namespace Go.Proofs.YtiahgcidgbalkaaDoor.LG
open Go Go.LG Go.RowKit
open Go.Lib Go.Shelf Go.Proofs
set_option maxHeartbeats 1000000 in
theorem breaks_within_spec {a1 : Int} {r1013 : Bool} {G : Gh} {L : List Itm} {w : World} (hI : Hp G (L) w) (H : breaks_within a1 = some r1013) :
    Calls Tryd.prog 24 [Value.int .i64 a1].toArray w fun e w' => ∃ (G' : Gh), G ≤ G' ∧ Hp G' (L) w' ∧ e = .returned (Value.bool r1013) := by
  refine calls_intro (N := 9) Tryd.func24 rfl rfl (Nat.le_of_ble_eq_true rfl) ?_
  unfold breaks_within at H
  refine wpc_seq_k fun K2 hK3 => ?_
  refine wpc_region ?_
  refine q_as (v := Value.bool false) rfl ?_
  refine wpq_nil ?_
  refine hK3 _ _ _ ?_
  refine wpc_seq_k fun K4 hK5 => ?_
  refine wpc_region ?_
  refine q_mv (v := Value.int .i64 a1) rfl ?_
  refine q_leq rfl rfl ?_
  refine q_mv (v := Value.bool (decide (1 ≤ a1))) rfl ?_
  obtain ⟨v6, hC, H⟩ := bind_some H
  refine wpq_split 3 (K := fun e r ds w => e = .normal ∧ ∃ (G7 : Gh), ds = [] ∧ G ≤ G7 ∧ Has [(8, Value.bool v6)] r ∧ Hp G7 (L) w ∧ True) ?_ ?_
  · replace H := hC
    by_cases h12 : 1 ≤ a1
    · replace H := ite_yes h12 H
      refine q_mv (v := Value.int .i64 a1) rfl ?_ (hw := guard_yes rfl rfl rfl (bool_yes h12))
      refine q_leq rfl rfl ?_ (hw := guard_yes rfl rfl rfl (bool_yes h12))
      refine q_pick true (v := Value.bool (decide (a1 ≤ 5))) (bool_yes h12) rfl ?_
      refine wpq_nil ?_
      cases H
      exact ⟨rfl, _, rfl, (Gh.le_refl _), ⟨rfl, trivial⟩, hI, trivial⟩
    · replace H := ite_no h12 H
      refine wpq_no (guard_no rfl rfl rfl (bool_no h12) rfl) ?_
      refine wpq_no (guard_no rfl rfl rfl (bool_no h12) rfl) ?_
      refine q_pick false (v := Value.bool false) (bool_no h12) rfl ?_
      refine wpq_nil ?_
      cases H
      exact ⟨rfl, _, rfl, (Gh.le_refl _), ⟨rfl, trivial⟩, hI, trivial⟩
  · clear hC
    rintro e r ds wd9 ⟨rfl, G7, rfl, hG8, hHas, hI10, _⟩
    rw [hHas.eq]; clear hHas
    refine q_as (v := Value.bool v6) rfl ?_
    refine wpq_nil ?_
    refine hK5 _ _ _ ?_
    refine wpc_ret ?_
    cases H
    exact ⟨.inr rfl, rfl, _, ⟨_, _, rfl, rfl, rfl⟩, _, hG8, hI10, rfl⟩
set_option maxHeartbeats 1000000 in
theorem breaks_small_spec {a1 : Int} {r1013 : Bool} {G : Gh} {L : List Itm} {w : World} (hI : Hp G (L) w) (H : breaks_small a1 = some r1013) :
    Calls Tryd.prog 25 [Value.int .u8 a1].toArray w fun e w' => ∃ (G' : Gh), G ≤ G' ∧ Hp G' (L) w' ∧ e = .returned (Value.bool r1013) := by
  refine calls_intro (N := 9) Tryd.func25 rfl rfl (Nat.le_of_ble_eq_true rfl) ?_
  unfold breaks_small at H
  refine wpc_seq_k fun K2 hK3 => ?_
  refine wpc_region ?_
  refine q_as (v := Value.bool false) rfl ?_
  refine wpq_nil ?_
  refine hK3 _ _ _ ?_
  refine wpc_seq_k fun K4 hK5 => ?_
  refine wpc_region ?_
  refine q_mv (v := Value.int .u8 a1) rfl ?_
  refine q_leq rfl rfl ?_
  refine q_mv (v := Value.bool (decide (97 ≤ a1))) rfl ?_
  obtain ⟨v6, hC, H⟩ := bind_some H
  refine wpq_split 3 (K := fun e r ds w => e = .normal ∧ ∃ (G7 : Gh), ds = [] ∧ G ≤ G7 ∧ Has [(8, Value.bool v6)] r ∧ Hp G7 (L) w ∧ True) ?_ ?_
  · replace H := hC
    by_cases h12 : 97 ≤ a1
    · replace H := ite_yes h12 H
      refine q_mv (v := Value.int .u8 a1) rfl ?_ (hw := guard_yes rfl rfl rfl (bool_yes h12))
      refine q_leq rfl rfl ?_ (hw := guard_yes rfl rfl rfl (bool_yes h12))
      refine q_pick true (v := Value.bool (decide (a1 ≤ 122))) (bool_yes h12) rfl ?_
      refine wpq_nil ?_
      cases H
      exact ⟨rfl, _, rfl, (Gh.le_refl _), ⟨rfl, trivial⟩, hI, trivial⟩
    · replace H := ite_no h12 H
      refine wpq_no (guard_no rfl rfl rfl (bool_no h12) rfl) ?_
      refine wpq_no (guard_no rfl rfl rfl (bool_no h12) rfl) ?_
      refine q_pick false (v := Value.bool false) (bool_no h12) rfl ?_
      refine wpq_nil ?_
      cases H
      exact ⟨rfl, _, rfl, (Gh.le_refl _), ⟨rfl, trivial⟩, hI, trivial⟩
  · clear hC
    rintro e r ds wd9 ⟨rfl, G7, rfl, hG8, hHas, hI10, _⟩
    rw [hHas.eq]; clear hHas
    refine q_as (v := Value.bool v6) rfl ?_
    refine wpq_nil ?_
    refine hK5 _ _ _ ?_
    refine wpc_ret ?_
    cases H
    exact ⟨.inr rfl, rfl, _, ⟨_, _, rfl, rfl, rfl⟩, _, hG8, hI10, rfl⟩
set_option maxHeartbeats 1000000 in
theorem breaks_Valid_spec {a1 : api_Breaks} {A2 : Option Addr} {c3 : Nat} {r1148 : Bool} {G : Gh} {L : List Itm} {w : World} (hI : Hp G (L) w) (hl4 : a1.Keep.length ≤ c3) (hD5 : Dat Kd.str G A2 a1.Keep) (H : breaks_Valid a1 = some r1148) :
    Calls Tryd.prog 12 [Value.agg [Value.int .i64 a1.Before, Value.int .i64 a1.Behind, Value.slice A2 a1.Keep.length c3].toArray].toArray w fun e w' => ∃ (G' : Gh), G ≤ G' ∧ Hp G' (L) w' ∧ e = .returned (Value.bool r1148) := by
  refine calls_intro (N := 53) Tryd.func12 rfl rfl (Nat.le_of_ble_eq_true rfl) ?_
  unfold breaks_Valid at H
  refine wpc_seq_k fun K6 hK7 => ?_
  refine wpc_region ?_
  refine q_box hI (v := Value.agg [Value.int .i64 a1.Before, Value.int .i64 a1.Behind, Value.slice A2 a1.Keep.length c3].toArray) (vs := [Value.int .i64 a1.Before, Value.int .i64 a1.Behind, Value.slice A2 a1.Keep.length c3]) rfl rfl (fun g9 wd10 hI11 => ?_)
  refine q_as (v := Value.bool false) rfl ?_
  refine wpq_nil ?_
  refine hK7 _ _ _ ?_
  refine wpc_seq_k fun K12 hK13 => ?_
  refine wpc_seq_k fun K14 hK15 => ?_
  refine wpc_region ?_
  refine q_fa (a' := ⟨g9, 0, none⟩) fl24_0 rfl (add_plain _ _ _) ?_
  refine q_ld hI11 0 (v := Value.int .i64 a1.Before) ag3 rfl rfl rfl ?_
  obtain ⟨y21, hy16, H⟩ := bind_some H
  refine q_cv (vs := [Value.int .i64 a1.Before]) bo24 rfl rfl (breaks_within_spec (a1 := a1.Before) hI11 hy16) ?_
  rintro _ wd19 ⟨G17, hG18, hI20, rfl⟩
  refine ⟨_, rfl, ?_⟩
  refine q_not rfl ?_
  refine q_mv (v := Value.bool (!y21)) rfl ?_
  obtain ⟨v22, hC, H⟩ := bind_some H
  refine wpq_split 5 (K := fun e r ds w => e = .normal ∧ ∃ (G23 : Gh), ds = [] ∧ G17 ≤ G23 ∧ Has [(1, Value.pointer (some ⟨g9, 0, none⟩)), (15, Value.bool v22)] r ∧ Hp G23 (bx g9 [Value.int .i64 a1.Before, Value.int .i64 a1.Behind, Value.slice A2 a1.Keep.length c3] 24 :: L) w ∧ True) ?_ ?_
  · replace H := hC
    by_cases h28 : (!y21) = true
    · replace H := ite_yes h28 H
      refine wpq_no (guard_no rfl rfl rfl (bval_yes h28) rfl) ?_
      refine wpq_no (guard_no rfl rfl rfl (bval_yes h28) rfl) ?_
      refine wpq_no (guard_no rfl rfl rfl (bval_yes h28) rfl) ?_
      refine wpq_no (guard_no rfl rfl rfl (bval_yes h28) rfl) ?_
      refine q_pick true (v := Value.bool true) (bval_yes h28) rfl ?_
      refine wpq_nil ?_
      cases H
      exact ⟨rfl, _, rfl, (Gh.le_refl _), ⟨rfl, rfl, trivial⟩, hI20, trivial⟩
    · replace H := ite_no h28 H
      refine q_fa (a' := ⟨g9, 1, none⟩) fl24_1 rfl (add_plain _ _ _) ?_ (hw := guard_yes rfl rfl rfl (bval_no h28))
      refine q_ld hI20 0 (v := Value.int .i64 a1.Behind) ag3 rfl rfl rfl ?_ (hw := guard_yes rfl rfl rfl (bval_no h28))
      obtain ⟨y34, hy29, H⟩ := bind_some H
      refine q_cv (vs := [Value.int .i64 a1.Behind]) bo24 rfl rfl (breaks_within_spec (a1 := a1.Behind) hI20 hy29) ?_ (hw := guard_yes rfl rfl rfl (bval_no h28))
      rintro _ wd32 ⟨G30, hG31, hI33, rfl⟩
      refine ⟨_, rfl, ?_⟩
      refine q_not rfl ?_ (hw := guard_yes rfl rfl rfl (bval_no h28))
      refine q_pick false (v := Value.bool (!y34)) (bval_no h28) rfl ?_
      refine wpq_nil ?_
      cases H
      exact ⟨rfl, _, rfl, hG31, ⟨rfl, rfl, trivial⟩, hI33, trivial⟩
  · clear hC
    rintro e r ds wd25 ⟨rfl, G23, rfl, hG24, hHas, hI26, _⟩
    rw [hHas.eq]; clear hHas
    refine q_mv (v := Value.bool v22) rfl ?_
    obtain ⟨v35, hC, H⟩ := bind_some H
    refine wpq_split 5 (K := fun e r ds w => e = .normal ∧ ∃ (G36 : Gh), ds = [] ∧ G23 ≤ G36 ∧ Has [(1, Value.pointer (some ⟨g9, 0, none⟩)), (21, Value.bool v35)] r ∧ Hp G36 (bx g9 [Value.int .i64 a1.Before, Value.int .i64 a1.Behind, Value.slice A2 a1.Keep.length c3] 24 :: L) w ∧ True) ?_ ?_
    · replace H := hC
      by_cases h41 : v22 = true
      · replace H := ite_yes h41 H
        refine wpq_no (guard_no rfl rfl rfl (bval_yes h41) rfl) ?_
        refine wpq_no (guard_no rfl rfl rfl (bval_yes h41) rfl) ?_
        refine wpq_no (guard_no rfl rfl rfl (bval_yes h41) rfl) ?_
        refine wpq_no (guard_no rfl rfl rfl (bval_yes h41) rfl) ?_
        refine q_pick true (v := Value.bool true) (bval_yes h41) rfl ?_
        refine wpq_nil ?_
        cases H
        exact ⟨rfl, _, rfl, (Gh.le_refl _), ⟨rfl, rfl, trivial⟩, hI26, trivial⟩
      · replace H := ite_no h41 H
        refine q_fa (a' := ⟨g9, 2, none⟩) fl24_2 rfl (add_plain _ _ _) ?_ (hw := guard_yes rfl rfl rfl (bval_no h41))
        refine q_ld hI26 0 (v := Value.slice A2 a1.Keep.length c3) ag22 rfl rfl rfl ?_ (hw := guard_yes rfl rfl rfl (bval_no h41))
        refine q_len so22 rfl ?_ (hw := guard_yes rfl rfl rfl (bval_no h41))
        refine q_gtr rfl rfl ?_ (hw := guard_yes rfl rfl rfl (bval_no h41))
        refine q_pick false (v := Value.bool (decide (20 < (a1.Keep.length : Int)))) (bval_no h41) rfl ?_
        refine wpq_nil ?_
        cases H
        exact ⟨rfl, _, rfl, (Gh.le_refl _), ⟨rfl, rfl, trivial⟩, hI26, trivial⟩
    · clear hC
      rintro e r ds wd38 ⟨rfl, G36, rfl, hG37, hHas, hI39, _⟩
      rw [hHas.eq]; clear hHas
      refine wpq_nil ?_
      refine hK15 _ _ _ ?_
      by_cases h42 : v35 = true
      · replace H := ite_yes h42 H
        refine wpc_true (bval_yes h42) ?_
        refine wpc_seq_k fun K43 hK44 => ?_
        refine wpc_region ?_
        refine q_as (v := Value.bool false) rfl ?_
        refine wpq_nil ?_
        refine hK44 _ _ _ ?_
        refine wpc_ret ?_
        have hI45 := Hp.sub (L := bx g9 [Value.int .i64 a1.Before, Value.int .i64 a1.Behind, Value.slice A2 a1.Keep.length c3] 24 :: L) (L' := L) hI39 (List.Sublist.cons _ (List.Sublist.refl _))
        cases H
        exact ⟨.inr rfl, rfl, _, ⟨_, _, rfl, rfl, rfl⟩, _, (Gh.le_trans (Gh.le_trans hG18 hG24) hG37), hI45, rfl⟩
      · replace H := ite_no h42 H
        refine wpc_false (bval_no h42) ?_
        refine wpc_skip ?_
        refine hK13 _ _ _ ?_
        refine wpc_seq_k fun K46 hK47 => ?_
        refine wpc_region ?_
        refine q_mmk (α := ByteArray) (β := Bool) Value.string Value.bool hI39 (fun g49 wd50 hI51 => ?_)
        refine q_as (v := Value.map (some g49)) rfl ?_
        refine wpq_nil ?_
        refine hK47 _ _ _ ?_
        refine wpc_seq_k fun K52 hK53 => ?_
        refine wpc_seq_k fun K54 hK55 => ?_
        refine wpc_region ?_
        refine q_fa (a' := ⟨g9, 2, none⟩) fl24_2 rfl (add_plain _ _ _) ?_
        refine q_ld hI51 1 (v := Value.slice A2 a1.Keep.length c3) ag22 rfl rfl rfl ?_
        refine q_len so22 rfl ?_
        refine q_mv (v := Value.int .i64 0) rfl ?_
        refine wpq_nil ?_
        refine hK55 _ _ _ ?_
        refine wpc_block ?_
        obtain ⟨o79, hC, H⟩ := bind_some H
        refine wpc_mono (Q := fun e r ds w => match (generalizing := false) o79 with | (Sum.inl v69) => e = .ret ∧ ∃ (G71 : Gh), ds = [] ∧ G36 ≤ G71 ∧ Has [(2, Value.bool false)] r ∧ Hp G71 (mpI g49 Value.string Value.bool v69 :: bx g9 [Value.int .i64 a1.Before, Value.int .i64 a1.Behind, Value.slice A2 a1.Keep.length c3] 24 :: L) w ∧ True | (Sum.inr v70) => e = .exit 0 ∧ ∃ (G75 : Gh), ds = [] ∧ G36 ≤ G75 ∧ Has [] r ∧ Hp G75 (mpI g49 Value.string Value.bool v70 :: bx g9 [Value.int .i64 a1.Before, Value.int .i64 a1.Behind, Value.slice A2 a1.Keep.length c3] 24 :: L) w ∧ True) ?_ ?_
        · clear H
          refine wpc_loop fun I hLp => ?_
          refine breaks_Valid_l68.partial_correctness a1 (fun v60 v61 o => ∀ (G80 : Gh) (r : Rg) (w : World), G36 ≤ G80 → Has [(3, Value.map (some g49)), (24, Value.slice A2 a1.Keep.length c3), (25, Value.int .i64 (a1.Keep.length : Int)), (26, Value.int .i64 v60)] r → Hp G80 (mpI g49 Value.string Value.bool v61 :: bx g9 [Value.int .i64 a1.Before, Value.int .i64 a1.Behind, Value.slice A2 a1.Keep.length c3] 24 :: L) w → o = o79 → I r [] w) ?_ 0 ([] : List (ByteArray × Bool)) _ hC _ _ _ (Gh.le_refl _) ⟨rfl, rfl, rfl, rfl, trivial⟩ hI51 rfl
          intro _ ih v60 v61 o H G80 r wd82 hG81 hHas hI83 ho
          rw [ho] at H; clear ho
          rw [hHas.eq]; clear hHas
          refine hLp _ _ _ ?_
          refine wpc_seq_k fun K84 hK85 => ?_
          refine wpc_region ?_
          refine q_lss rfl rfl ?_
          refine wpq_nil ?_
          refine hK85 _ _ _ ?_
          refine wpc_seq_k fun K86 hK87 => ?_
          by_cases h88 : v60 < (a1.Keep.length : Int)
          · replace H := ite_yes h88 H
            refine wpc_true (bool_yes h88) ?_
            refine wpc_skip ?_
            refine hK87 _ _ _ ?_
            refine wpc_seq_k fun K89 hK90 => ?_
            refine wpc_block ?_
            refine wpc_seq_k fun K91 hK92 => ?_
            refine wpc_region ?_
            obtain ⟨⟨h93, h93'⟩, H⟩ := ite_some H
            obtain ⟨ad94, cs95, hA96, hK97, hn98, hc99⟩ := Dat.get (Dat.mono (Gh.le_trans (Gh.le_trans (Gh.le_trans hG18 hG24) hG37) hG81) hD5) (⟨#[]⟩ : ByteArray) (v60) h93 h93'
            obtain rfl := hK97
            refine q_ia el22 rfl hA96 rfl h93 h93' ?_
            refine q_lf hI83 (v := Value.string (a1.Keep.getD (Int.toNat v60) (⟨#[]⟩ : ByteArray))) ag9 rfl ((Gh.le_refl _).cel _ _ (hc99 0 _ rfl)) ?_
            refine q_as (v := Value.string (a1.Keep.getD (Int.toNat v60) (⟨#[]⟩ : ByteArray))) rfl ?_
            refine wpq_nil ?_
            refine hK92 _ _ _ ?_
            refine wpc_seq_k fun K100 hK101 => ?_
            refine wpc_seq_k fun K102 hK103 => ?_
            refine wpc_region ?_
            refine q_mv (v := Value.string (a1.Keep.getD (Int.toNat v60) (⟨#[]⟩ : ByteArray))) rfl ?_
            refine q_lens so9 rfl ?_
            refine q_neq rfl rfl ?_
            refine q_mv (v := Value.bool (decide (¬ ((a1.Keep.getD (Int.toNat v60) (⟨#[]⟩ : ByteArray)).size : Int) = 2))) rfl ?_
            obtain ⟨v104, hC, H⟩ := bind_some H
            refine wpq_split 5 (K := fun e r ds w => e = .normal ∧ ∃ (G105 : Gh), ds = [] ∧ G80 ≤ G105 ∧ Has [(3, Value.map (some g49)), (5, Value.string (a1.Keep.getD (Int.toNat v60) (⟨#[]⟩ : ByteArray))), (24, Value.slice A2 a1.Keep.length c3), (25, Value.int .i64 (a1.Keep.length : Int)), (26, Value.int .i64 v60), (38, Value.bool v104)] r ∧ Hp G105 (mpI g49 Value.string Value.bool v61 :: bx g9 [Value.int .i64 a1.Before, Value.int .i64 a1.Behind, Value.slice A2 a1.Keep.length c3] 24 :: L) w ∧ True) ?_ ?_
            · replace H := hC
              by_cases h110 : ¬ ((a1.Keep.getD (Int.toNat v60) (⟨#[]⟩ : ByteArray)).size : Int) = 2
              · replace H := ite_yes h110 H
                refine wpq_no (guard_no rfl rfl rfl (bool_yes h110) rfl) ?_
                refine wpq_no (guard_no rfl rfl rfl (bool_yes h110) rfl) ?_
                refine wpq_no (guard_no rfl rfl rfl (bool_yes h110) rfl) ?_
                refine wpq_no (guard_no rfl rfl rfl (bool_yes h110) rfl) ?_
                refine q_pick true (v := Value.bool true) (bool_yes h110) rfl ?_
                refine wpq_nil ?_
                cases H
                exact ⟨rfl, _, rfl, (Gh.le_refl _), ⟨rfl, rfl, rfl, rfl, rfl, rfl, trivial⟩, hI83, trivial⟩
              · replace H := ite_no h110 H
                refine q_mv (v := Value.string (a1.Keep.getD (Int.toNat v60) (⟨#[]⟩ : ByteArray))) rfl ?_ (hw := guard_yes rfl rfl rfl (bool_no h110))
                obtain ⟨⟨h111, h111'⟩, H⟩ := ite_some H
                refine q_is so9 rfl rfl h111 h111' rfl ?_ (hw := guard_yes rfl rfl rfl (bool_no h110))
                obtain ⟨y117, hy112, H⟩ := bind_some H
                refine q_cv (vs := [Value.int .u8 (bt (a1.Keep.getD (Int.toNat v60) (⟨#[]⟩ : ByteArray)) 0)]) bo25 rfl rfl (breaks_small_spec (a1 := bt (a1.Keep.getD (Int.toNat v60) (⟨#[]⟩ : ByteArray)) 0) hI83 hy112) ?_ (hw := guard_yes rfl rfl rfl (bool_no h110))
                rintro _ wd115 ⟨G113, hG114, hI116, rfl⟩
                refine ⟨_, rfl, ?_⟩
                refine q_not rfl ?_ (hw := guard_yes rfl rfl rfl (bool_no h110))
                refine q_pick false (v := Value.bool (!y117)) (bool_no h110) rfl ?_
                refine wpq_nil ?_
                cases H
                exact ⟨rfl, _, rfl, hG114, ⟨rfl, rfl, rfl, rfl, rfl, rfl, trivial⟩, hI116, trivial⟩
            · clear hC
              rintro e r ds wd107 ⟨rfl, G105, rfl, hG106, hHas, hI108, _⟩
              rw [hHas.eq]; clear hHas
              refine q_mv (v := Value.bool v104) rfl ?_
              obtain ⟨v118, hC, H⟩ := bind_some H
              refine wpq_split 5 (K := fun e r ds w => e = .normal ∧ ∃ (G119 : Gh), ds = [] ∧ G105 ≤ G119 ∧ Has [(3, Value.map (some g49)), (5, Value.string (a1.Keep.getD (Int.toNat v60) (⟨#[]⟩ : ByteArray))), (24, Value.slice A2 a1.Keep.length c3), (25, Value.int .i64 (a1.Keep.length : Int)), (26, Value.int .i64 v60), (44, Value.bool v118)] r ∧ Hp G119 (mpI g49 Value.string Value.bool v61 :: bx g9 [Value.int .i64 a1.Before, Value.int .i64 a1.Behind, Value.slice A2 a1.Keep.length c3] 24 :: L) w ∧ True) ?_ ?_
              · replace H := hC
                by_cases h124 : v104 = true
                · replace H := ite_yes h124 H
                  refine wpq_no (guard_no rfl rfl rfl (bval_yes h124) rfl) ?_
                  refine wpq_no (guard_no rfl rfl rfl (bval_yes h124) rfl) ?_
                  refine wpq_no (guard_no rfl rfl rfl (bval_yes h124) rfl) ?_
                  refine wpq_no (guard_no rfl rfl rfl (bval_yes h124) rfl) ?_
                  refine q_pick true (v := Value.bool true) (bval_yes h124) rfl ?_
                  refine wpq_nil ?_
                  cases H
                  exact ⟨rfl, _, rfl, (Gh.le_refl _), ⟨rfl, rfl, rfl, rfl, rfl, rfl, trivial⟩, hI108, trivial⟩
                · replace H := ite_no h124 H
                  refine q_mv (v := Value.string (a1.Keep.getD (Int.toNat v60) (⟨#[]⟩ : ByteArray))) rfl ?_ (hw := guard_yes rfl rfl rfl (bval_no h124))
                  obtain ⟨⟨h125, h125'⟩, H⟩ := ite_some H
                  refine q_is so9 rfl rfl h125 h125' rfl ?_ (hw := guard_yes rfl rfl rfl (bval_no h124))
                  obtain ⟨y131, hy126, H⟩ := bind_some H
                  refine q_cv (vs := [Value.int .u8 (bt (a1.Keep.getD (Int.toNat v60) (⟨#[]⟩ : ByteArray)) 1)]) bo25 rfl rfl (breaks_small_spec (a1 := bt (a1.Keep.getD (Int.toNat v60) (⟨#[]⟩ : ByteArray)) 1) hI108 hy126) ?_ (hw := guard_yes rfl rfl rfl (bval_no h124))
                  rintro _ wd129 ⟨G127, hG128, hI130, rfl⟩
                  refine ⟨_, rfl, ?_⟩
                  refine q_not rfl ?_ (hw := guard_yes rfl rfl rfl (bval_no h124))
                  refine q_pick false (v := Value.bool (!y131)) (bval_no h124) rfl ?_
                  refine wpq_nil ?_
                  cases H
                  exact ⟨rfl, _, rfl, hG128, ⟨rfl, rfl, rfl, rfl, rfl, rfl, trivial⟩, hI130, trivial⟩
              · clear hC
                rintro e r ds wd121 ⟨rfl, G119, rfl, hG120, hHas, hI122, _⟩
                rw [hHas.eq]; clear hHas
                refine q_mv (v := Value.bool v118) rfl ?_
                obtain ⟨v132, hC, H⟩ := bind_some H
                refine wpq_split 4 (K := fun e r ds w => e = .normal ∧ ∃ (G133 : Gh), ds = [] ∧ G119 ≤ G133 ∧ Has [(3, Value.map (some g49)), (5, Value.string (a1.Keep.getD (Int.toNat v60) (⟨#[]⟩ : ByteArray))), (24, Value.slice A2 a1.Keep.length c3), (25, Value.int .i64 (a1.Keep.length : Int)), (26, Value.int .i64 v60), (49, Value.bool v132)] r ∧ Hp G133 (mpI g49 Value.string Value.bool v61 :: bx g9 [Value.int .i64 a1.Before, Value.int .i64 a1.Behind, Value.slice A2 a1.Keep.length c3] 24 :: L) w ∧ True) ?_ ?_
                · replace H := hC
                  by_cases h138 : v118 = true
                  · replace H := ite_yes h138 H
                    refine wpq_no (guard_no rfl rfl rfl (bval_yes h138) rfl) ?_
                    refine wpq_no (guard_no rfl rfl rfl (bval_yes h138) rfl) ?_
                    refine wpq_no (guard_no rfl rfl rfl (bval_yes h138) rfl) ?_
                    refine q_pick true (v := Value.bool true) (bval_yes h138) rfl ?_
                    refine wpq_nil ?_
                    cases H
                    exact ⟨rfl, _, rfl, (Gh.le_refl _), ⟨rfl, rfl, rfl, rfl, rfl, rfl, trivial⟩, hI122, trivial⟩
                  · replace H := ite_no h138 H
                    refine q_mv (v := Value.map (some g49)) rfl ?_ (hw := guard_yes rfl rfl rfl (bval_no h138))
                    refine q_mv (v := Value.string (a1.Keep.getD (Int.toNat v60) (⟨#[]⟩ : ByteArray))) rfl ?_ (hw := guard_yes rfl rfl rfl (bval_no h138))
                    refine q_mlk (zv := false) hI122 0 mt43 (ky_str so9) zv4 rfl rfl rfl ?_ (hw := guard_yes rfl rfl rfl (bval_no h138))
                    refine q_pick false (v := Value.bool ((mget v61 (a1.Keep.getD (Int.toNat v60) (⟨#[]⟩ : ByteArray))).getD false)) (bval_no h138) rfl ?_
                    refine wpq_nil ?_
                    cases H
                    exact ⟨rfl, _, rfl, (Gh.le_refl _), ⟨rfl, rfl, rfl, rfl, rfl, rfl, trivial⟩, hI122, trivial⟩
                · clear hC
                  rintro e r ds wd135 ⟨rfl, G133, rfl, hG134, hHas, hI136, _⟩
                  rw [hHas.eq]; clear hHas
                  refine wpq_nil ?_
                  refine hK103 _ _ _ ?_
                  by_cases h139 : v132 = true
                  · replace H := ite_yes h139 H
                    refine wpc_true (bval_yes h139) ?_
                    refine wpc_seq_k fun K140 hK141 => ?_
                    refine wpc_region ?_
                    refine q_as (v := Value.bool false) rfl ?_
                    refine wpq_nil ?_
                    refine hK141 _ _ _ ?_
                    refine wpc_ret ?_
                    cases H
                    exact ⟨rfl, _, rfl, (Gh.le_trans (Gh.le_trans (Gh.le_trans hG81 hG106) hG120) hG134), ⟨rfl, trivial⟩, hI136, trivial⟩
                  · replace H := ite_no h139 H
                    refine wpc_false (bval_no h139) ?_
                    refine wpc_skip ?_
                    refine hK101 _ _ _ ?_
                    refine wpc_region ?_
                    refine q_mv (v := Value.map (some g49)) rfl ?_
                    refine q_mv (v := Value.string (a1.Keep.getD (Int.toNat v60) (⟨#[]⟩ : ByteArray))) rfl ?_
                    refine q_mup (b := true) hI136 0 mt43 (ky_str so9) rfl rfl rfl rfl (fun wd142 hI143 => ?_)
                    refine wpq_nil ?_
                    refine hK90 _ _ _ ?_
                    refine wpc_region ?_
                    refine q_add rfl rfl ?_
                    refine q_mv (v := Value.int .i64 (w64 (v60 + 1))) rfl ?_
                    refine wpq_nil ?_
                    exact ih _ _ _ H _ _ _ (Gh.le_trans (Gh.le_trans (Gh.le_trans hG81 hG106) hG120) hG134) ⟨rfl, rfl, rfl, rfl, trivial⟩ hI143 rfl
          · replace H := ite_no h88 H
            refine wpc_false (bool_no h88) ?_
            refine wpc_exit ?_
            cases H
            exact ⟨rfl, _, rfl, hG81, trivial, hI83, trivial⟩
        · clear hC
          rcases o79 with v69 | v70
          · rintro e r ds wd73 ⟨rfl, G71, rfl, hG72, hHas, hI74, _⟩
            rw [hHas.eq]; clear hHas
            have hI144 := Hp.sub (L := mpI g49 Value.string Value.bool v69 :: bx g9 [Value.int .i64 a1.Before, Value.int .i64 a1.Behind, Value.slice A2 a1.Keep.length c3] 24 :: L) (L' := L) hI74 (List.Sublist.cons _ (List.Sublist.cons _ (List.Sublist.refl _)))
            cases H
            exact ⟨.inr rfl, rfl, _, ⟨_, _, rfl, rfl, rfl⟩, _, (Gh.le_trans (Gh.le_trans (Gh.le_trans hG18 hG24) hG37) hG72), hI144, rfl⟩
          · rintro e r ds wd77 ⟨rfl, G75, rfl, hG76, hHas, hI78, _⟩
            rw [hHas.eq]; clear hHas
            refine hK53 _ _ _ ?_
            refine wpc_seq_k fun K145 hK146 => ?_
            refine wpc_region ?_
            refine q_as (v := Value.bool true) rfl ?_
            refine wpq_nil ?_
            refine hK146 _ _ _ ?_
            refine wpc_ret ?_
            have hI147 := Hp.sub (L := mpI g49 Value.string Value.bool v70 :: bx g9 [Value.int .i64 a1.Before, Value.int .i64 a1.Behind, Value.slice A2 a1.Keep.length c3] 24 :: L) (L' := L) hI78 (List.Sublist.cons _ (List.Sublist.cons _ (List.Sublist.refl _)))
            cases H
            exact ⟨.inr rfl, rfl, _, ⟨_, _, rfl, rfl, rfl⟩, _, (Gh.le_trans (Gh.le_trans (Gh.le_trans hG18 hG24) hG37) hG76), hI147, rfl⟩
set_option maxHeartbeats 1000000 in
theorem text_Class_spec {a1 : Int} {r1066 : Int} {G : Gh} {L : List Itm} {w : World} (hI : Hp G (L) w) (H : text_Class a1 = some r1066) :
    Calls Tryd.prog 31 [Value.int .u8 a1].toArray w fun e w' => ∃ (G' : Gh), G ≤ G' ∧ Hp G' (L) w' ∧ e = .returned (Value.int .i64 r1066) := by
  refine calls_intro (N := 37) Tryd.func31 rfl rfl (Nat.le_of_ble_eq_true rfl) ?_
  unfold text_Class at H
  refine wpc_seq_k fun K2 hK3 => ?_
  refine wpc_region ?_
  refine q_as (v := Value.int .i64 0) rfl ?_
  refine wpq_nil ?_
  refine hK3 _ _ _ ?_
  refine wpc_seq_k fun K4 hK5 => ?_
  refine wpc_block ?_
  refine wpc_seq_k fun K6 hK7 => ?_
  refine wpc_region ?_
  refine q_mv (v := Value.int .u8 a1) rfl ?_
  refine q_eql rfl rfl ?_
  refine q_as (v := Value.bool (decide (a1 = 32))) rfl ?_
  refine wpq_nil ?_
  refine hK7 _ _ _ ?_
  by_cases h8 : a1 = 32
  · replace H := ite_yes h8 H
    refine wpc_true (bool_yes h8) ?_
    refine wpc_seq_k fun K9 hK10 => ?_
    refine wpc_region ?_
    refine q_as (v := Value.int .i64 4) rfl ?_
    refine wpq_nil ?_
    refine hK10 _ _ _ ?_
    refine wpc_ret ?_
    cases H
    exact ⟨.inr rfl, rfl, _, ⟨_, _, rfl, rfl, rfl⟩, _, (Gh.le_refl _), hI, rfl⟩
  · replace H := ite_no h8 H
    refine wpc_false (bool_no h8) ?_
    refine wpc_seq_k fun K11 hK12 => ?_
    refine wpc_region ?_
    refine q_mv (v := Value.int .u8 a1) rfl ?_
    refine q_eql rfl rfl ?_
    refine q_as (v := Value.bool (decide (a1 = 126))) rfl ?_
    refine wpq_nil ?_
    refine hK12 _ _ _ ?_
    by_cases h13 : a1 = 126
    · replace H := ite_yes h13 H
      refine wpc_true (bool_yes h13) ?_
      refine wpc_seq_k fun K14 hK15 => ?_
      refine wpc_region ?_
      refine q_as (v := Value.int .i64 6) rfl ?_
      refine wpq_nil ?_
      refine hK15 _ _ _ ?_
      refine wpc_ret ?_
      cases H
      exact ⟨.inr rfl, rfl, _, ⟨_, _, rfl, rfl, rfl⟩, _, (Gh.le_refl _), hI, rfl⟩
    · replace H := ite_no h13 H
      refine wpc_false (bool_no h13) ?_
      refine wpc_seq_k fun K16 hK17 => ?_
      refine wpc_region ?_
      refine q_mv (v := Value.int .u8 a1) rfl ?_
      refine q_lss rfl rfl ?_
      refine q_mv (v := Value.bool (decide (a1 < 32))) rfl ?_
      obtain ⟨v18, hC, H⟩ := bind_some H
      refine wpq_split 3 (K := fun e r ds w => e = .normal ∧ ∃ (G19 : Gh), ds = [] ∧ G ≤ G19 ∧ Has [(0, Value.int .u8 a1), (15, Value.bool v18)] r ∧ Hp G19 (L) w ∧ True) ?_ ?_
      · replace H := hC
        by_cases h24 : a1 < 32
        · replace H := ite_yes h24 H
          refine wpq_no (guard_no rfl rfl rfl (bool_yes h24) rfl) ?_
          refine wpq_no (guard_no rfl rfl rfl (bool_yes h24) rfl) ?_
          refine q_pick true (v := Value.bool true) (bool_yes h24) rfl ?_
          refine wpq_nil ?_
          cases H
          exact ⟨rfl, _, rfl, (Gh.le_refl _), ⟨rfl, rfl, trivial⟩, hI, trivial⟩
        · replace H := ite_no h24 H
          refine q_mv (v := Value.int .u8 a1) rfl ?_ (hw := guard_yes rfl rfl rfl (bool_no h24))
          refine q_gtr rfl rfl ?_ (hw := guard_yes rfl rfl rfl (bool_no h24))
          refine q_pick false (v := Value.bool (decide (126 < a1))) (bool_no h24) rfl ?_
          refine wpq_nil ?_
          cases H
          exact ⟨rfl, _, rfl, (Gh.le_refl _), ⟨rfl, rfl, trivial⟩, hI, trivial⟩
      · clear hC
        rintro e r ds wd21 ⟨rfl, G19, rfl, hG20, hHas, hI22, _⟩
        rw [hHas.eq]; clear hHas
        refine q_as (v := Value.bool v18) rfl ?_
        refine wpq_nil ?_
        refine hK17 _ _ _ ?_
        by_cases h25 : v18 = true
        · replace H := ite_yes h25 H
          refine wpc_true (bval_yes h25) ?_
          refine wpc_seq_k fun K26 hK27 => ?_
          refine wpc_region ?_
          refine q_as (v := Value.int .i64 0) rfl ?_
          refine wpq_nil ?_
          refine hK27 _ _ _ ?_
          refine wpc_ret ?_
          cases H
          exact ⟨.inr rfl, rfl, _, ⟨_, _, rfl, rfl, rfl⟩, _, hG20, hI22, rfl⟩
        · replace H := ite_no h25 H
          refine wpc_false (bval_no h25) ?_
          refine wpc_seq_k fun K28 hK29 => ?_
          refine wpc_region ?_
          refine q_mv (v := Value.int .u8 a1) rfl ?_
          refine q_leq rfl rfl ?_
          refine q_mv (v := Value.bool (decide (97 ≤ a1))) rfl ?_
          obtain ⟨v30, hC, H⟩ := bind_some H
          refine wpq_split 3 (K := fun e r ds w => e = .normal ∧ ∃ (G31 : Gh), ds = [] ∧ G19 ≤ G31 ∧ Has [(0, Value.int .u8 a1), (22, Value.bool v30)] r ∧ Hp G31 (L) w ∧ True) ?_ ?_
          · replace H := hC
            by_cases h36 : 97 ≤ a1
            · replace H := ite_yes h36 H
              refine q_mv (v := Value.int .u8 a1) rfl ?_ (hw := guard_yes rfl rfl rfl (bool_yes h36))
              refine q_leq rfl rfl ?_ (hw := guard_yes rfl rfl rfl (bool_yes h36))
              refine q_pick true (v := Value.bool (decide (a1 ≤ 122))) (bool_yes h36) rfl ?_
              refine wpq_nil ?_
              cases H
              exact ⟨rfl, _, rfl, (Gh.le_refl _), ⟨rfl, rfl, trivial⟩, hI22, trivial⟩
            · replace H := ite_no h36 H
              refine wpq_no (guard_no rfl rfl rfl (bool_no h36) rfl) ?_
              refine wpq_no (guard_no rfl rfl rfl (bool_no h36) rfl) ?_
              refine q_pick false (v := Value.bool false) (bool_no h36) rfl ?_
              refine wpq_nil ?_
              cases H
              exact ⟨rfl, _, rfl, (Gh.le_refl _), ⟨rfl, rfl, trivial⟩, hI22, trivial⟩
          · clear hC
            rintro e r ds wd33 ⟨rfl, G31, rfl, hG32, hHas, hI34, _⟩
            rw [hHas.eq]; clear hHas
            refine q_as (v := Value.bool v30) rfl ?_
            refine wpq_nil ?_
            refine hK29 _ _ _ ?_
            by_cases h37 : v30 = true
            · replace H := ite_yes h37 H
              refine wpc_true (bval_yes h37) ?_
              refine wpc_seq_k fun K38 hK39 => ?_
              refine wpc_region ?_
              refine q_as (v := Value.int .i64 1) rfl ?_
              refine wpq_nil ?_
              refine hK39 _ _ _ ?_
              refine wpc_ret ?_
              cases H
              exact ⟨.inr rfl, rfl, _, ⟨_, _, rfl, rfl, rfl⟩, _, (Gh.le_trans hG20 hG32), hI34, rfl⟩
            · replace H := ite_no h37 H
              refine wpc_false (bval_no h37) ?_
              refine wpc_seq_k fun K40 hK41 => ?_
              refine wpc_region ?_
              refine q_mv (v := Value.int .u8 a1) rfl ?_
              refine q_leq rfl rfl ?_
              refine q_mv (v := Value.bool (decide (65 ≤ a1))) rfl ?_
              obtain ⟨v42, hC, H⟩ := bind_some H
              refine wpq_split 3 (K := fun e r ds w => e = .normal ∧ ∃ (G43 : Gh), ds = [] ∧ G31 ≤ G43 ∧ Has [(0, Value.int .u8 a1), (29, Value.bool v42)] r ∧ Hp G43 (L) w ∧ True) ?_ ?_
              · replace H := hC
                by_cases h48 : 65 ≤ a1
                · replace H := ite_yes h48 H
                  refine q_mv (v := Value.int .u8 a1) rfl ?_ (hw := guard_yes rfl rfl rfl (bool_yes h48))
                  refine q_leq rfl rfl ?_ (hw := guard_yes rfl rfl rfl (bool_yes h48))
                  refine q_pick true (v := Value.bool (decide (a1 ≤ 90))) (bool_yes h48) rfl ?_
                  refine wpq_nil ?_
                  cases H
                  exact ⟨rfl, _, rfl, (Gh.le_refl _), ⟨rfl, rfl, trivial⟩, hI34, trivial⟩
                · replace H := ite_no h48 H
                  refine wpq_no (guard_no rfl rfl rfl (bool_no h48) rfl) ?_
                  refine wpq_no (guard_no rfl rfl rfl (bool_no h48) rfl) ?_
                  refine q_pick false (v := Value.bool false) (bool_no h48) rfl ?_
                  refine wpq_nil ?_
                  cases H
                  exact ⟨rfl, _, rfl, (Gh.le_refl _), ⟨rfl, rfl, trivial⟩, hI34, trivial⟩
              · clear hC
                rintro e r ds wd45 ⟨rfl, G43, rfl, hG44, hHas, hI46, _⟩
                rw [hHas.eq]; clear hHas
                refine q_as (v := Value.bool v42) rfl ?_
                refine wpq_nil ?_
                refine hK41 _ _ _ ?_
                by_cases h49 : v42 = true
                · replace H := ite_yes h49 H
                  refine wpc_true (bval_yes h49) ?_
                  refine wpc_seq_k fun K50 hK51 => ?_
                  refine wpc_region ?_
                  refine q_as (v := Value.int .i64 2) rfl ?_
                  refine wpq_nil ?_
                  refine hK51 _ _ _ ?_
                  refine wpc_ret ?_
                  cases H
                  exact ⟨.inr rfl, rfl, _, ⟨_, _, rfl, rfl, rfl⟩, _, (Gh.le_trans (Gh.le_trans hG20 hG32) hG44), hI46, rfl⟩
                · replace H := ite_no h49 H
                  refine wpc_false (bval_no h49) ?_
                  refine wpc_seq_k fun K52 hK53 => ?_
                  refine wpc_region ?_
                  refine q_mv (v := Value.int .u8 a1) rfl ?_
                  refine q_leq rfl rfl ?_
                  refine q_mv (v := Value.bool (decide (48 ≤ a1))) rfl ?_
                  obtain ⟨v54, hC, H⟩ := bind_some H
                  refine wpq_split 3 (K := fun e r ds w => e = .normal ∧ ∃ (G55 : Gh), ds = [] ∧ G43 ≤ G55 ∧ Has [(36, Value.bool v54)] r ∧ Hp G55 (L) w ∧ True) ?_ ?_
                  · replace H := hC
                    by_cases h60 : 48 ≤ a1
                    · replace H := ite_yes h60 H
                      refine q_mv (v := Value.int .u8 a1) rfl ?_ (hw := guard_yes rfl rfl rfl (bool_yes h60))
                      refine q_leq rfl rfl ?_ (hw := guard_yes rfl rfl rfl (bool_yes h60))
                      refine q_pick true (v := Value.bool (decide (a1 ≤ 57))) (bool_yes h60) rfl ?_
                      refine wpq_nil ?_
                      cases H
                      exact ⟨rfl, _, rfl, (Gh.le_refl _), ⟨rfl, trivial⟩, hI46, trivial⟩
                    · replace H := ite_no h60 H
                      refine wpq_no (guard_no rfl rfl rfl (bool_no h60) rfl) ?_
                      refine wpq_no (guard_no rfl rfl rfl (bool_no h60) rfl) ?_
                      refine q_pick false (v := Value.bool false) (bool_no h60) rfl ?_
                      refine wpq_nil ?_
                      cases H
                      exact ⟨rfl, _, rfl, (Gh.le_refl _), ⟨rfl, trivial⟩, hI46, trivial⟩
                  · clear hC
                    rintro e r ds wd57 ⟨rfl, G55, rfl, hG56, hHas, hI58, _⟩
                    rw [hHas.eq]; clear hHas
                    refine q_as (v := Value.bool v54) rfl ?_
                    refine wpq_nil ?_
                    refine hK53 _ _ _ ?_
                    by_cases h61 : v54 = true
                    · replace H := ite_yes h61 H
                      refine wpc_true (bval_yes h61) ?_
                      refine wpc_seq_k fun K62 hK63 => ?_
                      refine wpc_region ?_
                      refine q_as (v := Value.int .i64 3) rfl ?_
                      refine wpq_nil ?_
                      refine hK63 _ _ _ ?_
                      refine wpc_ret ?_
                      cases H
                      exact ⟨.inr rfl, rfl, _, ⟨_, _, rfl, rfl, rfl⟩, _, (Gh.le_trans (Gh.le_trans (Gh.le_trans hG20 hG32) hG44) hG56), hI58, rfl⟩
                    · replace H := ite_no h61 H
                      refine wpc_false (bval_no h61) ?_
                      refine wpc_skip ?_
                      refine hK5 _ _ _ ?_
                      refine wpc_seq_k fun K64 hK65 => ?_
                      refine wpc_region ?_
                      refine q_as (v := Value.int .i64 5) rfl ?_
                      refine wpq_nil ?_
                      refine hK65 _ _ _ ?_
                      refine wpc_ret ?_
                      cases H
                      exact ⟨.inr rfl, rfl, _, ⟨_, _, rfl, rfl, rfl⟩, _, (Gh.le_trans (Gh.le_trans (Gh.le_trans hG20 hG32) hG44) hG56), hI58, rfl⟩
set_option maxHeartbeats 1000000 in
theorem text_Valid_spec {a1 : ByteArray} {r1071 : Bool} {G : Gh} {L : List Itm} {w : World} (hI : Hp G (L) w) (H : text_Valid a1 = some r1071) :
    Calls Tryd.prog 30 [Value.string a1].toArray w fun e w' => ∃ (G' : Gh), G ≤ G' ∧ Hp G' (L) w' ∧ e = .returned (Value.bool r1071) := by
  refine calls_intro (N := 21) Tryd.func30 rfl rfl (Nat.le_of_ble_eq_true rfl) ?_
  unfold text_Valid at H
  refine wpc_seq_k fun K2 hK3 => ?_
  refine wpc_region ?_
  refine q_as (v := Value.bool false) rfl ?_
  refine wpq_nil ?_
  refine hK3 _ _ _ ?_
  refine wpc_seq_k fun K4 hK5 => ?_
  refine wpc_seq_k fun K6 hK7 => ?_
  refine wpc_region ?_
  refine q_mv (v := Value.string a1) rfl ?_
  refine q_rgs hI so9 rfl (fun g9 wd10 hI11 => ?_)
  refine wpq_nil ?_
  refine hK7 _ _ _ ?_
  refine wpc_block ?_
  obtain ⟨o33, hC, H⟩ := bind_some H
  refine wpc_mono (Q := fun e r ds w => match (generalizing := false) o33 with | (Sum.inl v23) => e = .ret ∧ ∃ (G25 : Gh), ds = [] ∧ G ≤ G25 ∧ Has [(2, Value.bool false)] r ∧ Hp G25 (ob g9 (Obj.stringIter a1 v23) :: L) w ∧ True | (Sum.inr v24) => e = .exit 0 ∧ ∃ (G29 : Gh), ds = [] ∧ G ≤ G29 ∧ Has [(0, Value.string a1)] r ∧ Hp G29 (ob g9 (Obj.stringIter a1 v24) :: L) w ∧ True) ?_ ?_
  · clear H
    refine wpc_loop fun I hLp => ?_
    refine text_Valid_l22.partial_correctness a1 (fun v16 o => ∀ (G34 : Gh) (r : Rg) (w : World), G ≤ G34 → Has [(0, Value.string a1), (6, Value.pointer (some ⟨g9, 0, none⟩))] r → Hp G34 (ob g9 (Obj.stringIter a1 v16) :: L) w → o = o33 → I r [] w) ?_ 0 _ hC _ _ _ (Gh.le_refl _) ⟨rfl, rfl, trivial⟩ hI11 rfl
    intro _ ih v16 o H G34 r wd36 hG35 hHas hI37 ho
    rw [ho] at H; clear ho
    rw [hHas.eq]; clear hHas
    refine hLp _ _ _ ?_
    refine wpc_seq_k fun K38 hK39 => ?_
    refine wpc_region ?_
    by_cases h40 : v16 < a1.size
    · replace H := ite_yes h40 H
      refine q_nxy hI37 0 rfl rfl h40 (fun wd41 hI42 => ?_)
      refine q_ex (v := Value.bool true) rfl rfl ?_
      refine wpq_nil ?_
      refine hK39 _ _ _ ?_
      refine wpc_seq_k fun K43 hK44 => ?_
      refine wpc_true rfl ?_
      refine wpc_skip ?_
      refine hK44 _ _ _ ?_
      refine wpc_block ?_
      refine wpc_seq_k fun K45 hK46 => ?_
      refine wpc_region ?_
      refine q_ex (v := Value.int .i32 ((Utf8.decode a1 v16).1 : Int)) rfl rfl ?_
      refine q_as (v := Value.int .i32 ((Utf8.decode a1 v16).1 : Int)) rfl ?_
      refine wpq_nil ?_
      refine hK46 _ _ _ ?_
      refine wpc_seq_k fun K47 hK48 => ?_
      refine wpc_region ?_
      refine q_mv (v := Value.int .i32 ((Utf8.decode a1 v16).1 : Int)) rfl ?_
      refine q_gtr rfl rfl ?_
      refine q_mv (v := Value.bool (decide (126 < ((Utf8.decode a1 v16).1 : Int)))) rfl ?_
      obtain ⟨v49, hC, H⟩ := bind_some H
      refine wpq_split 5 (K := fun e r ds w => e = .normal ∧ ∃ (G50 : Gh), ds = [] ∧ G34 ≤ G50 ∧ Has [(0, Value.string a1), (6, Value.pointer (some ⟨g9, 0, none⟩)), (17, Value.bool v49)] r ∧ Hp G50 (ob g9 (Obj.stringIter a1 (v16 + (Utf8.decode a1 v16).2)) :: L) w ∧ True) ?_ ?_
      · replace H := hC
        by_cases h55 : 126 < ((Utf8.decode a1 v16).1 : Int)
        · replace H := ite_yes h55 H
          refine wpq_no (guard_no rfl rfl rfl (bool_yes h55) rfl) ?_
          refine wpq_no (guard_no rfl rfl rfl (bool_yes h55) rfl) ?_
          refine wpq_no (guard_no rfl rfl rfl (bool_yes h55) rfl) ?_
          refine wpq_no (guard_no rfl rfl rfl (bool_yes h55) rfl) ?_
          refine q_pick true (v := Value.bool true) (bool_yes h55) rfl ?_
          refine wpq_nil ?_
          cases H
          exact ⟨rfl, _, rfl, (Gh.le_refl _), ⟨rfl, rfl, rfl, trivial⟩, hI42, trivial⟩
        · replace H := ite_no h55 H
          refine q_mv (v := Value.int .i32 ((Utf8.decode a1 v16).1 : Int)) rfl ?_ (hw := guard_yes rfl rfl rfl (bool_no h55))
          refine q_cvi ik21 ik5 rfl ?_ (hw := guard_yes rfl rfl rfl (bool_no h55))
          obtain ⟨y61, hy56, H⟩ := bind_some H
          refine q_cv (vs := [Value.int .u8 (wu8 (((Utf8.decode a1 v16).1 : Int)))]) bo31 rfl rfl (text_Class_spec (a1 := wu8 (((Utf8.decode a1 v16).1 : Int))) hI42 hy56) ?_ (hw := guard_yes rfl rfl rfl (bool_no h55))
          rintro _ wd59 ⟨G57, hG58, hI60, rfl⟩
          refine ⟨_, rfl, ?_⟩
          refine q_eql rfl rfl ?_ (hw := guard_yes rfl rfl rfl (bool_no h55))
          refine q_pick false (v := Value.bool (decide (y61 = 0))) (bool_no h55) rfl ?_
          refine wpq_nil ?_
          cases H
          exact ⟨rfl, _, rfl, hG58, ⟨rfl, rfl, rfl, trivial⟩, hI60, trivial⟩
      · clear hC
        rintro e r ds wd52 ⟨rfl, G50, rfl, hG51, hHas, hI53, _⟩
        rw [hHas.eq]; clear hHas
        refine wpq_nil ?_
        refine hK48 _ _ _ ?_
        by_cases h62 : v49 = true
        · replace H := ite_yes h62 H
          refine wpc_true (bval_yes h62) ?_
          refine wpc_seq_k fun K63 hK64 => ?_
          refine wpc_region ?_
          refine q_as (v := Value.bool false) rfl ?_
          refine wpq_nil ?_
          refine hK64 _ _ _ ?_
          refine wpc_ret ?_
          cases H
          exact ⟨rfl, _, rfl, (Gh.le_trans hG35 hG51), ⟨rfl, trivial⟩, hI53, trivial⟩
        · replace H := ite_no h62 H
          refine wpc_false (bval_no h62) ?_
          refine wpc_skip ?_
          exact ih _ _ H _ _ _ (Gh.le_trans hG35 hG51) ⟨rfl, rfl, trivial⟩ hI53 rfl
    · replace H := ite_no h40 H
      refine q_nxn hI37 0 rfl rfl h40 ?_
      refine q_ex (v := Value.bool false) rfl rfl ?_
      refine wpq_nil ?_
      refine hK39 _ _ _ ?_
      refine wpc_seq_k fun K65 hK66 => ?_
      refine wpc_false rfl ?_
      refine wpc_exit ?_
      cases H
      exact ⟨rfl, _, rfl, hG35, ⟨rfl, trivial⟩, hI37, trivial⟩
  · clear hC
    rcases o33 with v23 | v24
    · rintro e r ds wd27 ⟨rfl, G25, rfl, hG26, hHas, hI28, _⟩
      rw [hHas.eq]; clear hHas
      have hI67 := Hp.sub (L := ob g9 (Obj.stringIter a1 v23) :: L) (L' := L) hI28 (List.Sublist.cons _ (List.Sublist.refl _))
      cases H
      exact ⟨.inr rfl, rfl, _, ⟨_, _, rfl, rfl, rfl⟩, _, hG26, hI67, rfl⟩
    · rintro e r ds wd31 ⟨rfl, G29, rfl, hG30, hHas, hI32, _⟩
      rw [hHas.eq]; clear hHas
      refine hK5 _ _ _ ?_
      refine wpc_seq_k fun K68 hK69 => ?_
      refine wpc_region ?_
      refine q_mv (v := Value.string a1) rfl ?_
      refine q_lens so9 rfl ?_
      refine q_leq rfl rfl ?_
      refine q_as (v := Value.bool (decide ((a1.size : Int) ≤ 2000))) rfl ?_
      refine wpq_nil ?_
      refine hK69 _ _ _ ?_
      refine wpc_ret ?_
      have hI70 := Hp.sub (L := ob g9 (Obj.stringIter a1 v24) :: L) (L' := L) hI32 (List.Sublist.cons _ (List.Sublist.refl _))
      cases H
      exact ⟨.inr rfl, rfl, _, ⟨_, _, rfl, rfl, rfl⟩, _, hG30, hI70, rfl⟩
set_option maxHeartbeats 1000000 in
theorem breaks_prepare_spec {a1 : api_Breaks} {a6 : ByteArray} {A2 : Option Addr} {c3 : Nat} {r1112 : Int} {r1113 : Int} {r1114 : List ByteArray} {r1119 : ByteArray} {r1122 : List (ByteArray × Bool)} {r1123 : Bool} {G : Gh} {L : List Itm} {w : World} (hI : Hp G (L) w) (hl4 : a1.Keep.length ≤ c3) (hD5 : Dat Kd.str G A2 a1.Keep) (H : breaks_prepare a1 a6 = some (r1112, r1113, r1114, r1119, r1122, r1123)) :
    Calls Tryd.prog 20 [Value.agg [Value.int .i64 a1.Before, Value.int .i64 a1.Behind, Value.slice A2 a1.Keep.length c3].toArray, Value.string a6].toArray w fun e w' => ∃ (A1115 : Option Addr) (c1116 : Nat) (g1121 : Nat) (G' : Gh), G ≤ G' ∧ Hp G' (mpI g1121 Value.string Value.bool r1122 :: L) w' ∧ r1114.length ≤ c1116 ∧ Dat Kd.str G' A1115 r1114 ∧ e = .returned (Value.tuple [Value.agg [Value.int .i64 r1112, Value.int .i64 r1113, Value.slice A1115 r1114.length c1116, Value.string r1119, Value.map (some g1121)].toArray, Value.bool r1123].toArray) := by
  refine calls_intro (N := 31) Tryd.func20 rfl rfl (Nat.le_of_ble_eq_true rfl) ?_
  unfold breaks_prepare at H
  refine wpc_seq_k fun K7 hK8 => ?_
  refine wpc_region ?_
  refine q_box hI (v := Value.agg [Value.int .i64 a1.Before, Value.int .i64 a1.Behind, Value.slice A2 a1.Keep.length c3].toArray) (vs := [Value.int .i64 a1.Before, Value.int .i64 a1.Behind, Value.slice A2 a1.Keep.length c3]) rfl rfl (fun g10 wd11 hI12 => ?_)
  refine q_alloc hI12 ze45 (fun g14 wd15 hI16 => ?_)
  refine q_as (v := Value.bool false) rfl ?_
  refine wpq_nil ?_
  refine hK8 _ _ _ ?_
  refine wpc_seq_k fun K17 hK18 => ?_
  refine wpc_region ?_
  refine q_ldA hI16 1 (cs := [Value.int .i64 a1.Before, Value.int .i64 a1.Behind, Value.slice A2 a1.Keep.length c3]) ag24 rfl rfl rfl rfl ?_
  refine q_mv (v := Value.string a6) rfl ?_
  refine q_mmk (α := ByteArray) (β := Bool) Value.string Value.bool hI16 (fun g20 wd21 hI22 => ?_)
  refine q_build (vs := [(0, Value.agg [Value.int .i64 a1.Before, Value.int .i64 a1.Behind, Value.slice A2 a1.Keep.length c3].toArray), (1, Value.string a6), (2, Value.map (some g20))]) (cs := [Value.int .i64 a1.Before, Value.int .i64 a1.Behind, Value.slice A2 a1.Keep.length c3, Value.string a6, Value.map (some g20)]) ze45 pl45 rfl rfl ?_
  refine q_alloc hI22 ze45 (fun g24 wd25 hI26 => ?_)
  refine q_stA hI26 0 (v := Value.agg [Value.int .i64 a1.Before, Value.int .i64 a1.Behind, Value.slice A2 a1.Keep.length c3, Value.string a6, Value.map (some g20)].toArray) (cs := [Value.int .i64 a1.Before, Value.int .i64 a1.Behind, Value.slice A2 a1.Keep.length c3, Value.string a6, Value.map (some g20)]) (vs' := [Value.int .i64 a1.Before, Value.int .i64 a1.Behind, Value.slice A2 a1.Keep.length c3, Value.string a6, Value.map (some g20)]) ag45 rfl rfl rfl rfl rfl rfl (Nat.le_of_ble_eq_true rfl) rfl (fun wd27 hI28 => ?_)
  refine wpq_nil ?_
  refine hK18 _ _ _ ?_
  refine wpc_seq_k fun K29 hK30 => ?_
  refine wpc_seq_k fun K31 hK32 => ?_
  refine wpc_region ?_
  refine q_fa (a' := ⟨g10, 2, none⟩) fl24_2 rfl (add_plain _ _ _) ?_
  refine q_ld hI28 3 (v := Value.slice A2 a1.Keep.length c3) ag22 rfl rfl rfl ?_
  refine q_len so22 rfl ?_
  refine q_mv (v := Value.int .i64 0) rfl ?_
  refine wpq_nil ?_
  refine hK32 _ _ _ ?_
  refine wpc_block ?_
  obtain ⟨v46, hC, H⟩ := bind_some H
  refine wpc_mono (Q := fun e r ds w => e = .exit 0 ∧ ∃ (G47 : Gh), ds = [] ∧ G ≤ G47 ∧ Has [(1, Value.string a6), (2, Value.pointer (some ⟨g10, 0, none⟩)), (4, Value.pointer (some ⟨g14, 0, none⟩)), (6, Value.pointer (some ⟨g24, 0, none⟩))] r ∧ Hp G47 (bx g24 [Value.int .i64 a1.Before, Value.int .i64 a1.Behind, Value.slice A2 a1.Keep.length c3, Value.string a6, Value.map (some g20)] 45 :: mpI g20 Value.string Value.bool v46 :: bx g14 [Value.int .i64 0, Value.int .i64 0, Value.slice none 0 0, Value.string (⟨#[]⟩ : ByteArray), Value.map none] 45 :: bx g10 [Value.int .i64 a1.Before, Value.int .i64 a1.Behind, Value.slice A2 a1.Keep.length c3] 24 :: L) w ∧ True) ?_ ?_
  · clear H
    refine wpc_loop fun I hLp => ?_
    refine breaks_prepare_l45.partial_correctness a1 (fun v37 v38 o => ∀ (G52 : Gh) (r : Rg) (w : World), G ≤ G52 → Has [(1, Value.string a6), (2, Value.pointer (some ⟨g10, 0, none⟩)), (4, Value.pointer (some ⟨g14, 0, none⟩)), (6, Value.pointer (some ⟨g24, 0, none⟩)), (14, Value.slice A2 a1.Keep.length c3), (15, Value.int .i64 (a1.Keep.length : Int)), (16, Value.int .i64 v37)] r → Hp G52 (bx g24 [Value.int .i64 a1.Before, Value.int .i64 a1.Behind, Value.slice A2 a1.Keep.length c3, Value.string a6, Value.map (some g20)] 45 :: mpI g20 Value.string Value.bool v38 :: bx g14 [Value.int .i64 0, Value.int .i64 0, Value.slice none 0 0, Value.string (⟨#[]⟩ : ByteArray), Value.map none] 45 :: bx g10 [Value.int .i64 a1.Before, Value.int .i64 a1.Behind, Value.slice A2 a1.Keep.length c3] 24 :: L) w → o = v46 → I r [] w) ?_ 0 ([] : List (ByteArray × Bool)) _ hC _ _ _ (Gh.le_refl _) ⟨rfl, rfl, rfl, rfl, rfl, rfl, rfl, trivial⟩ hI28 rfl
    intro _ ih v37 v38 o H G52 r wd54 hG53 hHas hI55 ho
    rw [ho] at H; clear ho
    rw [hHas.eq]; clear hHas
    refine hLp _ _ _ ?_
    refine wpc_seq_k fun K56 hK57 => ?_
    refine wpc_region ?_
    refine q_lss rfl rfl ?_
    refine wpq_nil ?_
    refine hK57 _ _ _ ?_
    refine wpc_seq_k fun K58 hK59 => ?_
    by_cases h60 : v37 < (a1.Keep.length : Int)
    · replace H := ite_yes h60 H
      refine wpc_true (bool_yes h60) ?_
      refine wpc_skip ?_
      refine hK59 _ _ _ ?_
      refine wpc_seq_k fun K61 hK62 => ?_
      refine wpc_block ?_
      refine wpc_seq_k fun K63 hK64 => ?_
      refine wpc_region ?_
      obtain ⟨⟨h65, h65'⟩, H⟩ := ite_some H
      obtain ⟨ad66, cs67, hA68, hK69, hn70, hc71⟩ := Dat.get (Dat.mono hG53 hD5) (⟨#[]⟩ : ByteArray) (v37) h65 h65'
      obtain rfl := hK69
      refine q_ia el22 rfl hA68 rfl h65 h65' ?_
      refine q_lf hI55 (v := Value.string (a1.Keep.getD (Int.toNat v37) (⟨#[]⟩ : ByteArray))) ag9 rfl ((Gh.le_refl _).cel _ _ (hc71 0 _ rfl)) ?_
      refine q_as (v := Value.string (a1.Keep.getD (Int.toNat v37) (⟨#[]⟩ : ByteArray))) rfl ?_
      refine wpq_nil ?_
      refine hK64 _ _ _ ?_
      refine wpc_region ?_
      refine q_fa (a' := ⟨g24, 4, none⟩) fl45_2 rfl (add_plain _ _ _) ?_
      refine q_ld hI55 0 (v := Value.map (some g20)) ag43 rfl rfl rfl ?_
      refine q_mv (v := Value.string (a1.Keep.getD (Int.toNat v37) (⟨#[]⟩ : ByteArray))) rfl ?_
      refine q_mup (b := true) hI55 1 mt43 (ky_str so9) rfl rfl rfl rfl (fun wd72 hI73 => ?_)
      refine wpq_nil ?_
      refine hK62 _ _ _ ?_
      refine wpc_region ?_
      refine q_add rfl rfl ?_
      refine q_mv (v := Value.int .i64 (w64 (v37 + 1))) rfl ?_
      refine wpq_nil ?_
      exact ih _ _ _ H _ _ _ hG53 ⟨rfl, rfl, rfl, rfl, rfl, rfl, rfl, trivial⟩ hI73 rfl
    · replace H := ite_no h60 H
      refine wpc_false (bool_no h60) ?_
      refine wpc_exit ?_
      cases H
      exact ⟨rfl, _, rfl, hG53, ⟨rfl, rfl, rfl, rfl, trivial⟩, hI55, trivial⟩
  · clear hC
    rintro e r ds wd49 ⟨rfl, G47, rfl, hG48, hHas, hI50, _⟩
    rw [hHas.eq]; clear hHas
    refine hK30 _ _ _ ?_
    refine wpc_seq_k fun K74 hK75 => ?_
    obtain ⟨v76, hC, H⟩ := bind_some H
    refine wpc_mono (Q := fun e r ds w => e = .normal ∧ ∃ (G77 : Gh), ds = [] ∧ G47 ≤ G77 ∧ Has [(4, Value.pointer (some ⟨g14, 0, none⟩)), (5, Value.bool v76)] r ∧ Hp G77 (bx g24 [Value.int .i64 a1.Before, Value.int .i64 a1.Behind, Value.slice A2 a1.Keep.length c3, Value.string a6, Value.map (some g20)] 45 :: mpI g20 Value.string Value.bool v46 :: bx g14 [Value.int .i64 a1.Before, Value.int .i64 a1.Behind, Value.slice A2 a1.Keep.length c3, Value.string a6, Value.map (some g20)] 45 :: bx g10 [Value.int .i64 a1.Before, Value.int .i64 a1.Behind, Value.slice A2 a1.Keep.length c3] 24 :: L) w ∧ True) ?_ ?_
    · replace H := hC
      obtain ⟨y87, hy82, H⟩ := bind_some H
      by_cases h88 : y87 = true
      · replace H := ite_yes h88 H
        obtain ⟨y94, hy89, H⟩ := bind_some H
        refine wpc_drawL [0, 0, 2, 6, 14, 30, 62, 63, 255] (fun D r w => (D 7 = false ∧ ∃ (G' : Gh), G47 ≤ G' ∧ Regs [(1, Value.string a6), (2, Value.pointer (some ⟨g10, 0, none⟩)), (4, Value.pointer (some ⟨g14, 0, none⟩)), (6, Value.pointer (some ⟨g24, 0, none⟩))] [] [(0, 24, Value.agg [Value.int .i64 a1.Before, Value.int .i64 a1.Behind, Value.slice A2 a1.Keep.length c3, Value.string a6, Value.map (some g20)].toArray), (1, 25, Value.agg [Value.int .i64 a1.Before, Value.int .i64 a1.Behind, Value.slice A2 a1.Keep.length c3].toArray), (2, 26, Value.bool y87), (3, 27, Value.bool y87), (4, 28, Value.string a6), (5, 29, Value.bool y94), (6, 30, Value.bool y94)] D r ∧ Hp G' (bx g24 [Value.int .i64 a1.Before, Value.int .i64 a1.Behind, Value.slice A2 a1.Keep.length c3, Value.string a6, Value.map (some g20)] 45 :: mpI g20 Value.string Value.bool v46 :: bx g14 [Value.int .i64 0, Value.int .i64 0, Value.slice none 0 0, Value.string (⟨#[]⟩ : ByteArray), Value.map none] 45 :: bx g10 [Value.int .i64 a1.Before, Value.int .i64 a1.Behind, Value.slice A2 a1.Keep.length c3] 24 :: L) w) ∨ (D 7 = true ∧ ∃ (G' : Gh), G47 ≤ G' ∧ Regs [(1, Value.string a6), (2, Value.pointer (some ⟨g10, 0, none⟩)), (4, Value.pointer (some ⟨g14, 0, none⟩)), (6, Value.pointer (some ⟨g24, 0, none⟩))] [] [(0, 24, Value.agg [Value.int .i64 a1.Before, Value.int .i64 a1.Behind, Value.slice A2 a1.Keep.length c3, Value.string a6, Value.map (some g20)].toArray), (1, 25, Value.agg [Value.int .i64 a1.Before, Value.int .i64 a1.Behind, Value.slice A2 a1.Keep.length c3].toArray), (2, 26, Value.bool y87), (3, 27, Value.bool y87), (4, 28, Value.string a6), (5, 29, Value.bool y94), (6, 30, Value.bool y94), (8, 5, Value.bool y94)] D r ∧ Hp G' (bx g24 [Value.int .i64 a1.Before, Value.int .i64 a1.Behind, Value.slice A2 a1.Keep.length c3, Value.string a6, Value.map (some g20)] 45 :: mpI g20 Value.string Value.bool v46 :: bx g14 [Value.int .i64 a1.Before, Value.int .i64 a1.Behind, Value.slice A2 a1.Keep.length c3, Value.string a6, Value.map (some g20)] 45 :: bx g10 [Value.int .i64 a1.Before, Value.int .i64 a1.Behind, Value.slice A2 a1.Keep.length c3] 24 :: L) w)) mixo rfl rfl ?_ ?_ ?_
        · exact (.inl ⟨rfl, _, Gh.le_refl _, Regs.start ⟨rfl, rfl, rfl, rfl, trivial⟩ trivial, hI50.drew⟩)
        · refine ⟨?_, ?_, ?_, ?_, ?_, ?_, ?_, ?_, ?_, trivial⟩
          · intro D r wd101 hR hDi hpre hpost
            rcases hR with ⟨hd2, G97, hG98, hReg100, hI99⟩ | ⟨hd1, G97, hG98, hReg100, hI99⟩
            · have hH : Has [(6, Value.pointer (some ⟨g24, 0, none⟩))] r := ⟨hReg100.ins.get 3 rfl, trivial⟩
              obtain ⟨r0, rfl⟩ := hH.ex
              refine q_ldA hI99 0 (cs := [Value.int .i64 a1.Before, Value.int .i64 a1.Behind, Value.slice A2 a1.Keep.length c3, Value.string a6, Value.map (some g20)]) ag45 rfl rfl rfl rfl ?_
              refine wpq_nil ?_
              exact ⟨rfl, (.inl ⟨hd2, _, hG98, (Regs.step hReg100 hDi rfl rfl rfl rfl), hI99⟩)⟩
            · cases (hpost 7 rfl).symm.trans hd1
          · intro D r wd101 hR hDi hpre hpost
            rcases hR with ⟨hd2, G97, hG98, hReg100, hI99⟩ | ⟨hd1, G97, hG98, hReg100, hI99⟩
            · have hH : Has [(2, Value.pointer (some ⟨g10, 0, none⟩))] r := ⟨hReg100.ins.get 1 rfl, trivial⟩
              obtain ⟨r0, rfl⟩ := hH.ex
              refine q_ldA hI99 3 (cs := [Value.int .i64 a1.Before, Value.int .i64 a1.Behind, Value.slice A2 a1.Keep.length c3]) ag24 rfl rfl rfl rfl ?_
              refine wpq_nil ?_
              exact ⟨rfl, (.inl ⟨hd2, _, hG98, (Regs.step hReg100 hDi rfl rfl rfl rfl), hI99⟩)⟩
            · cases (hpost 7 rfl).symm.trans hd1
          · intro D r wd101 hR hDi hpre hpost
            rcases hR with ⟨hd2, G97, hG98, hReg100, hI99⟩ | ⟨hd1, G97, hG98, hReg100, hI99⟩
            · have hH : Has [(25, Value.agg [Value.int .i64 a1.Before, Value.int .i64 a1.Behind, Value.slice A2 a1.Keep.length c3].toArray)] r := ⟨hReg100.get 1 rfl (hpre 1 rfl), trivial⟩
              obtain ⟨r0, rfl⟩ := hH.ex
              refine q_cv (vs := [Value.agg [Value.int .i64 a1.Before, Value.int .i64 a1.Behind, Value.slice A2 a1.Keep.length c3].toArray]) bo12 rfl rfl (breaks_Valid_spec (a1 := a1) hI99 hl4 (Dat.mono (Gh.le_trans hG48 hG98) hD5) hy82) ?_
              rintro _ wd85 ⟨G83, hG84, hI86, rfl⟩
              refine ⟨_, rfl, ?_⟩
              refine wpq_nil ?_
              exact ⟨rfl, (.inl ⟨hd2, _, (Gh.le_trans hG98 hG84), (Regs.step hReg100 hDi rfl rfl rfl rfl), hI86⟩)⟩
            · cases (hpost 7 rfl).symm.trans hd1
          · intro D r wd101 hR hDi hpre hpost
            rcases hR with ⟨hd2, G97, hG98, hReg100, hI99⟩ | ⟨hd1, G97, hG98, hReg100, hI99⟩
            · have hH : Has [(26, Value.bool y87)] r := ⟨hReg100.get 2 rfl (hpre 2 rfl), trivial⟩
              obtain ⟨r0, rfl⟩ := hH.ex
              refine q_mv (v := Value.bool y87) rfl ?_
              refine wpq_nil ?_
              exact ⟨rfl, (.inl ⟨hd2, _, hG98, (Regs.step hReg100 hDi rfl rfl rfl rfl), hI99⟩)⟩
            · cases (hpost 7 rfl).symm.trans hd1
          · intro D r wd101 hR hDi hpre hpost
            rcases hR with ⟨hd2, G97, hG98, hReg100, hI99⟩ | ⟨hd1, G97, hG98, hReg100, hI99⟩
            · have hH : Has [(1, Value.string a6), (27, Value.bool y87)] r := ⟨hReg100.ins.get 0 rfl, hReg100.get 3 rfl (hpre 3 rfl), trivial⟩
              obtain ⟨r0, rfl⟩ := hH.ex
              refine q_mv (v := Value.string a6) rfl ?_ (hw := guard_yes rfl rfl rfl (bval_yes h88))
              refine wpq_nil ?_
              exact ⟨rfl, (.inl ⟨hd2, _, hG98, (Regs.step hReg100 hDi rfl rfl rfl rfl), hI99⟩)⟩
            · cases (hpost 7 rfl).symm.trans hd1
          · intro D r wd101 hR hDi hpre hpost
            rcases hR with ⟨hd2, G97, hG98, hReg100, hI99⟩ | ⟨hd1, G97, hG98, hReg100, hI99⟩
            · have hH : Has [(27, Value.bool y87), (28, Value.string a6)] r := ⟨hReg100.get 3 rfl (hpre 3 rfl), hReg100.get 4 rfl (hpre 4 rfl), trivial⟩
              obtain ⟨r0, rfl⟩ := hH.ex
              refine q_cv (vs := [Value.string a6]) bo30 rfl rfl (text_Valid_spec (a1 := a6) hI99 hy89) ?_ (hw := guard_yes rfl rfl rfl (bval_yes h88))
              rintro _ wd92 ⟨G90, hG91, hI93, rfl⟩
              refine ⟨_, rfl, ?_⟩
              refine wpq_nil ?_
              exact ⟨rfl, (.inl ⟨hd2, _, (Gh.le_trans hG98 hG91), (Regs.step hReg100 hDi rfl rfl rfl rfl), hI93⟩)⟩
            · cases (hpost 7 rfl).symm.trans hd1
          · intro D r wd101 hR hDi hpre hpost
            rcases hR with ⟨hd2, G97, hG98, hReg100, hI99⟩ | ⟨hd1, G97, hG98, hReg100, hI99⟩
            · have hH : Has [(27, Value.bool y87), (29, Value.bool y94)] r := ⟨hReg100.get 3 rfl (hpre 3 rfl), hReg100.get 5 rfl (hpre 5 rfl), trivial⟩
              obtain ⟨r0, rfl⟩ := hH.ex
              refine q_pick true (v := Value.bool y94) (bval_yes h88) rfl ?_
              refine wpq_nil ?_
              exact ⟨rfl, (.inl ⟨hd2, _, hG98, (Regs.step hReg100 hDi rfl rfl rfl rfl), hI99⟩)⟩
            · have hH : Has [(27, Value.bool y87), (29, Value.bool y94)] r := ⟨hReg100.get 3 rfl (hpre 3 rfl), hReg100.get 5 rfl (hpre 5 rfl), trivial⟩
              obtain ⟨r0, rfl⟩ := hH.ex
              refine q_pick true (v := Value.bool y94) (bval_yes h88) rfl ?_
              refine wpq_nil ?_
              exact ⟨rfl, (.inr ⟨hd1, _, hG98, (Regs.step hReg100 hDi rfl rfl rfl rfl), hI99⟩)⟩
          · intro D r wd101 hR hDi hpre hpost
            rcases hR with ⟨hd2, G97, hG98, hReg100, hI99⟩ | ⟨hd1, G97, hG98, hReg100, hI99⟩
            · have hH : Has [(4, Value.pointer (some ⟨g14, 0, none⟩)), (24, Value.agg [Value.int .i64 a1.Before, Value.int .i64 a1.Behind, Value.slice A2 a1.Keep.length c3, Value.string a6, Value.map (some g20)].toArray)] r := ⟨hReg100.ins.get 2 rfl, hReg100.get 0 rfl (hpre 0 rfl), trivial⟩
              obtain ⟨r0, rfl⟩ := hH.ex
              refine q_stA hI99 2 (v := Value.agg [Value.int .i64 a1.Before, Value.int .i64 a1.Behind, Value.slice A2 a1.Keep.length c3, Value.string a6, Value.map (some g20)].toArray) (cs := [Value.int .i64 a1.Before, Value.int .i64 a1.Behind, Value.slice A2 a1.Keep.length c3, Value.string a6, Value.map (some g20)]) (vs' := [Value.int .i64 a1.Before, Value.int .i64 a1.Behind, Value.slice A2 a1.Keep.length c3, Value.string a6, Value.map (some g20)]) ag45 rfl rfl rfl rfl rfl rfl (Nat.le_of_ble_eq_true rfl) rfl (fun wd95 hI96 => ?_)
              refine wpq_nil ?_
              exact ⟨rfl, (.inr ⟨rfl, _, hG98, (Regs.stepN (Regs.more (new := [(8, 5, Value.bool y94)]) hReg100 (List.forall_mem_cons.2 ⟨hpost 8 rfl, (fun _ h => nomatch h)⟩)) rfl rfl), hI96⟩)⟩
            · cases hDi.symm.trans hd1
          · intro D r wd101 hR hDi hpre hpost
            rcases hR with ⟨hd2, G97, hG98, hReg100, hI99⟩ | ⟨hd1, G97, hG98, hReg100, hI99⟩
            · cases (hpre 7 rfl).symm.trans hd2
            · have hH : Has [(30, Value.bool y94)] r := ⟨hReg100.get 6 rfl (hpre 6 rfl), trivial⟩
              obtain ⟨r0, rfl⟩ := hH.ex
              refine q_as (v := Value.bool y94) rfl ?_
              refine wpq_nil ?_
              exact ⟨rfl, (.inr ⟨hd1, _, hG98, (Regs.step hReg100 hDi rfl rfl rfl rfl), hI99⟩)⟩
        · intro D r wd101 hall hR
          rcases hR with ⟨hd2, G97, hG98, hReg100, hI99⟩ | ⟨hd1, G97, hG98, hReg100, hI99⟩
          · cases (hall 7 (Nat.le_of_ble_eq_true rfl)).symm.trans hd2
          · have hH : Has [(4, Value.pointer (some ⟨g14, 0, none⟩)), (5, Value.bool y94)] r := ⟨hReg100.ins.get 2 rfl, hReg100.get 7 rfl (hall 8 (Nat.le_of_ble_eq_true rfl)), trivial⟩
            obtain ⟨r0, rfl⟩ := hH.ex
            cases H
            exact ⟨rfl, _, rfl, hG98, ⟨rfl, rfl, trivial⟩, hI99, trivial⟩
      · replace H := ite_no h88 H
        refine wpc_drawL [0, 0, 2, 6, 14, 30, 62, 63, 255] (fun D r w => (D 7 = false ∧ ∃ (G' : Gh), G47 ≤ G' ∧ Regs [(2, Value.pointer (some ⟨g10, 0, none⟩)), (4, Value.pointer (some ⟨g14, 0, none⟩)), (6, Value.pointer (some ⟨g24, 0, none⟩))] [] [(0, 24, Value.agg [Value.int .i64 a1.Before, Value.int .i64 a1.Behind, Value.slice A2 a1.Keep.length c3, Value.string a6, Value.map (some g20)].toArray), (1, 25, Value.agg [Value.int .i64 a1.Before, Value.int .i64 a1.Behind, Value.slice A2 a1.Keep.length c3].toArray), (2, 26, Value.bool y87), (3, 27, Value.bool y87), (4, 28, undef), (5, 29, undef), (6, 30, Value.bool false)] D r ∧ Hp G' (bx g24 [Value.int .i64 a1.Before, Value.int .i64 a1.Behind, Value.slice A2 a1.Keep.length c3, Value.string a6, Value.map (some g20)] 45 :: mpI g20 Value.string Value.bool v46 :: bx g14 [Value.int .i64 0, Value.int .i64 0, Value.slice none 0 0, Value.string (⟨#[]⟩ : ByteArray), Value.map none] 45 :: bx g10 [Value.int .i64 a1.Before, Value.int .i64 a1.Behind, Value.slice A2 a1.Keep.length c3] 24 :: L) w) ∨ (D 7 = true ∧ ∃ (G' : Gh), G47 ≤ G' ∧ Regs [(2, Value.pointer (some ⟨g10, 0, none⟩)), (4, Value.pointer (some ⟨g14, 0, none⟩)), (6, Value.pointer (some ⟨g24, 0, none⟩))] [] [(0, 24, Value.agg [Value.int .i64 a1.Before, Value.int .i64 a1.Behind, Value.slice A2 a1.Keep.length c3, Value.string a6, Value.map (some g20)].toArray), (1, 25, Value.agg [Value.int .i64 a1.Before, Value.int .i64 a1.Behind, Value.slice A2 a1.Keep.length c3].toArray), (2, 26, Value.bool y87), (3, 27, Value.bool y87), (4, 28, undef), (5, 29, undef), (6, 30, Value.bool false), (8, 5, Value.bool false)] D r ∧ Hp G' (bx g24 [Value.int .i64 a1.Before, Value.int .i64 a1.Behind, Value.slice A2 a1.Keep.length c3, Value.string a6, Value.map (some g20)] 45 :: mpI g20 Value.string Value.bool v46 :: bx g14 [Value.int .i64 a1.Before, Value.int .i64 a1.Behind, Value.slice A2 a1.Keep.length c3, Value.string a6, Value.map (some g20)] 45 :: bx g10 [Value.int .i64 a1.Before, Value.int .i64 a1.Behind, Value.slice A2 a1.Keep.length c3] 24 :: L) w)) mixo rfl rfl ?_ ?_ ?_
        · exact (.inl ⟨rfl, _, Gh.le_refl _, Regs.start ⟨rfl, rfl, rfl, trivial⟩ trivial, hI50.drew⟩)
        · refine ⟨?_, ?_, ?_, ?_, ?_, ?_, ?_, ?_, ?_, trivial⟩
          · intro D r wd108 hR hDi hpre hpost
            rcases hR with ⟨hd2, G104, hG105, hReg107, hI106⟩ | ⟨hd1, G104, hG105, hReg107, hI106⟩
            · have hH : Has [(6, Value.pointer (some ⟨g24, 0, none⟩))] r := ⟨hReg107.ins.get 2 rfl, trivial⟩
              obtain ⟨r0, rfl⟩ := hH.ex
              refine q_ldA hI106 0 (cs := [Value.int .i64 a1.Before, Value.int .i64 a1.Behind, Value.slice A2 a1.Keep.length c3, Value.string a6, Value.map (some g20)]) ag45 rfl rfl rfl rfl ?_
              refine wpq_nil ?_
              exact ⟨rfl, (.inl ⟨hd2, _, hG105, (Regs.step hReg107 hDi rfl rfl rfl rfl), hI106⟩)⟩
            · cases (hpost 7 rfl).symm.trans hd1
          · intro D r wd108 hR hDi hpre hpost
            rcases hR with ⟨hd2, G104, hG105, hReg107, hI106⟩ | ⟨hd1, G104, hG105, hReg107, hI106⟩
            · have hH : Has [(2, Value.pointer (some ⟨g10, 0, none⟩))] r := ⟨hReg107.ins.get 0 rfl, trivial⟩
              obtain ⟨r0, rfl⟩ := hH.ex
              refine q_ldA hI106 3 (cs := [Value.int .i64 a1.Before, Value.int .i64 a1.Behind, Value.slice A2 a1.Keep.length c3]) ag24 rfl rfl rfl rfl ?_
              refine wpq_nil ?_
              exact ⟨rfl, (.inl ⟨hd2, _, hG105, (Regs.step hReg107 hDi rfl rfl rfl rfl), hI106⟩)⟩
            · cases (hpost 7 rfl).symm.trans hd1
          · intro D r wd108 hR hDi hpre hpost
            rcases hR with ⟨hd2, G104, hG105, hReg107, hI106⟩ | ⟨hd1, G104, hG105, hReg107, hI106⟩
            · have hH : Has [(25, Value.agg [Value.int .i64 a1.Before, Value.int .i64 a1.Behind, Value.slice A2 a1.Keep.length c3].toArray)] r := ⟨hReg107.get 1 rfl (hpre 1 rfl), trivial⟩
              obtain ⟨r0, rfl⟩ := hH.ex
              refine q_cv (vs := [Value.agg [Value.int .i64 a1.Before, Value.int .i64 a1.Behind, Value.slice A2 a1.Keep.length c3].toArray]) bo12 rfl rfl (breaks_Valid_spec (a1 := a1) hI106 hl4 (Dat.mono (Gh.le_trans hG48 hG105) hD5) hy82) ?_
              rintro _ wd85 ⟨G83, hG84, hI86, rfl⟩
              refine ⟨_, rfl, ?_⟩
              refine wpq_nil ?_
              exact ⟨rfl, (.inl ⟨hd2, _, (Gh.le_trans hG105 hG84), (Regs.step hReg107 hDi rfl rfl rfl rfl), hI86⟩)⟩
            · cases (hpost 7 rfl).symm.trans hd1
          · intro D r wd108 hR hDi hpre hpost
            rcases hR with ⟨hd2, G104, hG105, hReg107, hI106⟩ | ⟨hd1, G104, hG105, hReg107, hI106⟩
            · have hH : Has [(26, Value.bool y87)] r := ⟨hReg107.get 2 rfl (hpre 2 rfl), trivial⟩
              obtain ⟨r0, rfl⟩ := hH.ex
              refine q_mv (v := Value.bool y87) rfl ?_
              refine wpq_nil ?_
              exact ⟨rfl, (.inl ⟨hd2, _, hG105, (Regs.step hReg107 hDi rfl rfl rfl rfl), hI106⟩)⟩
            · cases (hpost 7 rfl).symm.trans hd1
          · intro D r wd108 hR hDi hpre hpost
            rcases hR with ⟨hd2, G104, hG105, hReg107, hI106⟩ | ⟨hd1, G104, hG105, hReg107, hI106⟩
            · have hH : Has [(27, Value.bool y87)] r := ⟨hReg107.get 3 rfl (hpre 3 rfl), trivial⟩
              obtain ⟨r0, rfl⟩ := hH.ex
              refine wpq_no (guard_no rfl rfl rfl (bval_no h88) rfl) ?_
              refine wpq_nil ?_
              exact ⟨rfl, (.inl ⟨hd2, _, hG105, (Regs.step hReg107 hDi rfl rfl rfl rfl), hI106⟩)⟩
            · cases (hpost 7 rfl).symm.trans hd1
          · intro D r wd108 hR hDi hpre hpost
            rcases hR with ⟨hd2, G104, hG105, hReg107, hI106⟩ | ⟨hd1, G104, hG105, hReg107, hI106⟩
            · have hH : Has [(27, Value.bool y87)] r := ⟨hReg107.get 3 rfl (hpre 3 rfl), trivial⟩
              obtain ⟨r0, rfl⟩ := hH.ex
              refine wpq_no (guard_no rfl rfl rfl (bval_no h88) rfl) ?_
              refine wpq_nil ?_
              exact ⟨rfl, (.inl ⟨hd2, _, hG105, (Regs.step hReg107 hDi rfl rfl rfl rfl), hI106⟩)⟩
            · cases (hpost 7 rfl).symm.trans hd1
          · intro D r wd108 hR hDi hpre hpost
            rcases hR with ⟨hd2, G104, hG105, hReg107, hI106⟩ | ⟨hd1, G104, hG105, hReg107, hI106⟩
            · have hH : Has [(27, Value.bool y87), (29, undef)] r := ⟨hReg107.get 3 rfl (hpre 3 rfl), hReg107.get 5 rfl (hpre 5 rfl), trivial⟩
              obtain ⟨r0, rfl⟩ := hH.ex
              refine q_pick false (v := Value.bool false) (bval_no h88) rfl ?_
              refine wpq_nil ?_
              exact ⟨rfl, (.inl ⟨hd2, _, hG105, (Regs.step hReg107 hDi rfl rfl rfl rfl), hI106⟩)⟩
            · have hH : Has [(27, Value.bool y87), (29, undef)] r := ⟨hReg107.get 3 rfl (hpre 3 rfl), hReg107.get 5 rfl (hpre 5 rfl), trivial⟩
              obtain ⟨r0, rfl⟩ := hH.ex
              refine q_pick false (v := Value.bool false) (bval_no h88) rfl ?_
              refine wpq_nil ?_
              exact ⟨rfl, (.inr ⟨hd1, _, hG105, (Regs.step hReg107 hDi rfl rfl rfl rfl), hI106⟩)⟩
          · intro D r wd108 hR hDi hpre hpost
            rcases hR with ⟨hd2, G104, hG105, hReg107, hI106⟩ | ⟨hd1, G104, hG105, hReg107, hI106⟩
            · have hH : Has [(4, Value.pointer (some ⟨g14, 0, none⟩)), (24, Value.agg [Value.int .i64 a1.Before, Value.int .i64 a1.Behind, Value.slice A2 a1.Keep.length c3, Value.string a6, Value.map (some g20)].toArray)] r := ⟨hReg107.ins.get 1 rfl, hReg107.get 0 rfl (hpre 0 rfl), trivial⟩
              obtain ⟨r0, rfl⟩ := hH.ex
              refine q_stA hI106 2 (v := Value.agg [Value.int .i64 a1.Before, Value.int .i64 a1.Behind, Value.slice A2 a1.Keep.length c3, Value.string a6, Value.map (some g20)].toArray) (cs := [Value.int .i64 a1.Before, Value.int .i64 a1.Behind, Value.slice A2 a1.Keep.length c3, Value.string a6, Value.map (some g20)]) (vs' := [Value.int .i64 a1.Before, Value.int .i64 a1.Behind, Value.slice A2 a1.Keep.length c3, Value.string a6, Value.map (some g20)]) ag45 rfl rfl rfl rfl rfl rfl (Nat.le_of_ble_eq_true rfl) rfl (fun wd102 hI103 => ?_)
              refine wpq_nil ?_
              exact ⟨rfl, (.inr ⟨rfl, _, hG105, (Regs.stepN (Regs.more (new := [(8, 5, Value.bool false)]) hReg107 (List.forall_mem_cons.2 ⟨hpost 8 rfl, (fun _ h => nomatch h)⟩)) rfl rfl), hI103⟩)⟩
            · cases hDi.symm.trans hd1
          · intro D r wd108 hR hDi hpre hpost
            rcases hR with ⟨hd2, G104, hG105, hReg107, hI106⟩ | ⟨hd1, G104, hG105, hReg107, hI106⟩
            · cases (hpre 7 rfl).symm.trans hd2
            · have hH : Has [(30, Value.bool false)] r := ⟨hReg107.get 6 rfl (hpre 6 rfl), trivial⟩
              obtain ⟨r0, rfl⟩ := hH.ex
              refine q_as (v := Value.bool false) rfl ?_
              refine wpq_nil ?_
              exact ⟨rfl, (.inr ⟨hd1, _, hG105, (Regs.step hReg107 hDi rfl rfl rfl rfl), hI106⟩)⟩
        · intro D r wd108 hall hR
          rcases hR with ⟨hd2, G104, hG105, hReg107, hI106⟩ | ⟨hd1, G104, hG105, hReg107, hI106⟩
          · cases (hall 7 (Nat.le_of_ble_eq_true rfl)).symm.trans hd2
          · have hH : Has [(4, Value.pointer (some ⟨g14, 0, none⟩)), (5, Value.bool false)] r := ⟨hReg107.ins.get 1 rfl, hReg107.get 7 rfl (hall 8 (Nat.le_of_ble_eq_true rfl)), trivial⟩
            obtain ⟨r0, rfl⟩ := hH.ex
            cases H
            exact ⟨rfl, _, rfl, hG105, ⟨rfl, rfl, trivial⟩, hI106, trivial⟩
    · clear hC
      rintro e r ds wd79 ⟨rfl, G77, rfl, hG78, hHas, hI80, _⟩
      rw [hHas.eq]; clear hHas
      refine hK75 _ _ _ ?_
      refine wpc_ret ?_
      have hr109 := res_cell (P := Tryd.prog) hI80 2 (cs := [Value.int .i64 a1.Before, Value.int .i64 a1.Behind, Value.slice A2 a1.Keep.length c3, Value.string a6, Value.map (some g20)]) (g := g14) (o := 0) ag45 rfl rfl rfl
      have hI110 := Hp.front hI80 1 rfl
      have hI111 := Hp.sub (L := mpI g20 Value.string Value.bool v46 :: bx g24 [Value.int .i64 a1.Before, Value.int .i64 a1.Behind, Value.slice A2 a1.Keep.length c3, Value.string a6, Value.map (some g20)] 45 :: bx g14 [Value.int .i64 a1.Before, Value.int .i64 a1.Behind, Value.slice A2 a1.Keep.length c3, Value.string a6, Value.map (some g20)] 45 :: bx g10 [Value.int .i64 a1.Before, Value.int .i64 a1.Behind, Value.slice A2 a1.Keep.length c3] 24 :: L) (L' := mpI g20 Value.string Value.bool v46 :: L) hI110 (List.Sublist.cons_cons _ (List.Sublist.cons _ (List.Sublist.cons _ (List.Sublist.cons _ (List.Sublist.refl _)))))
      cases H
      exact ⟨.inr rfl, rfl, _, ⟨_, _, _, rfl, rfl, hr109, ⟨_, _, rfl, rfl, rfl⟩⟩, A2, c3, g20, _, (Gh.le_trans hG48 hG78), hI111, hl4, (Dat.mono (Gh.le_trans hG48 hG78) hD5), rfl⟩
set_option maxHeartbeats 1000000 in
theorem breaks_letter_spec {a1 : Int} {r1025 : Bool} {G : Gh} {L : List Itm} {w : World} (hI : Hp G (L) w) (H : breaks_letter a1 = some r1025) :
    Calls Tryd.prog 51 [Value.int .u8 a1].toArray w fun e w' => ∃ (G' : Gh), G ≤ G' ∧ Hp G' (L) w' ∧ e = .returned (Value.bool r1025) := by
  refine calls_intro (N := 11) Tryd.func51 rfl rfl (Nat.le_of_ble_eq_true rfl) ?_
  unfold breaks_letter at H
  refine wpc_seq_k fun K2 hK3 => ?_
  refine wpc_region ?_
  refine q_as (v := Value.bool false) rfl ?_
  refine wpq_nil ?_
  refine hK3 _ _ _ ?_
  refine wpc_seq_k fun K4 hK5 => ?_
  refine wpc_region ?_
  refine q_mv (v := Value.int .u8 a1) rfl ?_
  obtain ⟨y11, hy6, H⟩ := bind_some H
  refine q_cv (vs := [Value.int .u8 a1]) bo31 rfl rfl (text_Class_spec (a1 := a1) hI hy6) ?_
  rintro _ wd9 ⟨G7, hG8, hI10, rfl⟩
  refine ⟨_, rfl, ?_⟩
  refine q_eql rfl rfl ?_
  refine q_mv (v := Value.bool (decide (y11 = 1))) rfl ?_
  obtain ⟨v12, hC, H⟩ := bind_some H
  refine wpq_split 4 (K := fun e r ds w => e = .normal ∧ ∃ (G13 : Gh), ds = [] ∧ G7 ≤ G13 ∧ Has [(10, Value.bool v12)] r ∧ Hp G13 (L) w ∧ True) ?_ ?_
  · replace H := hC
    by_cases h18 : y11 = 1
    · replace H := ite_yes h18 H
      refine wpq_no (guard_no rfl rfl rfl (bool_yes h18) rfl) ?_
      refine wpq_no (guard_no rfl rfl rfl (bool_yes h18) rfl) ?_
      refine wpq_no (guard_no rfl rfl rfl (bool_yes h18) rfl) ?_
      refine q_pick true (v := Value.bool true) (bool_yes h18) rfl ?_
      refine wpq_nil ?_
      cases H
      exact ⟨rfl, _, rfl, (Gh.le_refl _), ⟨rfl, trivial⟩, hI10, trivial⟩
    · replace H := ite_no h18 H
      refine q_mv (v := Value.int .u8 a1) rfl ?_ (hw := guard_yes rfl rfl rfl (bool_no h18))
      obtain ⟨y24, hy19, H⟩ := bind_some H
      refine q_cv (vs := [Value.int .u8 a1]) bo31 rfl rfl (text_Class_spec (a1 := a1) hI10 hy19) ?_ (hw := guard_yes rfl rfl rfl (bool_no h18))
      rintro _ wd22 ⟨G20, hG21, hI23, rfl⟩
      refine ⟨_, rfl, ?_⟩
      refine q_eql rfl rfl ?_ (hw := guard_yes rfl rfl rfl (bool_no h18))
      refine q_pick false (v := Value.bool (decide (y24 = 2))) (bool_no h18) rfl ?_
      refine wpq_nil ?_
      cases H
      exact ⟨rfl, _, rfl, hG21, ⟨rfl, trivial⟩, hI23, trivial⟩
  · clear hC
    rintro e r ds wd15 ⟨rfl, G13, rfl, hG14, hHas, hI16, _⟩
    rw [hHas.eq]; clear hHas
    refine q_as (v := Value.bool v12) rfl ?_
    refine wpq_nil ?_
    refine hK5 _ _ _ ?_
    refine wpc_ret ?_
    cases H
    exact ⟨.inr rfl, rfl, _, ⟨_, _, rfl, rfl, rfl⟩, _, (Gh.le_trans hG8 hG14), hI16, rfl⟩
set_option maxHeartbeats 1000000 in
theorem breaks_solid_spec {a1 : Int} {r1025 : Bool} {G : Gh} {L : List Itm} {w : World} (hI : Hp G (L) w) (H : breaks_solid a1 = some r1025) :
    Calls Tryd.prog 33 [Value.int .u8 a1].toArray w fun e w' => ∃ (G' : Gh), G ≤ G' ∧ Hp G' (L) w' ∧ e = .returned (Value.bool r1025) := by
  refine calls_intro (N := 10) Tryd.func33 rfl rfl (Nat.le_of_ble_eq_true rfl) ?_
  unfold breaks_solid at H
  refine wpc_seq_k fun K2 hK3 => ?_
  refine wpc_region ?_
  refine q_as (v := Value.bool false) rfl ?_
  refine wpq_nil ?_
  refine hK3 _ _ _ ?_
  refine wpc_seq_k fun K4 hK5 => ?_
  refine wpc_region ?_
  refine q_mv (v := Value.int .u8 a1) rfl ?_
  obtain ⟨y11, hy6, H⟩ := bind_some H
  refine q_cv (vs := [Value.int .u8 a1]) bo51 rfl rfl (breaks_letter_spec (a1 := a1) hI hy6) ?_
  rintro _ wd9 ⟨G7, hG8, hI10, rfl⟩
  refine ⟨_, rfl, ?_⟩
  refine q_mv (v := Value.bool y11) rfl ?_
  obtain ⟨v12, hC, H⟩ := bind_some H
  refine wpq_split 4 (K := fun e r ds w => e = .normal ∧ ∃ (G13 : Gh), ds = [] ∧ G7 ≤ G13 ∧ Has [(9, Value.bool v12)] r ∧ Hp G13 (L) w ∧ True) ?_ ?_
  · replace H := hC
    by_cases h18 : y11 = true
    · replace H := ite_yes h18 H
      refine wpq_no (guard_no rfl rfl rfl (bval_yes h18) rfl) ?_
      refine wpq_no (guard_no rfl rfl rfl (bval_yes h18) rfl) ?_
      refine wpq_no (guard_no rfl rfl rfl (bval_yes h18) rfl) ?_
      refine q_pick true (v := Value.bool true) (bval_yes h18) rfl ?_
      refine wpq_nil ?_
      cases H
      exact ⟨rfl, _, rfl, (Gh.le_refl _), ⟨rfl, trivial⟩, hI10, trivial⟩
    · replace H := ite_no h18 H
      refine q_mv (v := Value.int .u8 a1) rfl ?_ (hw := guard_yes rfl rfl rfl (bval_no h18))
      obtain ⟨y24, hy19, H⟩ := bind_some H
      refine q_cv (vs := [Value.int .u8 a1]) bo31 rfl rfl (text_Class_spec (a1 := a1) hI10 hy19) ?_ (hw := guard_yes rfl rfl rfl (bval_no h18))
      rintro _ wd22 ⟨G20, hG21, hI23, rfl⟩
      refine ⟨_, rfl, ?_⟩
      refine q_eql rfl rfl ?_ (hw := guard_yes rfl rfl rfl (bval_no h18))
      refine q_pick false (v := Value.bool (decide (y24 = 3))) (bval_no h18) rfl ?_
      refine wpq_nil ?_
      cases H
      exact ⟨rfl, _, rfl, hG21, ⟨rfl, trivial⟩, hI23, trivial⟩
  · clear hC
    rintro e r ds wd15 ⟨rfl, G13, rfl, hG14, hHas, hI16, _⟩
    rw [hHas.eq]; clear hHas
    refine q_as (v := Value.bool v12) rfl ?_
    refine wpq_nil ?_
    refine hK5 _ _ _ ?_
    refine wpc_ret ?_
    cases H
    exact ⟨.inr rfl, rfl, _, ⟨_, _, rfl, rfl, rfl⟩, _, (Gh.le_trans hG8 hG14), hI16, rfl⟩
set_option maxHeartbeats 1000000 in
theorem breaks_ruled_places_k1_spec {a1 : Int} {a2 : Int} {a3 : List ByteArray} {a8 : ByteArray} {a11 : List (ByteArray × Bool)} {A4 : Option Addr} {c5 : Nat} {g10 : Nat} {r1022 : Int} {r1023 : Int} {r1024 : List ByteArray} {r1029 : ByteArray} {G : Gh} {L : List Itm} {w : World} (hI : Hp G (mpI g10 Value.string Value.bool a11 :: L) w) (hl6 : a3.length ≤ c5) (hD7 : Dat Kd.str G A4 a3) (H : breaks_ruled_places_k1 a1 a2 a3 a8 a11 = some (r1022, r1023, r1024, r1029)) :
    Calls Tryd.prog 21 [Value.agg [Value.int .i64 a1, Value.int .i64 a2, Value.slice A4 a3.length c5, Value.string a8, Value.map (some g10)].toArray].toArray w fun e w' => ∃ (g1021 : Nat) (A1025 : Option Addr) (c1026 : Nat) (G' : Gh), G ≤ G' ∧ Hp G' (bx g1021 [Value.int .i64 r1022, Value.int .i64 r1023, Value.slice A1025 r1024.length c1026, Value.string r1029, Value.map (some g10)] 45 :: mpI g10 Value.string Value.bool a11 :: L) w' ∧ r1024.length ≤ c1026 ∧ Dat Kd.str G' A1025 r1024 ∧ e = .returned (Value.func (.func 32) [].toArray [Value.pointer (some ⟨g1021, 0, none⟩)].toArray) := by
  refine calls_intro (N := 4) Tryd.func21 rfl rfl (Nat.le_of_ble_eq_true rfl) ?_
  unfold breaks_ruled_places_k1 at H
  refine wpc_seq_k fun K12 hK13 => ?_
  refine wpc_region ?_
  refine q_box hI (v := Value.agg [Value.int .i64 a1, Value.int .i64 a2, Value.slice A4 a3.length c5, Value.string a8, Value.map (some g10)].toArray) (vs := [Value.int .i64 a1, Value.int .i64 a2, Value.slice A4 a3.length c5, Value.string a8, Value.map (some g10)]) rfl rfl (fun g15 wd16 hI17 => ?_)
  refine q_as (v := Value.nilFunc) rfl ?_
  refine wpq_nil ?_
  refine hK13 _ _ _ ?_
  refine wpc_seq_k fun K18 hK19 => ?_
  refine wpc_region ?_
  refine q_fn (vs := []) (us := [Value.pointer (some ⟨g15, 0, none⟩)]) rfl rfl ?_
  refine q_as (v := Value.func (.func 32) [].toArray [Value.pointer (some ⟨g15, 0, none⟩)].toArray) rfl ?_
  refine wpq_nil ?_
  refine hK19 _ _ _ ?_
  refine wpc_ret ?_
  cases H
  exact ⟨.inr rfl, rfl, _, ⟨_, _, rfl, rfl, rfl⟩, g15, A4, c5, _, (Gh.le_refl _), hI17, hl6, hD7, rfl⟩
set_option maxHeartbeats 1000000 in
theorem breaks_ruled_letters_1_k1_spec {a3 : Int} {a6 : Int} {a7 : Int} {a8 : List ByteArray} {a13 : ByteArray} {a16 : List (ByteArray × Bool)} {g2 : Nat} {g5 : Nat} {A9 : Option Addr} {c10 : Nat} {g15 : Nat} {r1050 : Bool} {G : Gh} {L : List Itm} {w : World} (hI : Hp G (bx g2 [Value.int .i64 a3] 3 :: bx g5 [Value.int .i64 a6, Value.int .i64 a7, Value.slice A9 a8.length c10, Value.string a13, Value.map (some g15)] 45 :: mpI g15 Value.string Value.bool a16 :: L) w) (hl11 : a8.length ≤ c10) (hD12 : Dat Kd.str G A9 a8) (H : breaks_ruled_letters_1_k1 a3 a6 a7 a8 a13 a16 = some r1050) :
    Calls Tryd.prog 63 [Value.pointer (some ⟨g2, 0, none⟩), Value.pointer (some ⟨g5, 0, none⟩)].toArray w fun e w' => ∃ (G' : Gh), G ≤ G' ∧ Hp G' (bx g2 [Value.int .i64 a3] 3 :: bx g5 [Value.int .i64 a6, Value.int .i64 a7, Value.slice A9 a8.length c10, Value.string a13, Value.map (some g15)] 45 :: mpI g15 Value.string Value.bool a16 :: L) w' ∧ e = .returned (Value.bool r1050) := by
  refine calls_intro (N := 26) Tryd.func63 rfl rfl (Nat.le_of_ble_eq_true rfl) ?_
  unfold breaks_ruled_letters_1_k1 at H
  refine wpc_seq_k fun K17 hK18 => ?_
  refine wpc_region ?_
  refine q_as (v := Value.bool false) rfl ?_
  refine wpq_nil ?_
  refine hK18 _ _ _ ?_
  refine wpc_seq_k fun K19 hK20 => ?_
  refine wpc_region ?_
  refine q_ld hI 0 (v := Value.int .i64 a3) ag3 rfl rfl rfl ?_
  refine q_geq rfl rfl ?_
  refine q_mv (v := Value.bool (decide (0 ≤ a3))) rfl ?_
  obtain ⟨v21, hC, H⟩ := bind_some H
  refine wpq_split 6 (K := fun e r ds w => e = .normal ∧ ∃ (G22 : Gh), ds = [] ∧ G ≤ G22 ∧ Has [(0, Value.pointer (some ⟨g2, 0, none⟩)), (1, Value.pointer (some ⟨g5, 0, none⟩)), (11, Value.bool v21)] r ∧ Hp G22 (bx g2 [Value.int .i64 a3] 3 :: bx g5 [Value.int .i64 a6, Value.int .i64 a7, Value.slice A9 a8.length c10, Value.string a13, Value.map (some g15)] 45 :: mpI g15 Value.string Value.bool a16 :: L) w ∧ True) ?_ ?_
  · replace H := hC
    by_cases h27 : 0 ≤ a3
    · replace H := ite_yes h27 H
      refine q_ld hI 0 (v := Value.int .i64 a3) ag3 rfl rfl rfl ?_ (hw := guard_yes rfl rfl rfl (bool_yes h27))
      refine q_fa (a' := ⟨g5, 3, none⟩) fl45_1 rfl (add_plain _ _ _) ?_ (hw := guard_yes rfl rfl rfl (bool_yes h27))
      refine q_ld hI 1 (v := Value.string a13) ag9 rfl rfl rfl ?_ (hw := guard_yes rfl rfl rfl (bool_yes h27))
      refine q_lens so9 rfl ?_ (hw := guard_yes rfl rfl rfl (bool_yes h27))
      refine q_lss rfl rfl ?_ (hw := guard_yes rfl rfl rfl (bool_yes h27))
      refine q_pick true (v := Value.bool (decide (a3 < (a13.size : Int)))) (bool_yes h27) rfl ?_
      refine wpq_nil ?_
      cases H
      exact ⟨rfl, _, rfl, (Gh.le_refl _), ⟨rfl, rfl, rfl, trivial⟩, hI, trivial⟩
    · replace H := ite_no h27 H
      refine wpq_no (guard_no rfl rfl rfl (bool_no h27) rfl) ?_
      refine wpq_no (guard_no rfl rfl rfl (bool_no h27) rfl) ?_
      refine wpq_no (guard_no rfl rfl rfl (bool_no h27) rfl) ?_
      refine wpq_no (guard_no rfl rfl rfl (bool_no h27) rfl) ?_
      refine wpq_no (guard_no rfl rfl rfl (bool_no h27) rfl) ?_
      refine q_pick false (v := Value.bool false) (bool_no h27) rfl ?_
      refine wpq_nil ?_
      cases H
      exact ⟨rfl, _, rfl, (Gh.le_refl _), ⟨rfl, rfl, rfl, trivial⟩, hI, trivial⟩
  · clear hC
    rintro e r ds wd24 ⟨rfl, G22, rfl, hG23, hHas, hI25, _⟩
    rw [hHas.eq]; clear hHas
    refine q_mv (v := Value.bool v21) rfl ?_
    obtain ⟨v28, hC, H⟩ := bind_some H
    refine wpq_split 13 (K := fun e r ds w => e = .normal ∧ ∃ (G29 : Gh), ds = [] ∧ G22 ≤ G29 ∧ Has [(25, Value.bool v28)] r ∧ Hp G29 (bx g2 [Value.int .i64 a3] 3 :: bx g5 [Value.int .i64 a6, Value.int .i64 a7, Value.slice A9 a8.length c10, Value.string a13, Value.map (some g15)] 45 :: mpI g15 Value.string Value.bool a16 :: L) w ∧ True) ?_ ?_
    · replace H := hC
      by_cases h34 : v21 = true
      · replace H := ite_yes h34 H
        refine q_fa (a' := ⟨g5, 3, none⟩) fl45_1 rfl (add_plain _ _ _) ?_ (hw := guard_yes rfl rfl rfl (bval_yes h34))
        refine q_ld hI25 1 (v := Value.string a13) ag9 rfl rfl rfl ?_ (hw := guard_yes rfl rfl rfl (bval_yes h34))
        refine q_ld hI25 0 (v := Value.int .i64 a3) ag3 rfl rfl rfl ?_ (hw := guard_yes rfl rfl rfl (bval_yes h34))
        obtain ⟨⟨h35, h35'⟩, H⟩ := ite_some H
        refine q_is so9 rfl rfl h35 h35' rfl ?_ (hw := guard_yes rfl rfl rfl (bval_yes h34))
        obtain ⟨y41, hy36, H⟩ := bind_some H
        refine q_cv (vs := [Value.int .u8 (bt a13 a3)]) bo51 rfl rfl (breaks_letter_spec (a1 := bt a13 a3) hI25 hy36) ?_ (hw := guard_yes rfl rfl rfl (bval_yes h34))
        rintro _ wd39 ⟨G37, hG38, hI40, rfl⟩
        refine ⟨_, rfl, ?_⟩
        refine q_mv (v := Value.bool y41) rfl ?_ (hw := guard_yes rfl rfl rfl (bval_yes h34))
        obtain ⟨v42, hC, H⟩ := bind_some H
        refine wpq_split 6 (K := fun e r ds w => e = .normal ∧ ∃ (G43 : Gh), ds = [] ∧ G37 ≤ G43 ∧ Has [(12, Value.bool v21), (24, Value.bool v42)] r ∧ Hp G43 (bx g2 [Value.int .i64 a3] 3 :: bx g5 [Value.int .i64 a6, Value.int .i64 a7, Value.slice A9 a8.length c10, Value.string a13, Value.map (some g15)] 45 :: mpI g15 Value.string Value.bool a16 :: L) w ∧ True) ?_ ?_
        · replace H := hC
          by_cases h48 : y41 = true
          · replace H := ite_yes h48 H
            refine wpq_no (guard_no rfl rfl rfl (bval_yes h48) rfl) ?_
            refine wpq_no (guard_no rfl rfl rfl (bval_yes h48) rfl) ?_
            refine wpq_no (guard_no rfl rfl rfl (bval_yes h48) rfl) ?_
            refine wpq_no (guard_no rfl rfl rfl (bval_yes h48) rfl) ?_
            refine wpq_no (guard_no rfl rfl rfl (bval_yes h48) rfl) ?_
            refine q_pick true (v := Value.bool true) (bval_yes h48) rfl ?_ (hw := guard_yes rfl rfl rfl (bval_yes h34))
            refine wpq_nil ?_
            cases H
            exact ⟨rfl, _, rfl, (Gh.le_refl _), ⟨rfl, rfl, trivial⟩, hI40, trivial⟩
          · replace H := ite_no h48 H
            refine q_fa (a' := ⟨g5, 3, none⟩) fl45_1 rfl (add_plain _ _ _) ?_ (hw := guard_yes rfl rfl rfl (bval_no h48))
            refine q_ld hI40 1 (v := Value.string a13) ag9 rfl rfl rfl ?_ (hw := guard_yes rfl rfl rfl (bval_no h48))
            refine q_ld hI40 0 (v := Value.int .i64 a3) ag3 rfl rfl rfl ?_ (hw := guard_yes rfl rfl rfl (bval_no h48))
            obtain ⟨⟨h49, h49'⟩, H⟩ := ite_some H
            refine q_is so9 rfl rfl h49 h49' rfl ?_ (hw := guard_yes rfl rfl rfl (bval_no h48))
            refine q_eql rfl rfl ?_ (hw := guard_yes rfl rfl rfl (bval_no h48))
            refine q_pick false (v := Value.bool (decide ((bt a13 a3) = 126))) (bval_no h48) rfl ?_ (hw := guard_yes rfl rfl rfl (bval_yes h34))
            refine wpq_nil ?_
            cases H
            exact ⟨rfl, _, rfl, (Gh.le_refl _), ⟨rfl, rfl, trivial⟩, hI40, trivial⟩
        · clear hC
          rintro e r ds wd45 ⟨rfl, G43, rfl, hG44, hHas, hI46, _⟩
          rw [hHas.eq]; clear hHas
          refine q_pick true (v := Value.bool v42) (bval_yes h34) rfl ?_
          refine wpq_nil ?_
          cases H
          exact ⟨rfl, _, rfl, (Gh.le_trans hG38 hG44), ⟨rfl, trivial⟩, hI46, trivial⟩
      · replace H := ite_no h34 H
        refine wpq_no (guard_no rfl rfl rfl (bval_no h34) rfl) ?_
        refine wpq_no (guard_no rfl rfl rfl (bval_no h34) rfl) ?_
        refine wpq_no (guard_no rfl rfl rfl (bval_no h34) rfl) ?_
        refine wpq_no (guard_no rfl rfl rfl (bval_no h34) rfl) ?_
        refine wpq_no (guard_no rfl rfl rfl (bval_no h34) rfl) ?_
        refine wpq_no (guard_no rfl rfl rfl (bval_no h34) rfl) ?_
        refine wpq_no (guard_no rfl rfl rfl rfl rfl) ?_
        refine wpq_no (guard_no rfl rfl rfl rfl rfl) ?_
        refine wpq_no (guard_no rfl rfl rfl rfl rfl) ?_
        refine wpq_no (guard_no rfl rfl rfl rfl rfl) ?_
        refine wpq_no (guard_no rfl rfl rfl rfl rfl) ?_
        refine wpq_no (guard_no rfl rfl rfl (bval_no h34) rfl) ?_
        refine q_pick false (v := Value.bool false) (bval_no h34) rfl ?_
        refine wpq_nil ?_
        cases H
        exact ⟨rfl, _, rfl, (Gh.le_refl _), ⟨rfl, trivial⟩, hI25, trivial⟩
    · clear hC
      rintro e r ds wd31 ⟨rfl, G29, rfl, hG30, hHas, hI32, _⟩
      rw [hHas.eq]; clear hHas
      refine q_as (v := Value.bool v28) rfl ?_
      refine wpq_nil ?_
      refine hK20 _ _ _ ?_
      refine wpc_ret ?_
      cases H
      exact ⟨.inr rfl, rfl, _, ⟨_, _, rfl, rfl, rfl⟩, _, (Gh.le_trans hG23 hG30), hI32, rfl⟩
set_option maxHeartbeats 1000000 in
theorem breaks_ruled_letters_k1_spec {a1 : Int} {a2 : Int} {a3 : List ByteArray} {a8 : ByteArray} {a11 : List (ByteArray × Bool)} {a12 : Int} {a13 : Bool} {A4 : Option Addr} {c5 : Nat} {g10 : Nat} {r1247 : ByteArray} {G : Gh} {L : List Itm} {w : World} (hI : Hp G (mpI g10 Value.string Value.bool a11 :: L) w) (hl6 : a3.length ≤ c5) (hD7 : Dat Kd.str G A4 a3) (H : breaks_ruled_letters_k1 a1 a2 a3 a8 a11 a12 a13 = some r1247) :
    Calls Tryd.prog 52 [Value.agg [Value.int .i64 a1, Value.int .i64 a2, Value.slice A4 a3.length c5, Value.string a8, Value.map (some g10)].toArray, Value.int .i64 a12, Value.bool a13].toArray w fun e w' => ∃ (G' : Gh), G ≤ G' ∧ Hp G' (mpI g10 Value.string Value.bool a11 :: L) w' ∧ e = .returned (Value.string r1247) := by
  refine calls_intro (N := 33) Tryd.func52 rfl rfl (Nat.le_of_ble_eq_true rfl) ?_
  unfold breaks_ruled_letters_k1 at H
  refine wpc_seq_k fun K14 hK15 => ?_
  refine wpc_region ?_
  refine q_box hI (v := Value.agg [Value.int .i64 a1, Value.int .i64 a2, Value.slice A4 a3.length c5, Value.string a8, Value.map (some g10)].toArray) (vs := [Value.int .i64 a1, Value.int .i64 a2, Value.slice A4 a3.length c5, Value.string a8, Value.map (some g10)]) rfl rfl (fun g17 wd18 hI19 => ?_)
  refine q_box hI19 (v := Value.int .i64 a12) (vs := [Value.int .i64 a12]) rfl rfl (fun g21 wd22 hI23 => ?_)
  refine q_as (v := Value.string (⟨#[]⟩ : ByteArray)) rfl ?_
  refine wpq_nil ?_
  refine hK15 _ _ _ ?_
  refine wpc_seq_k fun K24 hK25 => ?_
  refine wpc_region ?_
  refine q_as (v := Value.slice none 0 0) rfl ?_
  refine wpq_nil ?_
  refine hK25 _ _ _ ?_
  refine wpc_seq_k fun K26 hK27 => ?_
  refine wpc_region ?_
  refine q_as (v := Value.int .i64 1) rfl ?_
  refine wpq_nil ?_
  refine hK27 _ _ _ ?_
  refine wpc_seq_k fun K28 hK29 => ?_
  refine wpc_seq_k fun K30 hK31 => ?_
  refine wpc_region ?_
  refine q_mv (v := Value.bool a13) rfl ?_
  refine wpq_nil ?_
  refine hK31 _ _ _ ?_
  by_cases h32 : a13 = true
  · replace H := ite_yes h32 H
    refine wpc_true (bval_yes h32) ?_
    refine wpc_region ?_
    refine q_ld hI23 0 (v := Value.int .i64 a12) ag3 rfl rfl rfl ?_
    refine q_sub rfl rfl ?_
    refine q_stA hI23 0 (v := Value.int .i64 (w64 (a12 - 1))) (cs := [Value.int .i64 (w64 (a12 - 1))]) (vs' := [Value.int .i64 (w64 (a12 - 1))]) ag3 rfl rfl rfl rfl rfl rfl (Nat.le_of_ble_eq_true rfl) rfl (fun wd33 hI34 => ?_)
    refine q_as (v := Value.int .i64 (-1)) rfl ?_
    refine wpq_nil ?_
    refine hK29 _ _ _ ?_
    refine wpc_seq_k fun K35 hK36 => ?_
    refine wpc_region ?_
    refine q_fn (vs := []) (us := [Value.pointer (some ⟨g21, 0, none⟩), Value.pointer (some ⟨g17, 0, none⟩)]) rfl rfl ?_
    refine q_as (v := Value.func (.func 63) [].toArray [Value.pointer (some ⟨g21, 0, none⟩), Value.pointer (some ⟨g17, 0, none⟩)].toArray) rfl ?_
    refine wpq_nil ?_
    refine hK36 _ _ _ ?_
    refine wpc_seq_k fun K37 hK38 => ?_
    refine wpc_block ?_
    obtain ⟨⟨v64, v71⟩, hC, H⟩ := bind_some H
    refine wpc_mono (Q := fun e r ds w => e = .exit 0 ∧ ∃ (A65 : Option Addr) (c66 : Nat) (G72 : Gh), ds = [] ∧ G ≤ G72 ∧ Has [(7, Value.slice A65 v64.length c66)] r ∧ Hp G72 (bx g21 [Value.int .i64 v71] 3 :: bx g17 [Value.int .i64 a1, Value.int .i64 a2, Value.slice A4 a3.length c5, Value.string a8, Value.map (some g10)] 45 :: mpI g10 Value.string Value.bool a11 :: tk (Value.slice A65 v64.length c66) 1 5 :: L) w ∧ v64.length ≤ c66 ∧ Dat (Kd.int .u8) G72 A65 v64 ∧ Own A65 c66 ∧ True) ?_ ?_
    · clear H
      have hI132 := Hp.emp hI34
      have hI134 := Hp.front hI132 3 rfl
      have hI135 := Hp.front hI134 3 rfl
      have hI136 := Hp.front hI135 3 rfl
      refine wpc_loop fun I hLp => ?_
      refine breaks_ruled_letters_k1_l63.partial_correctness a1 a2 a3 a8 a11 (fun v43 v50 o => ∀ (A44 : Option Addr) (c45 : Nat) (G77 : Gh) (r : Rg) (w : World), G ≤ G77 → Has [(3, Value.pointer (some ⟨g17, 0, none⟩)), (4, Value.pointer (some ⟨g21, 0, none⟩)), (7, Value.slice A44 v43.length c45), (8, Value.int .i64 (-1)), (9, Value.func (.func 63) [].toArray [Value.pointer (some ⟨g21, 0, none⟩), Value.pointer (some ⟨g17, 0, none⟩)].toArray)] r → Hp G77 (bx g21 [Value.int .i64 v50] 3 :: bx g17 [Value.int .i64 a1, Value.int .i64 a2, Value.slice A4 a3.length c5, Value.string a8, Value.map (some g10)] 45 :: mpI g10 Value.string Value.bool a11 :: tk (Value.slice A44 v43.length c45) 1 5 :: L) w → v43.length ≤ c45 → Dat (Kd.int .u8) G77 A44 v43 → Own A44 c45 → o = (v64, v71) → I r [] w) ?_ ([] : List Int) (w64 (a12 - 1)) _ hC none 0 _ _ _ (Gh.le_refl _) ⟨rfl, rfl, rfl, rfl, rfl, trivial⟩ hI136 (show ([] : List Int).length ≤ 0 from Nat.le_refl 0) (Dat.nil _ _ _) Own.nil rfl
      intro _ ih v43 v50 o H A44 c45 G77 r wd79 hG78 hHas hI80 hl46 hD47 ho48 ho
      rw [ho] at H; clear ho
      rw [hHas.eq]; clear hHas
      refine hLp _ _ _ ?_
      refine wpc_seq_k fun K81 hK82 => ?_
      refine wpc_seq_k fun K83 hK84 => ?_
      refine wpc_region ?_
      refine q_mv (v := Value.func (.func 63) [].toArray [Value.pointer (some ⟨g21, 0, none⟩), Value.pointer (some ⟨g17, 0, none⟩)].toArray) rfl ?_
      obtain ⟨y90, hy85, H⟩ := bind_some H
      refine q_cv (vs := [Value.pointer (some ⟨g21, 0, none⟩), Value.pointer (some ⟨g17, 0, none⟩)]) bo63 rfl rfl (breaks_ruled_letters_1_k1_spec (a3 := v50) (a6 := a1) (a7 := a2) (a8 := a3) (a13 := a8) (a16 := a11) hI80 hl6 (Dat.mono hG78 hD7) hy85) ?_
      rintro _ wd88 ⟨G86, hG87, hI89, rfl⟩
      refine ⟨_, rfl, ?_⟩
      refine wpq_nil ?_
      refine hK84 _ _ _ ?_
      by_cases h91 : y90 = true
      · replace H := ite_yes h91 H
        refine wpc_true (bval_yes h91) ?_
        refine wpc_skip ?_
        refine hK82 _ _ _ ?_
        refine wpc_seq_k fun K92 hK93 => ?_
        obtain ⟨v94, hC, H⟩ := bind_some H
        refine wpc_mono (Q := fun e r ds w => e = .normal ∧ ∃ (A95 : Option Addr) (c96 : Nat) (G101 : Gh), ds = [] ∧ G86 ≤ G101 ∧ Has [(3, Value.pointer (some ⟨g17, 0, none⟩)), (4, Value.pointer (some ⟨g21, 0, none⟩)), (7, Value.slice A95 v94.length c96), (8, Value.int .i64 (-1)), (9, Value.func (.func 63) [].toArray [Value.pointer (some ⟨g21, 0, none⟩), Value.pointer (some ⟨g17, 0, none⟩)].toArray)] r ∧ Hp G101 (bx g21 [Value.int .i64 v50] 3 :: bx g17 [Value.int .i64 a1, Value.int .i64 a2, Value.slice A4 a3.length c5, Value.string a8, Value.map (some g10)] 45 :: mpI g10 Value.string Value.bool a11 :: tk (Value.slice A95 v94.length c96) 1 5 :: L) w ∧ v94.length ≤ c96 ∧ Dat (Kd.int .u8) G101 A95 v94 ∧ Own A95 c96 ∧ True) ?_ ?_
        · replace H := hC
          refine wpc_block ?_
          refine wpc_seq_k fun K106 hK107 => ?_
          refine wpc_region ?_
          refine q_fa (a' := ⟨g17, 3, none⟩) fl45_1 rfl (add_plain _ _ _) ?_
          refine q_ld hI89 1 (v := Value.string a8) ag9 rfl rfl rfl ?_
          refine q_ld hI89 0 (v := Value.int .i64 v50) ag3 rfl rfl rfl ?_
          obtain ⟨⟨h108, h108'⟩, H⟩ := ite_some H
          refine q_is so9 rfl rfl h108 h108' rfl ?_
          refine q_neq rfl rfl ?_
          refine wpq_nil ?_
          refine hK107 _ _ _ ?_
          by_cases h109 : ¬ (bt a8 v50) = 126
          · replace H := ite_yes h109 H
            refine wpc_true (bool_yes h109) ?_
            refine wpc_region ?_
            refine q_mv (v := Value.slice A44 v43.length c45) rfl ?_
            refine q_fa (a' := ⟨g17, 3, none⟩) fl45_1 rfl (add_plain _ _ _) ?_
            refine q_ld hI89 1 (v := Value.string a8) ag9 rfl rfl rfl ?_
            refine q_ld hI89 0 (v := Value.int .i64 v50) ag3 rfl rfl rfl ?_
            obtain ⟨⟨h110, h110'⟩, H⟩ := ite_some H
            refine q_is so9 rfl rfl h110 h110' rfl ?_
            refine q_bs hI89 (vs := [(0, Value.int .u8 (bt a8 v50))]) (cs := [Value.int .u8 (bt a8 v50)]) el38 ze5 rfl (by decide) rfl rfl (fun g112 wd113 hI114 => ?_)
            obtain ⟨h124, H⟩ := ite_some H
            refine q_app (xs := v43) (ys := [bt a8 v50]) (Kd.int .u8) hI114 4 el38 ze5 rfl rfl rfl rfl ho48 hl46 (Dat.mono hG87 hD47) (src_bx hI114 0 so38 rfl rfl) ⟨[Value.int .u8 (bt a8 v50)], _, rfl, rfl, rfl⟩ rfl (by simp only [List.length_cons, List.length_nil]; omega) (by simp only [List.length_cons, List.length_nil]; omega) (fun A115 c116 G117 wd118 hG119 ho120 hl121 hD122 hI123 => ?_)
            refine q_as (v := Value.slice A115 (v43 ++ [bt a8 v50]).length c116) rfl ?_
            refine wpq_nil ?_
            have hI125 := Hp.front hI123 4 rfl
            have hI126 := Hp.front hI125 4 rfl
            have hI127 := Hp.front hI126 4 rfl
            have hI128 := Hp.front hI127 4 rfl
            have hI129 := Hp.sub (L := bx g21 [Value.int .i64 v50] 3 :: bx g17 [Value.int .i64 a1, Value.int .i64 a2, Value.slice A4 a3.length c5, Value.string a8, Value.map (some g10)] 45 :: mpI g10 Value.string Value.bool a11 :: tk (Value.slice A115 (v43 ++ [bt a8 v50]).length c116) 1 5 :: bx g112 [Value.int .u8 (bt a8 v50)] 5 :: L) (L' := bx g21 [Value.int .i64 v50] 3 :: bx g17 [Value.int .i64 a1, Value.int .i64 a2, Value.slice A4 a3.length c5, Value.string a8, Value.map (some g10)] 45 :: mpI g10 Value.string Value.bool a11 :: tk (Value.slice A115 (v43 ++ [bt a8 v50]).length c116) 1 5 :: L) hI128 (List.Sublist.cons_cons _ (List.Sublist.cons_cons _ (List.Sublist.cons_cons _ (List.Sublist.cons_cons _ (List.Sublist.cons _ (List.Sublist.refl _))))))
            cases H
            exact ⟨rfl, A115, c116, _, rfl, hG119, ⟨rfl, rfl, rfl, rfl, rfl, trivial⟩, hI129, hl121, hD122, ho120, trivial⟩
          · replace H := ite_no h109 H
            refine wpc_false (bool_no h109) ?_
            refine wpc_skip ?_
            cases H
            exact ⟨rfl, A44, c45, _, rfl, (Gh.le_refl _), ⟨rfl, rfl, rfl, rfl, rfl, trivial⟩, hI89, hl46, (Dat.mono hG87 hD47), ho48, trivial⟩
        · clear hC
          rintro e r ds wd103 ⟨rfl, A95, c96, G101, rfl, hG102, hHas, hI104, hl97, hD98, ho99, _⟩
          rw [hHas.eq]; clear hHas
          refine hK93 _ _ _ ?_
          refine wpc_region ?_
          refine q_ld hI104 0 (v := Value.int .i64 v50) ag3 rfl rfl rfl ?_
          refine q_mv (v := Value.int .i64 (-1)) rfl ?_
          refine q_add rfl rfl ?_
          refine q_stA hI104 0 (v := Value.int .i64 (w64 (v50 + (-1)))) (cs := [Value.int .i64 (w64 (v50 + (-1)))]) (vs' := [Value.int .i64 (w64 (v50 + (-1)))]) ag3 rfl rfl rfl rfl rfl rfl (Nat.le_of_ble_eq_true rfl) rfl (fun wd130 hI131 => ?_)
          refine wpq_nil ?_
          exact ih _ _ _ H A95 c96 _ _ _ (Gh.le_trans (Gh.le_trans hG78 hG87) hG102) ⟨rfl, rfl, rfl, rfl, rfl, trivial⟩ hI131 hl97 hD98 ho99 rfl
      · replace H := ite_no h91 H
        refine wpc_false (bval_no h91) ?_
        refine wpc_exit ?_
        cases H
        exact ⟨rfl, A44, c45, _, rfl, (Gh.le_trans hG78 hG87), ⟨rfl, trivial⟩, hI89, hl46, (Dat.mono hG87 hD47), ho48, trivial⟩
    · clear hC
      rintro e r ds wd74 ⟨rfl, A65, c66, G72, rfl, hG73, hHas, hI75, hl67, hD68, ho69, _⟩
      rw [hHas.eq]; clear hHas
      refine hK38 _ _ _ ?_
      refine wpc_seq_k fun K137 hK138 => ?_
      refine wpc_region ?_
      refine q_mv (v := Value.slice A65 v64.length c66) rfl ?_
      refine q_cvb hI75 el38 ik5 so9 rfl rfl hD68 ?_
      refine q_as (v := Value.string (bstr v64)) rfl ?_
      refine wpq_nil ?_
      refine hK138 _ _ _ ?_
      refine wpc_ret ?_
      have hI139 := Hp.front hI75 2 rfl
      have hI140 := Hp.sub (L := mpI g10 Value.string Value.bool a11 :: bx g21 [Value.int .i64 v71] 3 :: bx g17 [Value.int .i64 a1, Value.int .i64 a2, Value.slice A4 a3.length c5, Value.string a8, Value.map (some g10)] 45 :: tk (Value.slice A65 v64.length c66) 1 5 :: L) (L' := mpI g10 Value.string Value.bool a11 :: L) hI139 (List.Sublist.cons_cons _ (List.Sublist.cons _ (List.Sublist.cons _ (List.Sublist.cons _ (List.Sublist.refl _)))))
      cases H
      exact ⟨.inr rfl, rfl, _, ⟨_, _, rfl, rfl, rfl⟩, _, hG73, hI140, rfl⟩
  · replace H := ite_no h32 H
    refine wpc_false (bval_no h32) ?_
    refine wpc_skip ?_
    refine hK29 _ _ _ ?_
    refine wpc_seq_k fun K141 hK142 => ?_
    refine wpc_region ?_
    refine q_fn (vs := []) (us := [Value.pointer (some ⟨g21, 0, none⟩), Value.pointer (some ⟨g17, 0, none⟩)]) rfl rfl ?_
    refine q_as (v := Value.func (.func 63) [].toArray [Value.pointer (some ⟨g21, 0, none⟩), Value.pointer (some ⟨g17, 0, none⟩)].toArray) rfl ?_
    refine wpq_nil ?_
    refine hK142 _ _ _ ?_
    refine wpc_seq_k fun K143 hK144 => ?_
    refine wpc_block ?_
    obtain ⟨⟨v170, v177⟩, hC, H⟩ := bind_some H
    refine wpc_mono (Q := fun e r ds w => e = .exit 0 ∧ ∃ (A171 : Option Addr) (c172 : Nat) (G178 : Gh), ds = [] ∧ G ≤ G178 ∧ Has [(7, Value.slice A171 v170.length c172)] r ∧ Hp G178 (bx g21 [Value.int .i64 v177] 3 :: bx g17 [Value.int .i64 a1, Value.int .i64 a2, Value.slice A4 a3.length c5, Value.string a8, Value.map (some g10)] 45 :: mpI g10 Value.string Value.bool a11 :: tk (Value.slice A171 v170.length c172) 1 5 :: L) w ∧ v170.length ≤ c172 ∧ Dat (Kd.int .u8) G178 A171 v170 ∧ Own A171 c172 ∧ True) ?_ ?_
    · clear H
      have hI238 := Hp.emp hI23
      have hI240 := Hp.front hI238 3 rfl
      have hI241 := Hp.front hI240 3 rfl
      have hI242 := Hp.front hI241 3 rfl
      refine wpc_loop fun I hLp => ?_
      refine breaks_ruled_letters_k1_l169.partial_correctness a1 a2 a3 a8 a11 (fun v149 v156 o => ∀ (A150 : Option Addr) (c151 : Nat) (G183 : Gh) (r : Rg) (w : World), G ≤ G183 → Has [(3, Value.pointer (some ⟨g17, 0, none⟩)), (4, Value.pointer (some ⟨g21, 0, none⟩)), (7, Value.slice A150 v149.length c151), (8, Value.int .i64 1), (9, Value.func (.func 63) [].toArray [Value.pointer (some ⟨g21, 0, none⟩), Value.pointer (some ⟨g17, 0, none⟩)].toArray)] r → Hp G183 (bx g21 [Value.int .i64 v156] 3 :: bx g17 [Value.int .i64 a1, Value.int .i64 a2, Value.slice A4 a3.length c5, Value.string a8, Value.map (some g10)] 45 :: mpI g10 Value.string Value.bool a11 :: tk (Value.slice A150 v149.length c151) 1 5 :: L) w → v149.length ≤ c151 → Dat (Kd.int .u8) G183 A150 v149 → Own A150 c151 → o = (v170, v177) → I r [] w) ?_ ([] : List Int) a12 _ hC none 0 _ _ _ (Gh.le_refl _) ⟨rfl, rfl, rfl, rfl, rfl, trivial⟩ hI242 (show ([] : List Int).length ≤ 0 from Nat.le_refl 0) (Dat.nil _ _ _) Own.nil rfl
      intro _ ih v149 v156 o H A150 c151 G183 r wd185 hG184 hHas hI186 hl152 hD153 ho154 ho
      rw [ho] at H; clear ho
      rw [hHas.eq]; clear hHas
      refine hLp _ _ _ ?_
      refine wpc_seq_k fun K187 hK188 => ?_
      refine wpc_seq_k fun K189 hK190 => ?_
      refine wpc_region ?_
      refine q_mv (v := Value.func (.func 63) [].toArray [Value.pointer (some ⟨g21, 0, none⟩), Value.pointer (some ⟨g17, 0, none⟩)].toArray) rfl ?_
      obtain ⟨y196, hy191, H⟩ := bind_some H
      refine q_cv (vs := [Value.pointer (some ⟨g21, 0, none⟩), Value.pointer (some ⟨g17, 0, none⟩)]) bo63 rfl rfl (breaks_ruled_letters_1_k1_spec (a3 := v156) (a6 := a1) (a7 := a2) (a8 := a3) (a13 := a8) (a16 := a11) hI186 hl6 (Dat.mono hG184 hD7) hy191) ?_
      rintro _ wd194 ⟨G192, hG193, hI195, rfl⟩
      refine ⟨_, rfl, ?_⟩
      refine wpq_nil ?_
      refine hK190 _ _ _ ?_
      by_cases h197 : y196 = true
      · replace H := ite_yes h197 H
        refine wpc_true (bval_yes h197) ?_
        refine wpc_skip ?_
        refine hK188 _ _ _ ?_
        refine wpc_seq_k fun K198 hK199 => ?_
        obtain ⟨v200, hC, H⟩ := bind_some H
        refine wpc_mono (Q := fun e r ds w => e = .normal ∧ ∃ (A201 : Option Addr) (c202 : Nat) (G207 : Gh), ds = [] ∧ G192 ≤ G207 ∧ Has [(3, Value.pointer (some ⟨g17, 0, none⟩)), (4, Value.pointer (some ⟨g21, 0, none⟩)), (7, Value.slice A201 v200.length c202), (8, Value.int .i64 1), (9, Value.func (.func 63) [].toArray [Value.pointer (some ⟨g21, 0, none⟩), Value.pointer (some ⟨g17, 0, none⟩)].toArray)] r ∧ Hp G207 (bx g21 [Value.int .i64 v156] 3 :: bx g17 [Value.int .i64 a1, Value.int .i64 a2, Value.slice A4 a3.length c5, Value.string a8, Value.map (some g10)] 45 :: mpI g10 Value.string Value.bool a11 :: tk (Value.slice A201 v200.length c202) 1 5 :: L) w ∧ v200.length ≤ c202 ∧ Dat (Kd.int .u8) G207 A201 v200 ∧ Own A201 c202 ∧ True) ?_ ?_
        · replace H := hC
          refine wpc_block ?_
          refine wpc_seq_k fun K212 hK213 => ?_
          refine wpc_region ?_
          refine q_fa (a' := ⟨g17, 3, none⟩) fl45_1 rfl (add_plain _ _ _) ?_
          refine q_ld hI195 1 (v := Value.string a8) ag9 rfl rfl rfl ?_
          refine q_ld hI195 0 (v := Value.int .i64 v156) ag3 rfl rfl rfl ?_
          obtain ⟨⟨h214, h214'⟩, H⟩ := ite_some H
          refine q_is so9 rfl rfl h214 h214' rfl ?_
          refine q_neq rfl rfl ?_
          refine wpq_nil ?_
          refine hK213 _ _ _ ?_
          by_cases h215 : ¬ (bt a8 v156) = 126
          · replace H := ite_yes h215 H
            refine wpc_true (bool_yes h215) ?_
            refine wpc_region ?_
            refine q_mv (v := Value.slice A150 v149.length c151) rfl ?_
            refine q_fa (a' := ⟨g17, 3, none⟩) fl45_1 rfl (add_plain _ _ _) ?_
            refine q_ld hI195 1 (v := Value.string a8) ag9 rfl rfl rfl ?_
            refine q_ld hI195 0 (v := Value.int .i64 v156) ag3 rfl rfl rfl ?_
            obtain ⟨⟨h216, h216'⟩, H⟩ := ite_some H
            refine q_is so9 rfl rfl h216 h216' rfl ?_
            refine q_bs hI195 (vs := [(0, Value.int .u8 (bt a8 v156))]) (cs := [Value.int .u8 (bt a8 v156)]) el38 ze5 rfl (by decide) rfl rfl (fun g218 wd219 hI220 => ?_)
            obtain ⟨h230, H⟩ := ite_some H
            refine q_app (xs := v149) (ys := [bt a8 v156]) (Kd.int .u8) hI220 4 el38 ze5 rfl rfl rfl rfl ho154 hl152 (Dat.mono hG193 hD153) (src_bx hI220 0 so38 rfl rfl) ⟨[Value.int .u8 (bt a8 v156)], _, rfl, rfl, rfl⟩ rfl (by simp only [List.length_cons, List.length_nil]; omega) (by simp only [List.length_cons, List.length_nil]; omega) (fun A221 c222 G223 wd224 hG225 ho226 hl227 hD228 hI229 => ?_)
            refine q_as (v := Value.slice A221 (v149 ++ [bt a8 v156]).length c222) rfl ?_
            refine wpq_nil ?_
            have hI231 := Hp.front hI229 4 rfl
            have hI232 := Hp.front hI231 4 rfl
            have hI233 := Hp.front hI232 4 rfl
            have hI234 := Hp.front hI233 4 rfl
            have hI235 := Hp.sub (L := bx g21 [Value.int .i64 v156] 3 :: bx g17 [Value.int .i64 a1, Value.int .i64 a2, Value.slice A4 a3.length c5, Value.string a8, Value.map (some g10)] 45 :: mpI g10 Value.string Value.bool a11 :: tk (Value.slice A221 (v149 ++ [bt a8 v156]).length c222) 1 5 :: bx g218 [Value.int .u8 (bt a8 v156)] 5 :: L) (L' := bx g21 [Value.int .i64 v156] 3 :: bx g17 [Value.int .i64 a1, Value.int .i64 a2, Value.slice A4 a3.length c5, Value.string a8, Value.map (some g10)] 45 :: mpI g10 Value.string Value.bool a11 :: tk (Value.slice A221 (v149 ++ [bt a8 v156]).length c222) 1 5 :: L) hI234 (List.Sublist.cons_cons _ (List.Sublist.cons_cons _ (List.Sublist.cons_cons _ (List.Sublist.cons_cons _ (List.Sublist.cons _ (List.Sublist.refl _))))))
            cases H
            exact ⟨rfl, A221, c222, _, rfl, hG225, ⟨rfl, rfl, rfl, rfl, rfl, trivial⟩, hI235, hl227, hD228, ho226, trivial⟩
          · replace H := ite_no h215 H
            refine wpc_false (bool_no h215) ?_
            refine wpc_skip ?_
            cases H
            exact ⟨rfl, A150, c151, _, rfl, (Gh.le_refl _), ⟨rfl, rfl, rfl, rfl, rfl, trivial⟩, hI195, hl152, (Dat.mono hG193 hD153), ho154, trivial⟩
        · clear hC
          rintro e r ds wd209 ⟨rfl, A201, c202, G207, rfl, hG208, hHas, hI210, hl203, hD204, ho205, _⟩
          rw [hHas.eq]; clear hHas
          refine hK199 _ _ _ ?_
          refine wpc_region ?_
          refine q_ld hI210 0 (v := Value.int .i64 v156) ag3 rfl rfl rfl ?_
          refine q_mv (v := Value.int .i64 1) rfl ?_
          refine q_add rfl rfl ?_
          refine q_stA hI210 0 (v := Value.int .i64 (w64 (v156 + 1))) (cs := [Value.int .i64 (w64 (v156 + 1))]) (vs' := [Value.int .i64 (w64 (v156 + 1))]) ag3 rfl rfl rfl rfl rfl rfl (Nat.le_of_ble_eq_true rfl) rfl (fun wd236 hI237 => ?_)
          refine wpq_nil ?_
          exact ih _ _ _ H A201 c202 _ _ _ (Gh.le_trans (Gh.le_trans hG184 hG193) hG208) ⟨rfl, rfl, rfl, rfl, rfl, trivial⟩ hI237 hl203 hD204 ho205 rfl
      · replace H := ite_no h197 H
        refine wpc_false (bval_no h197) ?_
        refine wpc_exit ?_
        cases H
        exact ⟨rfl, A150, c151, _, rfl, (Gh.le_trans hG184 hG193), ⟨rfl, trivial⟩, hI195, hl152, (Dat.mono hG193 hD153), ho154, trivial⟩
    · clear hC
      rintro e r ds wd180 ⟨rfl, A171, c172, G178, rfl, hG179, hHas, hI181, hl173, hD174, ho175, _⟩
      rw [hHas.eq]; clear hHas
      refine hK144 _ _ _ ?_
      refine wpc_seq_k fun K243 hK244 => ?_
      refine wpc_region ?_
      refine q_mv (v := Value.slice A171 v170.length c172) rfl ?_
      refine q_cvb hI181 el38 ik5 so9 rfl rfl hD174 ?_
      refine q_as (v := Value.string (bstr v170)) rfl ?_
      refine wpq_nil ?_
      refine hK244 _ _ _ ?_
      refine wpc_ret ?_
      have hI245 := Hp.front hI181 2 rfl
      have hI246 := Hp.sub (L := mpI g10 Value.string Value.bool a11 :: bx g21 [Value.int .i64 v177] 3 :: bx g17 [Value.int .i64 a1, Value.int .i64 a2, Value.slice A4 a3.length c5, Value.string a8, Value.map (some g10)] 45 :: tk (Value.slice A171 v170.length c172) 1 5 :: L) (L' := mpI g10 Value.string Value.bool a11 :: L) hI245 (List.Sublist.cons_cons _ (List.Sublist.cons _ (List.Sublist.cons _ (List.Sublist.cons _ (List.Sublist.refl _)))))
      cases H
      exact ⟨.inr rfl, rfl, _, ⟨_, _, rfl, rfl, rfl⟩, _, hG179, hI246, rfl⟩
set_option maxHeartbeats 1000000 in
theorem breaks_ruled_soft_k1_spec {a1 : Int} {a2 : Int} {a3 : List ByteArray} {a8 : ByteArray} {a11 : List (ByteArray × Bool)} {a12 : Int} {A4 : Option Addr} {c5 : Nat} {g10 : Nat} {r1090 : Bool} {G : Gh} {L : List Itm} {w : World} (hI : Hp G (mpI g10 Value.string Value.bool a11 :: L) w) (hl6 : a3.length ≤ c5) (hD7 : Dat Kd.str G A4 a3) (H : breaks_ruled_soft_k1 a1 a2 a3 a8 a11 a12 = some r1090) :
    Calls Tryd.prog 34 [Value.agg [Value.int .i64 a1, Value.int .i64 a2, Value.slice A4 a3.length c5, Value.string a8, Value.map (some g10)].toArray, Value.int .i64 a12].toArray w fun e w' => ∃ (G' : Gh), G ≤ G' ∧ Hp G' (mpI g10 Value.string Value.bool a11 :: L) w' ∧ e = .returned (Value.bool r1090) := by
  refine calls_intro (N := 50) Tryd.func34 rfl rfl (Nat.le_of_ble_eq_true rfl) ?_
  unfold breaks_ruled_soft_k1 at H
  refine wpc_seq_k fun K13 hK14 => ?_
  refine wpc_region ?_
  refine q_box hI (v := Value.agg [Value.int .i64 a1, Value.int .i64 a2, Value.slice A4 a3.length c5, Value.string a8, Value.map (some g10)].toArray) (vs := [Value.int .i64 a1, Value.int .i64 a2, Value.slice A4 a3.length c5, Value.string a8, Value.map (some g10)]) rfl rfl (fun g16 wd17 hI18 => ?_)
  refine q_as (v := Value.bool false) rfl ?_
  refine wpq_nil ?_
  refine hK14 _ _ _ ?_
  refine wpc_seq_k fun K19 hK20 => ?_
  obtain ⟨y27, hy22, H⟩ := bind_some H
  obtain ⟨y33, hy28, H⟩ := bind_some H
  refine wpc_drawL [0, 0, 2, 7, 0, 0, 63, 127, 255] (fun D r w => (D 3 = false ∧ ∃ (G' : Gh), G ≤ G' ∧ Regs [(1, Value.int .i64 a12), (2, Value.pointer (some ⟨g16, 0, none⟩))] [] [(0, 7, Value.agg [Value.int .i64 a1, Value.int .i64 a2, Value.slice A4 a3.length c5, Value.string a8, Value.map (some g10)].toArray), (1, 8, Value.int .i64 a12), (2, 9, Value.int .i64 (w64 (a12 - 1))), (4, 11, Value.agg [Value.int .i64 a1, Value.int .i64 a2, Value.slice A4 a3.length c5, Value.string a8, Value.map (some g10)].toArray), (5, 12, Value.int .i64 a12)] D r ∧ Hp G' (bx g16 [Value.int .i64 a1, Value.int .i64 a2, Value.slice A4 a3.length c5, Value.string a8, Value.map (some g10)] 45 :: mpI g10 Value.string Value.bool a11 :: L) w) ∨ (D 3 = true ∧ ∃ (G' : Gh), G ≤ G' ∧ Regs [(1, Value.int .i64 a12), (2, Value.pointer (some ⟨g16, 0, none⟩))] [] [(0, 7, Value.agg [Value.int .i64 a1, Value.int .i64 a2, Value.slice A4 a3.length c5, Value.string a8, Value.map (some g10)].toArray), (1, 8, Value.int .i64 a12), (2, 9, Value.int .i64 (w64 (a12 - 1))), (4, 11, Value.agg [Value.int .i64 a1, Value.int .i64 a2, Value.slice A4 a3.length c5, Value.string a8, Value.map (some g10)].toArray), (5, 12, Value.int .i64 a12), (3, 10, Value.string y27), (6, 13, Value.string y33), (7, 5, Value.string y27), (8, 6, Value.string y33)] D r ∧ Hp G' (mpI g10 Value.string Value.bool a11 :: bx g16 [Value.int .i64 a1, Value.int .i64 a2, Value.slice A4 a3.length c5, Value.string a8, Value.map (some g10)] 45 :: L) w)) mixo rfl rfl ?_ ?_ ?_
  · exact (.inl ⟨rfl, _, Gh.le_refl _, Regs.start ⟨rfl, rfl, trivial⟩ trivial, hI18.drew⟩)
  · refine ⟨?_, ?_, ?_, ?_, ?_, ?_, ?_, ?_, ?_, trivial⟩
    · intro D r wd38 hR hDi hpre hpost
      rcases hR with ⟨hd2, G34, hG35, hReg37, hI36⟩ | ⟨hd1, G34, hG35, hReg37, hI36⟩
      · have hH : Has [(2, Value.pointer (some ⟨g16, 0, none⟩))] r := ⟨hReg37.ins.get 1 rfl, trivial⟩
        obtain ⟨r0, rfl⟩ := hH.ex
        refine q_ldA hI36 0 (cs := [Value.int .i64 a1, Value.int .i64 a2, Value.slice A4 a3.length c5, Value.string a8, Value.map (some g10)]) ag45 rfl rfl rfl rfl ?_
        refine wpq_nil ?_
        exact ⟨rfl, (.inl ⟨hd2, _, hG35, (Regs.step hReg37 hDi rfl rfl rfl rfl), hI36⟩)⟩
      · cases (hpost 3 rfl).symm.trans hd1
    · intro D r wd38 hR hDi hpre hpost
      rcases hR with ⟨hd2, G34, hG35, hReg37, hI36⟩ | ⟨hd1, G34, hG35, hReg37, hI36⟩
      · have hH : Has [(1, Value.int .i64 a12)] r := ⟨hReg37.ins.get 0 rfl, trivial⟩
        obtain ⟨r0, rfl⟩ := hH.ex
        refine q_mv (v := Value.int .i64 a12) rfl ?_
        refine wpq_nil ?_
        exact ⟨rfl, (.inl ⟨hd2, _, hG35, (Regs.step hReg37 hDi rfl rfl rfl rfl), hI36⟩)⟩
      · cases (hpost 3 rfl).symm.trans hd1
    · intro D r wd38 hR hDi hpre hpost
      rcases hR with ⟨hd2, G34, hG35, hReg37, hI36⟩ | ⟨hd1, G34, hG35, hReg37, hI36⟩
      · have hH : Has [(8, Value.int .i64 a12)] r := ⟨hReg37.get 1 rfl (hpre 1 rfl), trivial⟩
        obtain ⟨r0, rfl⟩ := hH.ex
        refine q_sub rfl rfl ?_
        refine wpq_nil ?_
        exact ⟨rfl, (.inl ⟨hd2, _, hG35, (Regs.step hReg37 hDi rfl rfl rfl rfl), hI36⟩)⟩
      · cases (hpost 3 rfl).symm.trans hd1
    · intro D r wd38 hR hDi hpre hpost
      rcases hR with ⟨hd2, G34, hG35, hReg37, hI36⟩ | ⟨hd1, G34, hG35, hReg37, hI36⟩
      · have hH : Has [(7, Value.agg [Value.int .i64 a1, Value.int .i64 a2, Value.slice A4 a3.length c5, Value.string a8, Value.map (some g10)].toArray), (9, Value.int .i64 (w64 (a12 - 1)))] r := ⟨hReg37.get 0 rfl (hpre 0 rfl), hReg37.get 2 rfl (hpre 2 rfl), trivial⟩
        obtain ⟨r0, rfl⟩ := hH.ex
        have hI21 := Hp.front hI36 1 rfl
        refine q_cv (vs := [Value.agg [Value.int .i64 a1, Value.int .i64 a2, Value.slice A4 a3.length c5, Value.string a8, Value.map (some g10)].toArray, Value.int .i64 (w64 (a12 - 1)), Value.bool true]) bo52 rfl rfl (breaks_ruled_letters_k1_spec (a1 := a1) (a2 := a2) (a3 := a3) (a8 := a8) (a11 := a11) (a12 := w64 (a12 - 1)) (a13 := true) hI21 hl6 (Dat.mono hG35 hD7) hy22) ?_
        rintro _ wd25 ⟨G23, hG24, hI26, rfl⟩
        refine ⟨_, rfl, ?_⟩
        refine wpq_nil ?_
        exact ⟨rfl, (.inr ⟨rfl, _, (Gh.le_trans hG35 hG24), (Regs.step (Regs.more (new := [(3, 10, Value.string y27), (6, 13, Value.string y33), (7, 5, Value.string y27), (8, 6, Value.string y33)]) hReg37 (List.forall_mem_cons.2 ⟨hDi, (List.forall_mem_cons.2 ⟨hpost 6 rfl, (List.forall_mem_cons.2 ⟨hpost 7 rfl, (List.forall_mem_cons.2 ⟨hpost 8 rfl, (fun _ h => nomatch h)⟩)⟩)⟩)⟩)) hDi rfl rfl rfl rfl), hI26⟩)⟩
      · cases hDi.symm.trans hd1
    · intro D r wd38 hR hDi hpre hpost
      rcases hR with ⟨hd2, G34, hG35, hReg37, hI36⟩ | ⟨hd1, G34, hG35, hReg37, hI36⟩
      · have hH : Has [(2, Value.pointer (some ⟨g16, 0, none⟩))] r := ⟨hReg37.ins.get 1 rfl, trivial⟩
        obtain ⟨r0, rfl⟩ := hH.ex
        refine q_ldA hI36 0 (cs := [Value.int .i64 a1, Value.int .i64 a2, Value.slice A4 a3.length c5, Value.string a8, Value.map (some g10)]) ag45 rfl rfl rfl rfl ?_
        refine wpq_nil ?_
        exact ⟨rfl, (.inl ⟨hd2, _, hG35, (Regs.step hReg37 hDi rfl rfl rfl rfl), hI36⟩)⟩
      · have hH : Has [(2, Value.pointer (some ⟨g16, 0, none⟩))] r := ⟨hReg37.ins.get 1 rfl, trivial⟩
        obtain ⟨r0, rfl⟩ := hH.ex
        refine q_ldA hI36 1 (cs := [Value.int .i64 a1, Value.int .i64 a2, Value.slice A4 a3.length c5, Value.string a8, Value.map (some g10)]) ag45 rfl rfl rfl rfl ?_
        refine wpq_nil ?_
        exact ⟨rfl, (.inr ⟨hd1, _, hG35, (Regs.step hReg37 hDi rfl rfl rfl rfl), hI36⟩)⟩
    · intro D r wd38 hR hDi hpre hpost
      rcases hR with ⟨hd2, G34, hG35, hReg37, hI36⟩ | ⟨hd1, G34, hG35, hReg37, hI36⟩
      · have hH : Has [(1, Value.int .i64 a12)] r := ⟨hReg37.ins.get 0 rfl, trivial⟩
        obtain ⟨r0, rfl⟩ := hH.ex
        refine q_mv (v := Value.int .i64 a12) rfl ?_
        refine wpq_nil ?_
        exact ⟨rfl, (.inl ⟨hd2, _, hG35, (Regs.step hReg37 hDi rfl rfl rfl rfl), hI36⟩)⟩
      · have hH : Has [(1, Value.int .i64 a12)] r := ⟨hReg37.ins.get 0 rfl, trivial⟩
        obtain ⟨r0, rfl⟩ := hH.ex
        refine q_mv (v := Value.int .i64 a12) rfl ?_
        refine wpq_nil ?_
        exact ⟨rfl, (.inr ⟨hd1, _, hG35, (Regs.step hReg37 hDi rfl rfl rfl rfl), hI36⟩)⟩
    · intro D r wd38 hR hDi hpre hpost
      rcases hR with ⟨hd2, G34, hG35, hReg37, hI36⟩ | ⟨hd1, G34, hG35, hReg37, hI36⟩
      · cases (hpre 3 rfl).symm.trans hd2
      · have hH : Has [(11, Value.agg [Value.int .i64 a1, Value.int .i64 a2, Value.slice A4 a3.length c5, Value.string a8, Value.map (some g10)].toArray), (12, Value.int .i64 a12)] r := ⟨hReg37.get 3 rfl (hpre 4 rfl), hReg37.get 4 rfl (hpre 5 rfl), trivial⟩
        obtain ⟨r0, rfl⟩ := hH.ex
        refine q_cv (vs := [Value.agg [Value.int .i64 a1, Value.int .i64 a2, Value.slice A4 a3.length c5, Value.string a8, Value.map (some g10)].toArray, Value.int .i64 a12, Value.bool false]) bo52 rfl rfl (breaks_ruled_letters_k1_spec (a1 := a1) (a2 := a2) (a3 := a3) (a8 := a8) (a11 := a11) (a12 := a12) (a13 := false) hI36 hl6 (Dat.mono hG35 hD7) hy28) ?_
        rintro _ wd31 ⟨G29, hG30, hI32, rfl⟩
        refine ⟨_, rfl, ?_⟩
        refine wpq_nil ?_
        exact ⟨rfl, (.inr ⟨hd1, _, (Gh.le_trans hG35 hG30), (Regs.step hReg37 hDi rfl rfl rfl rfl), hI32⟩)⟩
    · intro D r wd38 hR hDi hpre hpost
      rcases hR with ⟨hd2, G34, hG35, hReg37, hI36⟩ | ⟨hd1, G34, hG35, hReg37, hI36⟩
      · cases (hpre 3 rfl).symm.trans hd2
      · have hH : Has [(10, Value.string y27)] r := ⟨hReg37.get 5 rfl (hpre 3 rfl), trivial⟩
        obtain ⟨r0, rfl⟩ := hH.ex
        refine q_as (v := Value.string y27) rfl ?_
        refine wpq_nil ?_
        exact ⟨rfl, (.inr ⟨hd1, _, hG35, (Regs.step hReg37 hDi rfl rfl rfl rfl), hI36⟩)⟩
    · intro D r wd38 hR hDi hpre hpost
      rcases hR with ⟨hd2, G34, hG35, hReg37, hI36⟩ | ⟨hd1, G34, hG35, hReg37, hI36⟩
      · cases (hpre 3 rfl).symm.trans hd2
      · have hH : Has [(13, Value.string y33)] r := ⟨hReg37.get 6 rfl (hpre 6 rfl), trivial⟩
        obtain ⟨r0, rfl⟩ := hH.ex
        refine q_as (v := Value.string y33) rfl ?_
        refine wpq_nil ?_
        exact ⟨rfl, (.inr ⟨hd1, _, hG35, (Regs.step hReg37 hDi rfl rfl rfl rfl), hI36⟩)⟩
  · intro D r wd38 hall hR
    rcases hR with ⟨hd2, G34, hG35, hReg37, hI36⟩ | ⟨hd1, G34, hG35, hReg37, hI36⟩
    · cases (hall 3 (Nat.le_of_ble_eq_true rfl)).symm.trans hd2
    · have hH : Has [(1, Value.int .i64 a12), (2, Value.pointer (some ⟨g16, 0, none⟩)), (5, Value.string y27), (6, Value.string y33)] r := ⟨hReg37.ins.get 0 rfl, hReg37.ins.get 1 rfl, hReg37.get 7 rfl (hall 7 (Nat.le_of_ble_eq_true rfl)), hReg37.get 8 rfl (hall 8 (Nat.le_of_ble_eq_true rfl)), trivial⟩
      obtain ⟨r0, rfl⟩ := hH.ex
      refine hK20 _ _ _ ?_
      refine wpc_seq_k fun K39 hK40 => ?_
      refine wpc_seq_k fun K41 hK42 => ?_
      refine wpc_region ?_
      refine q_mv (v := Value.int .i64 a12) rfl ?_
      refine q_lss rfl rfl ?_
      refine q_mv (v := Value.bool (decide (a12 < 2))) rfl ?_
      obtain ⟨v43, hC, H⟩ := bind_some H
      refine wpq_split 8 (K := fun e r ds w => e = .normal ∧ ∃ (G44 : Gh), ds = [] ∧ G34 ≤ G44 ∧ Has [(2, Value.pointer (some ⟨g16, 0, none⟩)), (5, Value.string y27), (6, Value.string y33), (24, Value.bool v43)] r ∧ Hp G44 (mpI g10 Value.string Value.bool a11 :: bx g16 [Value.int .i64 a1, Value.int .i64 a2, Value.slice A4 a3.length c5, Value.string a8, Value.map (some g10)] 45 :: L) w ∧ True) ?_ ?_
      · replace H := hC
        by_cases h49 : a12 < 2
        · replace H := ite_yes h49 H
          refine wpq_no (guard_no rfl rfl rfl (bool_yes h49) rfl) ?_
          refine wpq_no (guard_no rfl rfl rfl (bool_yes h49) rfl) ?_
          refine wpq_no (guard_no rfl rfl rfl (bool_yes h49) rfl) ?_
          refine wpq_no (guard_no rfl rfl rfl (bool_yes h49) rfl) ?_
          refine wpq_no (guard_no rfl rfl rfl (bool_yes h49) rfl) ?_
          refine wpq_no (guard_no rfl rfl rfl (bool_yes h49) rfl) ?_
          refine wpq_no (guard_no rfl rfl rfl (bool_yes h49) rfl) ?_
          refine q_pick true (v := Value.bool true) (bool_yes h49) rfl ?_
          refine wpq_nil ?_
          cases H
          exact ⟨rfl, _, rfl, (Gh.le_refl _), ⟨rfl, rfl, rfl, rfl, trivial⟩, hI36, trivial⟩
        · replace H := ite_no h49 H
          refine q_fa (a' := ⟨g16, 3, none⟩) fl45_1 rfl (add_plain _ _ _) ?_ (hw := guard_yes rfl rfl rfl (bool_no h49))
          refine q_ld hI36 1 (v := Value.string a8) ag9 rfl rfl rfl ?_ (hw := guard_yes rfl rfl rfl (bool_no h49))
          refine q_mv (v := Value.int .i64 a12) rfl ?_ (hw := guard_yes rfl rfl rfl (bool_no h49))
          refine q_sub rfl rfl ?_ (hw := guard_yes rfl rfl rfl (bool_no h49))
          obtain ⟨⟨h50, h50'⟩, H⟩ := ite_some H
          refine q_is so9 rfl rfl h50 h50' rfl ?_ (hw := guard_yes rfl rfl rfl (bool_no h49))
          obtain ⟨y56, hy51, H⟩ := bind_some H
          refine q_cv (vs := [Value.int .u8 (bt a8 (w64 (a12 - 2)))]) bo51 rfl rfl (breaks_letter_spec (a1 := bt a8 (w64 (a12 - 2))) hI36 hy51) ?_ (hw := guard_yes rfl rfl rfl (bool_no h49))
          rintro _ wd54 ⟨G52, hG53, hI55, rfl⟩
          refine ⟨_, rfl, ?_⟩
          refine q_not rfl ?_ (hw := guard_yes rfl rfl rfl (bool_no h49))
          refine q_pick false (v := Value.bool (!y56)) (bool_no h49) rfl ?_
          refine wpq_nil ?_
          cases H
          exact ⟨rfl, _, rfl, hG53, ⟨rfl, rfl, rfl, rfl, trivial⟩, hI55, trivial⟩
      · clear hC
        rintro e r ds wd46 ⟨rfl, G44, rfl, hG45, hHas, hI47, _⟩
        rw [hHas.eq]; clear hHas
        refine q_mv (v := Value.bool v43) rfl ?_
        obtain ⟨v57, hC, H⟩ := bind_some H
        refine wpq_split 7 (K := fun e r ds w => e = .normal ∧ ∃ (G58 : Gh), ds = [] ∧ G44 ≤ G58 ∧ Has [(2, Value.pointer (some ⟨g16, 0, none⟩)), (5, Value.string y27), (6, Value.string y33), (32, Value.bool v57)] r ∧ Hp G58 (mpI g10 Value.string Value.bool a11 :: bx g16 [Value.int .i64 a1, Value.int .i64 a2, Value.slice A4 a3.length c5, Value.string a8, Value.map (some g10)] 45 :: L) w ∧ True) ?_ ?_
        · replace H := hC
          by_cases h63 : v43 = true
          · replace H := ite_yes h63 H
            refine wpq_no (guard_no rfl rfl rfl (bval_yes h63) rfl) ?_
            refine wpq_no (guard_no rfl rfl rfl (bval_yes h63) rfl) ?_
            refine wpq_no (guard_no rfl rfl rfl (bval_yes h63) rfl) ?_
            refine wpq_no (guard_no rfl rfl rfl (bval_yes h63) rfl) ?_
            refine wpq_no (guard_no rfl rfl rfl (bval_yes h63) rfl) ?_
            refine wpq_no (guard_no rfl rfl rfl (bval_yes h63) rfl) ?_
            refine q_pick true (v := Value.bool true) (bval_yes h63) rfl ?_
            refine wpq_nil ?_
            cases H
            exact ⟨rfl, _, rfl, (Gh.le_refl _), ⟨rfl, rfl, rfl, rfl, trivial⟩, hI47, trivial⟩
          · replace H := ite_no h63 H
            refine q_mv (v := Value.string y27) rfl ?_ (hw := guard_yes rfl rfl rfl (bval_no h63))
            refine q_lens so9 rfl ?_ (hw := guard_yes rfl rfl rfl (bval_no h63))
            refine q_fa (a' := ⟨g16, 0, none⟩) fl45_0 rfl (add_plain _ _ _) ?_ (hw := guard_yes rfl rfl rfl (bval_no h63))
            refine q_fa (a' := ⟨g16, 0, none⟩) fl24_0 rfl (add_plain _ _ _) ?_ (hw := guard_yes rfl rfl rfl (bval_no h63))
            refine q_ld hI47 1 (v := Value.int .i64 a1) ag3 rfl rfl rfl ?_ (hw := guard_yes rfl rfl rfl (bval_no h63))
            refine q_lss rfl rfl ?_ (hw := guard_yes rfl rfl rfl (bval_no h63))
            refine q_pick false (v := Value.bool (decide ((y27.size : Int) < a1))) (bval_no h63) rfl ?_
            refine wpq_nil ?_
            cases H
            exact ⟨rfl, _, rfl, (Gh.le_refl _), ⟨rfl, rfl, rfl, rfl, trivial⟩, hI47, trivial⟩
        · clear hC
          rintro e r ds wd60 ⟨rfl, G58, rfl, hG59, hHas, hI61, _⟩
          rw [hHas.eq]; clear hHas
          refine q_mv (v := Value.bool v57) rfl ?_
          obtain ⟨v64, hC, H⟩ := bind_some H
          refine wpq_split 7 (K := fun e r ds w => e = .normal ∧ ∃ (G65 : Gh), ds = [] ∧ G58 ≤ G65 ∧ Has [(2, Value.pointer (some ⟨g16, 0, none⟩)), (5, Value.string y27), (6, Value.string y33), (40, Value.bool v64)] r ∧ Hp G65 (mpI g10 Value.string Value.bool a11 :: bx g16 [Value.int .i64 a1, Value.int .i64 a2, Value.slice A4 a3.length c5, Value.string a8, Value.map (some g10)] 45 :: L) w ∧ True) ?_ ?_
          · replace H := hC
            by_cases h70 : v57 = true
            · replace H := ite_yes h70 H
              refine wpq_no (guard_no rfl rfl rfl (bval_yes h70) rfl) ?_
              refine wpq_no (guard_no rfl rfl rfl (bval_yes h70) rfl) ?_
              refine wpq_no (guard_no rfl rfl rfl (bval_yes h70) rfl) ?_
              refine wpq_no (guard_no rfl rfl rfl (bval_yes h70) rfl) ?_
              refine wpq_no (guard_no rfl rfl rfl (bval_yes h70) rfl) ?_
              refine wpq_no (guard_no rfl rfl rfl (bval_yes h70) rfl) ?_
              refine q_pick true (v := Value.bool true) (bval_yes h70) rfl ?_
              refine wpq_nil ?_
              cases H
              exact ⟨rfl, _, rfl, (Gh.le_refl _), ⟨rfl, rfl, rfl, rfl, trivial⟩, hI61, trivial⟩
            · replace H := ite_no h70 H
              refine q_mv (v := Value.string y33) rfl ?_ (hw := guard_yes rfl rfl rfl (bval_no h70))
              refine q_lens so9 rfl ?_ (hw := guard_yes rfl rfl rfl (bval_no h70))
              refine q_fa (a' := ⟨g16, 0, none⟩) fl45_0 rfl (add_plain _ _ _) ?_ (hw := guard_yes rfl rfl rfl (bval_no h70))
              refine q_fa (a' := ⟨g16, 1, none⟩) fl24_1 rfl (add_plain _ _ _) ?_ (hw := guard_yes rfl rfl rfl (bval_no h70))
              refine q_ld hI61 1 (v := Value.int .i64 a2) ag3 rfl rfl rfl ?_ (hw := guard_yes rfl rfl rfl (bval_no h70))
              refine q_lss rfl rfl ?_ (hw := guard_yes rfl rfl rfl (bval_no h70))
              refine q_pick false (v := Value.bool (decide ((y33.size : Int) < a2))) (bval_no h70) rfl ?_
              refine wpq_nil ?_
              cases H
              exact ⟨rfl, _, rfl, (Gh.le_refl _), ⟨rfl, rfl, rfl, rfl, trivial⟩, hI61, trivial⟩
          · clear hC
            rintro e r ds wd67 ⟨rfl, G65, rfl, hG66, hHas, hI68, _⟩
            rw [hHas.eq]; clear hHas
            refine wpq_nil ?_
            refine hK42 _ _ _ ?_
            by_cases h71 : v64 = true
            · replace H := ite_yes h71 H
              refine wpc_true (bval_yes h71) ?_
              refine wpc_seq_k fun K72 hK73 => ?_
              refine wpc_region ?_
              refine q_as (v := Value.bool false) rfl ?_
              refine wpq_nil ?_
              refine hK73 _ _ _ ?_
              refine wpc_ret ?_
              have hI74 := Hp.sub (L := mpI g10 Value.string Value.bool a11 :: bx g16 [Value.int .i64 a1, Value.int .i64 a2, Value.slice A4 a3.length c5, Value.string a8, Value.map (some g10)] 45 :: L) (L' := mpI g10 Value.string Value.bool a11 :: L) hI68 (List.Sublist.cons_cons _ (List.Sublist.cons _ (List.Sublist.refl _)))
              cases H
              exact ⟨.inr rfl, rfl, _, ⟨_, _, rfl, rfl, rfl⟩, _, (Gh.le_trans (Gh.le_trans (Gh.le_trans hG35 hG45) hG59) hG66), hI74, rfl⟩
            · replace H := ite_no h71 H
              refine wpc_false (bval_no h71) ?_
              refine wpc_skip ?_
              refine hK40 _ _ _ ?_
              refine wpc_seq_k fun K75 hK76 => ?_
              obtain ⟨⟨h78, h79⟩, H⟩ := ite_some H
              obtain ⟨⟨h81, h82⟩, H⟩ := ite_some H
              obtain ⟨h83, H⟩ := ite_some H
              refine wpc_drawL [0, 1, 0, 4, 0, 16, 60, 127, 255, 511] (fun D r w => (∃ (G' : Gh), G65 ≤ G' ∧ Regs [(2, Value.pointer (some ⟨g16, 0, none⟩)), (5, Value.string y27), (6, Value.string y33)] [] [(0, 41, Value.pointer (some ⟨g16, 4, none⟩)), (1, 42, Value.map (some g10)), (2, 43, Value.string y27), (3, 44, Value.string (sub y27 0 1)), (4, 45, Value.string y33), (5, 46, Value.string (sub y33 0 1)), (6, 47, Value.string ((sub y27 0 1) ++ (sub y33 0 1))), (7, 48, Value.bool ((mget a11 ((sub y27 0 1) ++ (sub y33 0 1))).getD false)), (8, 49, Value.bool (!((mget a11 ((sub y27 0 1) ++ (sub y33 0 1))).getD false))), (9, 4, Value.bool (!((mget a11 ((sub y27 0 1) ++ (sub y33 0 1))).getD false)))] D r ∧ Hp G' (mpI g10 Value.string Value.bool a11 :: bx g16 [Value.int .i64 a1, Value.int .i64 a2, Value.slice A4 a3.length c5, Value.string a8, Value.map (some g10)] 45 :: L) w)) mixo rfl rfl ?_ ?_ ?_
              · exact ⟨_, Gh.le_refl _, Regs.start ⟨rfl, rfl, rfl, trivial⟩ trivial, hI68.drew⟩
              · refine ⟨?_, ?_, ?_, ?_, ?_, ?_, ?_, ?_, ?_, ?_, trivial⟩
                · intro D r wd88 hR hDi hpre hpost
                  obtain ⟨G84, hG85, hReg87, hI86⟩ := hR
                  have hH : Has [(2, Value.pointer (some ⟨g16, 0, none⟩))] r := ⟨hReg87.ins.get 0 rfl, trivial⟩
                  obtain ⟨r0, rfl⟩ := hH.ex
                  refine q_fa (a' := ⟨g16, 4, none⟩) fl45_2 rfl (add_plain _ _ _) ?_
                  refine wpq_nil ?_
                  exact ⟨rfl, ⟨_, hG85, (Regs.step hReg87 hDi rfl rfl rfl rfl), hI86⟩⟩
                · intro D r wd88 hR hDi hpre hpost
                  obtain ⟨G84, hG85, hReg87, hI86⟩ := hR
                  have hH : Has [(41, Value.pointer (some ⟨g16, 4, none⟩))] r := ⟨hReg87.get 0 rfl (hpre 0 rfl), trivial⟩
                  obtain ⟨r0, rfl⟩ := hH.ex
                  refine q_ld hI86 1 (v := Value.map (some g10)) ag43 rfl rfl rfl ?_
                  refine wpq_nil ?_
                  exact ⟨rfl, ⟨_, hG85, (Regs.step hReg87 hDi rfl rfl rfl rfl), hI86⟩⟩
                · intro D r wd88 hR hDi hpre hpost
                  obtain ⟨G84, hG85, hReg87, hI86⟩ := hR
                  have hH : Has [(5, Value.string y27)] r := ⟨hReg87.ins.get 1 rfl, trivial⟩
                  obtain ⟨r0, rfl⟩ := hH.ex
                  refine q_mv (v := Value.string y27) rfl ?_
                  refine wpq_nil ?_
                  exact ⟨rfl, ⟨_, hG85, (Regs.step hReg87 hDi rfl rfl rfl rfl), hI86⟩⟩
                · intro D r wd88 hR hDi hpre hpost
                  obtain ⟨G84, hG85, hReg87, hI86⟩ := hR
                  have hH : Has [(43, Value.string y27)] r := ⟨hReg87.get 2 rfl (hpre 2 rfl), trivial⟩
                  obtain ⟨r0, rfl⟩ := hH.ex
                  refine q_ss (l := 0) (h := 1) so9 rfl (.inl ⟨rfl, rfl⟩) (.inr ⟨_, rfl, rfl⟩) (Int.le_refl 0) h78 h79 ?_
                  refine wpq_nil ?_
                  exact ⟨rfl, ⟨_, hG85, (Regs.step hReg87 hDi rfl rfl rfl rfl), hI86⟩⟩
                · intro D r wd88 hR hDi hpre hpost
                  obtain ⟨G84, hG85, hReg87, hI86⟩ := hR
                  have hH : Has [(6, Value.string y33)] r := ⟨hReg87.ins.get 2 rfl, trivial⟩
                  obtain ⟨r0, rfl⟩ := hH.ex
                  refine q_mv (v := Value.string y33) rfl ?_
                  refine wpq_nil ?_
                  exact ⟨rfl, ⟨_, hG85, (Regs.step hReg87 hDi rfl rfl rfl rfl), hI86⟩⟩
                · intro D r wd88 hR hDi hpre hpost
                  obtain ⟨G84, hG85, hReg87, hI86⟩ := hR
                  have hH : Has [(45, Value.string y33)] r := ⟨hReg87.get 4 rfl (hpre 4 rfl), trivial⟩
                  obtain ⟨r0, rfl⟩ := hH.ex
                  refine q_ss (l := 0) (h := 1) so9 rfl (.inl ⟨rfl, rfl⟩) (.inr ⟨_, rfl, rfl⟩) (Int.le_refl 0) h81 h82 ?_
                  refine wpq_nil ?_
                  exact ⟨rfl, ⟨_, hG85, (Regs.step hReg87 hDi rfl rfl rfl rfl), hI86⟩⟩
                · intro D r wd88 hR hDi hpre hpost
                  obtain ⟨G84, hG85, hReg87, hI86⟩ := hR
                  have hH : Has [(44, Value.string (sub y27 0 1)), (46, Value.string (sub y33 0 1))] r := ⟨hReg87.get 3 rfl (hpre 3 rfl), hReg87.get 5 rfl (hpre 5 rfl), trivial⟩
                  obtain ⟨r0, rfl⟩ := hH.ex
                  refine q_str_add rfl rfl h83 ?_
                  refine wpq_nil ?_
                  exact ⟨rfl, ⟨_, hG85, (Regs.step hReg87 hDi rfl rfl rfl rfl), hI86⟩⟩
                · intro D r wd88 hR hDi hpre hpost
                  obtain ⟨G84, hG85, hReg87, hI86⟩ := hR
                  have hH : Has [(42, Value.map (some g10)), (47, Value.string ((sub y27 0 1) ++ (sub y33 0 1)))] r := ⟨hReg87.get 1 rfl (hpre 1 rfl), hReg87.get 6 rfl (hpre 6 rfl), trivial⟩
                  obtain ⟨r0, rfl⟩ := hH.ex
                  refine q_mlk (zv := false) hI86 0 mt43 (ky_str so9) zv4 rfl rfl rfl ?_
                  refine wpq_nil ?_
                  exact ⟨rfl, ⟨_, hG85, (Regs.step hReg87 hDi rfl rfl rfl rfl), hI86⟩⟩
                · intro D r wd88 hR hDi hpre hpost
                  obtain ⟨G84, hG85, hReg87, hI86⟩ := hR
                  have hH : Has [(48, Value.bool ((mget a11 ((sub y27 0 1) ++ (sub y33 0 1))).getD false))] r := ⟨hReg87.get 7 rfl (hpre 7 rfl), trivial⟩
                  obtain ⟨r0, rfl⟩ := hH.ex
                  refine q_not rfl ?_
                  refine wpq_nil ?_
                  exact ⟨rfl, ⟨_, hG85, (Regs.step hReg87 hDi rfl rfl rfl rfl), hI86⟩⟩
                · intro D r wd88 hR hDi hpre hpost
                  obtain ⟨G84, hG85, hReg87, hI86⟩ := hR
                  have hH : Has [(49, Value.bool (!((mget a11 ((sub y27 0 1) ++ (sub y33 0 1))).getD false)))] r := ⟨hReg87.get 8 rfl (hpre 8 rfl), trivial⟩
                  obtain ⟨r0, rfl⟩ := hH.ex
                  refine q_as (v := Value.bool (!((mget a11 ((sub y27 0 1) ++ (sub y33 0 1))).getD false))) rfl ?_
                  refine wpq_nil ?_
                  exact ⟨rfl, ⟨_, hG85, (Regs.step hReg87 hDi rfl rfl rfl rfl), hI86⟩⟩
              · intro D r wd88 hall hR
                obtain ⟨G84, hG85, hReg87, hI86⟩ := hR
                have hH : Has [(4, Value.bool (!((mget a11 ((sub y27 0 1) ++ (sub y33 0 1))).getD false)))] r := ⟨hReg87.get 9 rfl (hall 9 (Nat.le_of_ble_eq_true rfl)), trivial⟩
                obtain ⟨r0, rfl⟩ := hH.ex
                refine hK76 _ _ _ ?_
                refine wpc_ret ?_
                have hI89 := Hp.sub (L := mpI g10 Value.string Value.bool a11 :: bx g16 [Value.int .i64 a1, Value.int .i64 a2, Value.slice A4 a3.length c5, Value.string a8, Value.map (some g10)] 45 :: L) (L' := mpI g10 Value.string Value.bool a11 :: L) hI86 (List.Sublist.cons_cons _ (List.Sublist.cons _ (List.Sublist.refl _)))
                cases H
                exact ⟨.inr rfl, rfl, _, ⟨_, _, rfl, rfl, rfl⟩, _, (Gh.le_trans (Gh.le_trans (Gh.le_trans (Gh.le_trans hG35 hG45) hG59) hG66) hG85), hI89, rfl⟩
set_option maxHeartbeats 1000000 in
theorem breaks_ruled_places_1_k1_spec {σ : Type} {St : σ → Gh → List Itm → Prop} {yl : Nat} {φ : σ → api_Break → Option (σ × Bool)} {sy : σ} {a3 : Int} {a4 : Int} {a5 : List ByteArray} {a10 : ByteArray} {a13 : List (ByteArray × Bool)} {g2 : Nat} {A6 : Option Addr} {c7 : Nat} {g12 : Nat} {ry : σ} {G : Gh} {T : List Itm} {w : World} (hI : Hp G (bx g2 [Value.int .i64 a3, Value.int .i64 a4, Value.slice A6 a5.length c7, Value.string a10, Value.map (some g12)] 45 :: mpI g12 Value.string Value.bool a13 :: T) w) (hl8 : a5.length ≤ c7) (hD9 : Dat Kd.str G A6 a5) (hy : Yl Tryd.prog φ (encS k_api_Break) St yl) (hS : St sy G T) (H : breaks_ruled_places_1_k1 φ sy a3 a4 a5 a10 a13 = some ry) :
    Calls Tryd.prog 32 [Value.func (.yield yl) #[] #[], Value.pointer (some ⟨g2, 0, none⟩)].toArray w fun e w' => ∃ (T' : List Itm) (G' : Gh), G ≤ G' ∧ Hp G' (bx g2 [Value.int .i64 a3, Value.int .i64 a4, Value.slice A6 a5.length c7, Value.string a10, Value.map (some g12)] 45 :: mpI g12 Value.string Value.bool a13 :: T') w' ∧ St ry G' T' ∧ e = .returned (Value.tuple [].toArray) := by
  refine calls_intro (N := 75) Tryd.func32 rfl rfl (Nat.le_of_ble_eq_true rfl) ?_
  unfold breaks_ruled_places_1_k1 at H
  refine wpc_seq_k fun K14 hK15 => ?_
  refine wpc_region ?_
  refine q_as (v := Value.bool false) rfl ?_
  refine wpq_nil ?_
  refine hK15 _ _ _ ?_
  refine wpc_seq_k fun K16 hK17 => ?_
  refine wpc_region ?_
  refine q_as (v := Value.int .i64 1) rfl ?_
  refine wpq_nil ?_
  refine hK17 _ _ _ ?_
  refine wpc_block ?_
  obtain ⟨o51, hC, H⟩ := bind_some H
  refine wpc_mono (Q := fun e r ds w => match (generalizing := false) o51 with | (Sum.inl v38) => e = .ret ∧ ∃ (T37 : List Itm) (G43 : Gh), ds = [] ∧ G ≤ G43 ∧ Has [] r ∧ Hp G43 (bx g2 [Value.int .i64 a3, Value.int .i64 a4, Value.slice A6 a5.length c7, Value.string a10, Value.map (some g12)] 45 :: mpI g12 Value.string Value.bool a13 :: T37) w ∧ St v38 G43 T37 ∧ True | (Sum.inr v41) => e = .exit 0 ∧ ∃ (T40 : List Itm) (G47 : Gh), ds = [] ∧ G ≤ G47 ∧ Has [] r ∧ Hp G47 (bx g2 [Value.int .i64 a3, Value.int .i64 a4, Value.slice A6 a5.length c7, Value.string a10, Value.map (some g12)] 45 :: mpI g12 Value.string Value.bool a13 :: T40) w ∧ St v41 G47 T40 ∧ True) ?_ ?_
  · clear H
    refine wpc_loop fun I hLp => ?_
    refine breaks_ruled_places_1_k1_l36.partial_correctness φ a3 a4 a5 a10 a13 (fun v22 v23 v25 o => ∀ (T24 : List Itm) (G52 : Gh) (r : Rg) (w : World), G ≤ G52 → Has [(0, Value.func (.yield yl) #[] #[]), (1, Value.pointer (some ⟨g2, 0, none⟩)), (3, Value.bool v22), (4, Value.int .i64 v23)] r → Hp G52 (bx g2 [Value.int .i64 a3, Value.int .i64 a4, Value.slice A6 a5.length c7, Value.string a10, Value.map (some g12)] 45 :: mpI g12 Value.string Value.bool a13 :: T24) w → St v25 G52 T24 → o = o51 → I r [] w) ?_ false 1 sy _ hC T _ _ _ (Gh.le_refl _) ⟨rfl, rfl, rfl, rfl, trivial⟩ hI hS rfl
    intro _ ih v22 v23 v25 o H T24 G52 r wd54 hG53 hHas hI55 hS26 ho
    rw [ho] at H; clear ho
    rw [hHas.eq]; clear hHas
    refine hLp _ _ _ ?_
    refine wpc_seq_k fun K56 hK57 => ?_
    refine wpc_seq_k fun K58 hK59 => ?_
    refine wpc_region ?_
    refine q_mv (v := Value.int .i64 v23) rfl ?_
    refine q_fa (a' := ⟨g2, 3, none⟩) fl45_1 rfl (add_plain _ _ _) ?_
    refine q_ld hI55 0 (v := Value.string a10) ag9 rfl rfl rfl ?_
    refine q_lens so9 rfl ?_
    refine q_lss rfl rfl ?_
    refine wpq_nil ?_
    refine hK59 _ _ _ ?_
    by_cases h60 : v23 < (a10.size : Int)
    · replace H := ite_yes h60 H
      refine wpc_true (bool_yes h60) ?_
      refine wpc_skip ?_
      refine hK57 _ _ _ ?_
      refine wpc_seq_k fun K61 hK62 => ?_
      obtain ⟨o78, hC, H⟩ := bind_some H
      refine wpc_mono (Q := fun e r ds w => match (generalizing := false) o78 with | (Sum.inl v64) => e = .ret ∧ ∃ (T63 : List Itm) (G70 : Gh), ds = [] ∧ G52 ≤ G70 ∧ Has [] r ∧ Hp G70 (bx g2 [Value.int .i64 a3, Value.int .i64 a4, Value.slice A6 a5.length c7, Value.string a10, Value.map (some g12)] 45 :: mpI g12 Value.string Value.bool a13 :: T63) w ∧ St v64 G70 T63 ∧ True | (Sum.inr (v66, v68)) => e = .normal ∧ ∃ (T67 : List Itm) (G74 : Gh), ds = [] ∧ G52 ≤ G74 ∧ Has [(0, Value.func (.yield yl) #[] #[]), (1, Value.pointer (some ⟨g2, 0, none⟩)), (3, Value.bool v66), (4, Value.int .i64 v23)] r ∧ Hp G74 (bx g2 [Value.int .i64 a3, Value.int .i64 a4, Value.slice A6 a5.length c7, Value.string a10, Value.map (some g12)] 45 :: mpI g12 Value.string Value.bool a13 :: T67) w ∧ St v68 G74 T67 ∧ True) ?_ ?_
      · replace H := hC
        refine wpc_block ?_
        refine wpc_seq_k fun K79 hK80 => ?_
        refine wpc_region ?_
        refine q_mv (v := Value.bool v22) rfl ?_
        refine q_mv (v := Value.bool v22) rfl ?_
        obtain ⟨v81, hC, H⟩ := bind_some H
        refine wpq_split 7 (K := fun e r ds w => e = .normal ∧ ∃ (G82 : Gh), ds = [] ∧ G52 ≤ G82 ∧ Has [(0, Value.func (.yield yl) #[] #[]), (1, Value.pointer (some ⟨g2, 0, none⟩)), (4, Value.int .i64 v23), (21, Value.bool v81)] r ∧ Hp G82 (bx g2 [Value.int .i64 a3, Value.int .i64 a4, Value.slice A6 a5.length c7, Value.string a10, Value.map (some g12)] 45 :: mpI g12 Value.string Value.bool a13 :: T24) w ∧ True) ?_ ?_
        · replace H := hC
          by_cases h87 : v22 = true
          · replace H := ite_yes h87 H
            refine wpq_no (guard_no rfl rfl rfl (bval_yes h87) rfl) ?_
            refine wpq_no (guard_no rfl rfl rfl (bval_yes h87) rfl) ?_
            refine wpq_no (guard_no rfl rfl rfl (bval_yes h87) rfl) ?_
            refine wpq_no (guard_no rfl rfl rfl (bval_yes h87) rfl) ?_
            refine wpq_no (guard_no rfl rfl rfl (bval_yes h87) rfl) ?_
            refine wpq_no (guard_no rfl rfl rfl (bval_yes h87) rfl) ?_
            refine q_pick true (v := Value.bool true) (bval_yes h87) rfl ?_
            refine wpq_nil ?_
            cases H
            exact ⟨rfl, _, rfl, (Gh.le_refl _), ⟨rfl, rfl, rfl, rfl, trivial⟩, hI55, trivial⟩
          · replace H := ite_no h87 H
            refine q_fa (a' := ⟨g2, 3, none⟩) fl45_1 rfl (add_plain _ _ _) ?_ (hw := guard_yes rfl rfl rfl (bval_no h87))
            refine q_ld hI55 0 (v := Value.string a10) ag9 rfl rfl rfl ?_ (hw := guard_yes rfl rfl rfl (bval_no h87))
            refine q_mv (v := Value.int .i64 v23) rfl ?_ (hw := guard_yes rfl rfl rfl (bval_no h87))
            refine q_sub rfl rfl ?_ (hw := guard_yes rfl rfl rfl (bval_no h87))
            obtain ⟨⟨h88, h88'⟩, H⟩ := ite_some H
            refine q_is so9 rfl rfl h88 h88' rfl ?_ (hw := guard_yes rfl rfl rfl (bval_no h87))
            refine q_neq rfl rfl ?_ (hw := guard_yes rfl rfl rfl (bval_no h87))
            refine q_pick false (v := Value.bool (decide (¬ (bt a10 (w64 (v23 - 1))) = 32))) (bval_no h87) rfl ?_
            refine wpq_nil ?_
            cases H
            exact ⟨rfl, _, rfl, (Gh.le_refl _), ⟨rfl, rfl, rfl, rfl, trivial⟩, hI55, trivial⟩
        · clear hC
          rintro e r ds wd84 ⟨rfl, G82, rfl, hG83, hHas, hI85, _⟩
          rw [hHas.eq]; clear hHas
          refine q_as (v := Value.bool v81) rfl ?_
          refine wpq_nil ?_
          refine hK80 _ _ _ ?_
          refine wpc_seq_k fun K89 hK90 => ?_
          refine wpc_region ?_
          refine q_as (v := Value.bool false) rfl ?_
          refine wpq_nil ?_
          refine hK90 _ _ _ ?_
          refine wpc_seq_k fun K91 hK92 => ?_
          refine wpc_seq_k fun K93 hK94 => ?_
          refine wpc_region ?_
          refine q_fa (a' := ⟨g2, 3, none⟩) fl45_1 rfl (add_plain _ _ _) ?_
          refine q_ld hI85 0 (v := Value.string a10) ag9 rfl rfl rfl ?_
          refine q_mv (v := Value.int .i64 v23) rfl ?_
          refine q_sub rfl rfl ?_
          obtain ⟨⟨h95, h95'⟩, H⟩ := ite_some H
          refine q_is so9 rfl rfl h95 h95' rfl ?_
          refine wpq_nil ?_
          refine hK94 _ _ _ ?_
          refine wpc_block ?_
          refine wpc_seq_k fun K96 hK97 => ?_
          refine wpc_region ?_
          refine q_eql rfl rfl ?_
          refine q_as (v := Value.bool (decide ((bt a10 (w64 (v23 - 1))) = 32))) rfl ?_
          refine wpq_nil ?_
          refine hK97 _ _ _ ?_
          by_cases h98 : (bt a10 (w64 (v23 - 1))) = 32
          · replace H := ite_yes h98 H
            refine wpc_true (bool_yes h98) ?_
            refine wpc_region ?_
            refine q_mv (v := Value.bool v81) rfl ?_
            refine q_mv (v := Value.bool v81) rfl ?_
            obtain ⟨v99, hC, H⟩ := bind_some H
            refine wpq_split 6 (K := fun e r ds w => e = .normal ∧ ∃ (G100 : Gh), ds = [] ∧ G82 ≤ G100 ∧ Has [(0, Value.func (.yield yl) #[] #[]), (1, Value.pointer (some ⟨g2, 0, none⟩)), (3, Value.bool v81), (4, Value.int .i64 v23), (36, Value.bool v99)] r ∧ Hp G100 (bx g2 [Value.int .i64 a3, Value.int .i64 a4, Value.slice A6 a5.length c7, Value.string a10, Value.map (some g12)] 45 :: mpI g12 Value.string Value.bool a13 :: T24) w ∧ True) ?_ ?_
            · replace H := hC
              by_cases h105 : v81 = true
              · replace H := ite_yes h105 H
                refine q_fa (a' := ⟨g2, 3, none⟩) fl45_1 rfl (add_plain _ _ _) ?_ (hw := guard_yes rfl rfl rfl (bval_yes h105))
                refine q_ld hI85 0 (v := Value.string a10) ag9 rfl rfl rfl ?_ (hw := guard_yes rfl rfl rfl (bval_yes h105))
                refine q_mv (v := Value.int .i64 v23) rfl ?_ (hw := guard_yes rfl rfl rfl (bval_yes h105))
                obtain ⟨⟨h106, h106'⟩, H⟩ := ite_some H
                refine q_is so9 rfl rfl h106 h106' rfl ?_ (hw := guard_yes rfl rfl rfl (bval_yes h105))
                refine q_neq rfl rfl ?_ (hw := guard_yes rfl rfl rfl (bval_yes h105))
                refine q_pick true (v := Value.bool (decide (¬ (bt a10 v23) = 32))) (bval_yes h105) rfl ?_
                refine wpq_nil ?_
                cases H
                exact ⟨rfl, _, rfl, (Gh.le_refl _), ⟨rfl, rfl, rfl, rfl, rfl, trivial⟩, hI85, trivial⟩
              · replace H := ite_no h105 H
                refine wpq_no (guard_no rfl rfl rfl (bval_no h105) rfl) ?_
                refine wpq_no (guard_no rfl rfl rfl (bval_no h105) rfl) ?_
                refine wpq_no (guard_no rfl rfl rfl (bval_no h105) rfl) ?_
                refine wpq_no (guard_no rfl rfl rfl (bval_no h105) rfl) ?_
                refine wpq_no (guard_no rfl rfl rfl (bval_no h105) rfl) ?_
                refine q_pick false (v := Value.bool false) (bval_no h105) rfl ?_
                refine wpq_nil ?_
                cases H
                exact ⟨rfl, _, rfl, (Gh.le_refl _), ⟨rfl, rfl, rfl, rfl, rfl, trivial⟩, hI85, trivial⟩
            · clear hC
              rintro e r ds wd102 ⟨rfl, G100, rfl, hG101, hHas, hI103, _⟩
              rw [hHas.eq]; clear hHas
              refine q_as (v := Value.bool v99) rfl ?_
              refine wpq_nil ?_
              refine hK92 _ _ _ ?_
              refine wpc_seq_k fun K107 hK108 => ?_
              refine wpc_region ?_
              refine q_mv (v := Value.bool v99) rfl ?_
              refine q_mv (v := Value.bool v99) rfl ?_
              obtain ⟨⟨v109, v111⟩, hC, H⟩ := bind_some H
              refine wpq_split 12 (K := fun e r ds w => e = .normal ∧ ∃ (T110 : List Itm) (G113 : Gh), ds = [] ∧ G100 ≤ G113 ∧ Has [(0, Value.func (.yield yl) #[] #[]), (1, Value.pointer (some ⟨g2, 0, none⟩)), (3, Value.bool v81), (4, Value.int .i64 v23), (74, Value.bool v109)] r ∧ Hp G113 (bx g2 [Value.int .i64 a3, Value.int .i64 a4, Value.slice A6 a5.length c7, Value.string a10, Value.map (some g12)] 45 :: mpI g12 Value.string Value.bool a13 :: T110) w ∧ St v111 G113 T110 ∧ True) ?_ ?_
              · replace H := hC
                by_cases h118 : v99 = true
                · replace H := ite_yes h118 H
                  refine q_mv (v := Value.func (.yield yl) #[] #[]) rfl ?_ (hw := guard_yes rfl rfl rfl (bval_yes h118))
                  refine q_mv (v := Value.int .i64 v23) rfl ?_ (hw := guard_yes rfl rfl rfl (bval_yes h118))
                  refine q_fa (a' := ⟨g2, 3, none⟩) fl45_1 rfl (add_plain _ _ _) ?_ (hw := guard_yes rfl rfl rfl (bval_yes h118))
                  refine q_ld hI103 0 (v := Value.string a10) ag9 rfl rfl rfl ?_ (hw := guard_yes rfl rfl rfl (bval_yes h118))
                  refine q_mv (v := Value.int .i64 v23) rfl ?_ (hw := guard_yes rfl rfl rfl (bval_yes h118))
                  refine q_sub rfl rfl ?_ (hw := guard_yes rfl rfl rfl (bval_yes h118))
                  obtain ⟨⟨h119, h119'⟩, H⟩ := ite_some H
                  refine q_is so9 rfl rfl h119 h119' rfl ?_ (hw := guard_yes rfl rfl rfl (bval_yes h118))
                  refine q_eql rfl rfl ?_ (hw := guard_yes rfl rfl rfl (bval_yes h118))
                  refine q_build (vs := [(0, Value.int .i64 v23), (1, Value.bool (decide ((bt a10 (w64 (v23 - 1))) = 126)))]) (cs := [Value.int .i64 v23, Value.bool (decide ((bt a10 (w64 (v23 - 1))) = 126))]) ze37 pl37 rfl rfl ?_ (hw := guard_yes rfl rfl rfl (bval_yes h118))
                  obtain ⟨⟨s120, b121⟩, hx122, H⟩ := bind_some H
                  refine q_yl hy [bx g2 [Value.int .i64 a3, Value.int .i64 a4, Value.slice A6 a5.length c7, Value.string a10, Value.map (some g12)] 45, mpI g12 Value.string Value.bool a13] hI103 (hy.mono (Gh.le_trans hG83 hG101) hS26) rfl rfl ⟨_, rfl, (mk_api_Break (x := (⟨v23, decide ((bt a10 (w64 (v23 - 1))) = 126)⟩ : api_Break)))⟩ hx122 (fun wd123 G124 T125 hG126 hS127 hI128 => ?_) (hw := guard_yes rfl rfl rfl (bval_yes h118))
                  refine q_not rfl ?_ (hw := guard_yes rfl rfl rfl (bval_yes h118))
                  refine q_pick true (v := Value.bool (!b121)) (bval_yes h118) rfl ?_
                  refine wpq_nil ?_
                  cases H
                  exact ⟨rfl, T125, _, rfl, hG126, ⟨rfl, rfl, rfl, rfl, rfl, trivial⟩, hI128, hS127, trivial⟩
                · replace H := ite_no h118 H
                  refine wpq_no (guard_no rfl rfl rfl (bval_no h118) rfl) ?_
                  refine wpq_no (guard_no rfl rfl rfl (bval_no h118) rfl) ?_
                  refine wpq_no (guard_no rfl rfl rfl (bval_no h118) rfl) ?_
                  refine wpq_no (guard_no rfl rfl rfl (bval_no h118) rfl) ?_
                  refine wpq_no (guard_no rfl rfl rfl (bval_no h118) rfl) ?_
                  refine wpq_no (guard_no rfl rfl rfl (bval_no h118) rfl) ?_
                  refine wpq_no (guard_no rfl rfl rfl (bval_no h118) rfl) ?_
                  refine wpq_no (guard_no rfl rfl rfl (bval_no h118) rfl) ?_
                  refine wpq_no (guard_no rfl rfl rfl (bval_no h118) rfl) ?_
                  refine wpq_no (guard_no rfl rfl rfl (bval_no h118) rfl) ?_
                  refine wpq_no (guard_no rfl rfl rfl (bval_no h118) rfl) ?_
                  refine q_pick false (v := Value.bool false) (bval_no h118) rfl ?_
                  refine wpq_nil ?_
                  cases H
                  exact ⟨rfl, T24, _, rfl, (Gh.le_refl _), ⟨rfl, rfl, rfl, rfl, rfl, trivial⟩, hI103, (hy.mono (Gh.le_trans hG83 hG101) hS26), trivial⟩
              · clear hC
                rintro e r ds wd115 ⟨rfl, T110, G113, rfl, hG114, hHas, hI116, hS112, _⟩
                rw [hHas.eq]; clear hHas
                refine wpq_nil ?_
                refine hK108 _ _ _ ?_
                by_cases h129 : v109 = true
                · replace H := ite_yes h129 H
                  refine wpc_true (bval_yes h129) ?_
                  refine wpc_ret ?_
                  cases H
                  exact ⟨rfl, T110, _, rfl, (Gh.le_trans (Gh.le_trans hG83 hG101) hG114), trivial, hI116, hS112, trivial⟩
                · replace H := ite_no h129 H
                  refine wpc_false (bval_no h129) ?_
                  refine wpc_skip ?_
                  cases H
                  exact ⟨rfl, T110, _, rfl, (Gh.le_trans (Gh.le_trans hG83 hG101) hG114), ⟨rfl, rfl, rfl, rfl, trivial⟩, hI116, hS112, trivial⟩
          · replace H := ite_no h98 H
            refine wpc_false (bool_no h98) ?_
            refine wpc_seq_k fun K130 hK131 => ?_
            refine wpc_region ?_
            refine q_eql rfl rfl ?_
            refine q_as (v := Value.bool (decide ((bt a10 (w64 (v23 - 1))) = 45))) rfl ?_
            refine wpq_nil ?_
            refine hK131 _ _ _ ?_
            by_cases h132 : (bt a10 (w64 (v23 - 1))) = 45
            · replace H := ite_yes h132 H
              refine wpc_true (bool_yes h132) ?_
              refine wpc_region ?_
              refine q_mv (v := Value.int .i64 v23) rfl ?_
              refine q_gtr rfl rfl ?_
              refine q_mv (v := Value.bool (decide (1 < v23))) rfl ?_
              obtain ⟨v133, hC, H⟩ := bind_some H
              refine wpq_split 7 (K := fun e r ds w => e = .normal ∧ ∃ (G134 : Gh), ds = [] ∧ G82 ≤ G134 ∧ Has [(0, Value.func (.yield yl) #[] #[]), (1, Value.pointer (some ⟨g2, 0, none⟩)), (3, Value.bool v81), (4, Value.int .i64 v23), (48, Value.bool v133)] r ∧ Hp G134 (bx g2 [Value.int .i64 a3, Value.int .i64 a4, Value.slice A6 a5.length c7, Value.string a10, Value.map (some g12)] 45 :: mpI g12 Value.string Value.bool a13 :: T24) w ∧ True) ?_ ?_
              · replace H := hC
                by_cases h139 : 1 < v23
                · replace H := ite_yes h139 H
                  refine q_fa (a' := ⟨g2, 3, none⟩) fl45_1 rfl (add_plain _ _ _) ?_ (hw := guard_yes rfl rfl rfl (bool_yes h139))
                  refine q_ld hI85 0 (v := Value.string a10) ag9 rfl rfl rfl ?_ (hw := guard_yes rfl rfl rfl (bool_yes h139))
                  refine q_mv (v := Value.int .i64 v23) rfl ?_ (hw := guard_yes rfl rfl rfl (bool_yes h139))
                  refine q_sub rfl rfl ?_ (hw := guard_yes rfl rfl rfl (bool_yes h139))
                  obtain ⟨⟨h140, h140'⟩, H⟩ := ite_some H
                  refine q_is so9 rfl rfl h140 h140' rfl ?_ (hw := guard_yes rfl rfl rfl (bool_yes h139))
                  obtain ⟨y146, hy141, H⟩ := bind_some H
                  refine q_cv (vs := [Value.int .u8 (bt a10 (w64 (v23 - 2)))]) bo33 rfl rfl (breaks_solid_spec (a1 := bt a10 (w64 (v23 - 2))) hI85 hy141) ?_ (hw := guard_yes rfl rfl rfl (bool_yes h139))
                  rintro _ wd144 ⟨G142, hG143, hI145, rfl⟩
                  refine ⟨_, rfl, ?_⟩
                  refine q_pick true (v := Value.bool y146) (bool_yes h139) rfl ?_
                  refine wpq_nil ?_
                  cases H
                  exact ⟨rfl, _, rfl, hG143, ⟨rfl, rfl, rfl, rfl, rfl, trivial⟩, hI145, trivial⟩
                · replace H := ite_no h139 H
                  refine wpq_no (guard_no rfl rfl rfl (bool_no h139) rfl) ?_
                  refine wpq_no (guard_no rfl rfl rfl (bool_no h139) rfl) ?_
                  refine wpq_no (guard_no rfl rfl rfl (bool_no h139) rfl) ?_
                  refine wpq_no (guard_no rfl rfl rfl (bool_no h139) rfl) ?_
                  refine wpq_no (guard_no rfl rfl rfl (bool_no h139) rfl) ?_
                  refine wpq_no (guard_no rfl rfl rfl (bool_no h139) rfl) ?_
                  refine q_pick false (v := Value.bool false) (bool_no h139) rfl ?_
                  refine wpq_nil ?_
                  cases H
                  exact ⟨rfl, _, rfl, (Gh.le_refl _), ⟨rfl, rfl, rfl, rfl, rfl, trivial⟩, hI85, trivial⟩
              · clear hC
                rintro e r ds wd136 ⟨rfl, G134, rfl, hG135, hHas, hI137, _⟩
                rw [hHas.eq]; clear hHas
                refine q_mv (v := Value.bool v133) rfl ?_
                obtain ⟨v147, hC, H⟩ := bind_some H
                refine wpq_split 6 (K := fun e r ds w => e = .normal ∧ ∃ (G148 : Gh), ds = [] ∧ G134 ≤ G148 ∧ Has [(0, Value.func (.yield yl) #[] #[]), (1, Value.pointer (some ⟨g2, 0, none⟩)), (3, Value.bool v81), (4, Value.int .i64 v23), (55, Value.bool v147)] r ∧ Hp G148 (bx g2 [Value.int .i64 a3, Value.int .i64 a4, Value.slice A6 a5.length c7, Value.string a10, Value.map (some g12)] 45 :: mpI g12 Value.string Value.bool a13 :: T24) w ∧ True) ?_ ?_
                · replace H := hC
                  by_cases h153 : v133 = true
                  · replace H := ite_yes h153 H
                    refine q_fa (a' := ⟨g2, 3, none⟩) fl45_1 rfl (add_plain _ _ _) ?_ (hw := guard_yes rfl rfl rfl (bval_yes h153))
                    refine q_ld hI137 0 (v := Value.string a10) ag9 rfl rfl rfl ?_ (hw := guard_yes rfl rfl rfl (bval_yes h153))
                    refine q_mv (v := Value.int .i64 v23) rfl ?_ (hw := guard_yes rfl rfl rfl (bval_yes h153))
                    obtain ⟨⟨h154, h154'⟩, H⟩ := ite_some H
                    refine q_is so9 rfl rfl h154 h154' rfl ?_ (hw := guard_yes rfl rfl rfl (bval_yes h153))
                    obtain ⟨y160, hy155, H⟩ := bind_some H
                    refine q_cv (vs := [Value.int .u8 (bt a10 v23)]) bo33 rfl rfl (breaks_solid_spec (a1 := bt a10 v23) hI137 hy155) ?_ (hw := guard_yes rfl rfl rfl (bval_yes h153))
                    rintro _ wd158 ⟨G156, hG157, hI159, rfl⟩
                    refine ⟨_, rfl, ?_⟩
                    refine q_pick true (v := Value.bool y160) (bval_yes h153) rfl ?_
                    refine wpq_nil ?_
                    cases H
                    exact ⟨rfl, _, rfl, hG157, ⟨rfl, rfl, rfl, rfl, rfl, trivial⟩, hI159, trivial⟩
                  · replace H := ite_no h153 H
                    refine wpq_no (guard_no rfl rfl rfl (bval_no h153) rfl) ?_
                    refine wpq_no (guard_no rfl rfl rfl (bval_no h153) rfl) ?_
                    refine wpq_no (guard_no rfl rfl rfl (bval_no h153) rfl) ?_
                    refine wpq_no (guard_no rfl rfl rfl (bval_no h153) rfl) ?_
                    refine wpq_no (guard_no rfl rfl rfl (bval_no h153) rfl) ?_
                    refine q_pick false (v := Value.bool false) (bval_no h153) rfl ?_
                    refine wpq_nil ?_
                    cases H
                    exact ⟨rfl, _, rfl, (Gh.le_refl _), ⟨rfl, rfl, rfl, rfl, rfl, trivial⟩, hI137, trivial⟩
                · clear hC
                  rintro e r ds wd150 ⟨rfl, G148, rfl, hG149, hHas, hI151, _⟩
                  rw [hHas.eq]; clear hHas
                  refine q_as (v := Value.bool v147) rfl ?_
                  refine wpq_nil ?_
                  refine hK92 _ _ _ ?_
                  refine wpc_seq_k fun K161 hK162 => ?_
                  refine wpc_region ?_
                  refine q_mv (v := Value.bool v147) rfl ?_
                  refine q_mv (v := Value.bool v147) rfl ?_
                  obtain ⟨⟨v163, v165⟩, hC, H⟩ := bind_some H
                  refine wpq_split 12 (K := fun e r ds w => e = .normal ∧ ∃ (T164 : List Itm) (G167 : Gh), ds = [] ∧ G148 ≤ G167 ∧ Has [(0, Value.func (.yield yl) #[] #[]), (1, Value.pointer (some ⟨g2, 0, none⟩)), (3, Value.bool v81), (4, Value.int .i64 v23), (74, Value.bool v163)] r ∧ Hp G167 (bx g2 [Value.int .i64 a3, Value.int .i64 a4, Value.slice A6 a5.length c7, Value.string a10, Value.map (some g12)] 45 :: mpI g12 Value.string Value.bool a13 :: T164) w ∧ St v165 G167 T164 ∧ True) ?_ ?_
                  · replace H := hC
                    by_cases h172 : v147 = true
                    · replace H := ite_yes h172 H
                      refine q_mv (v := Value.func (.yield yl) #[] #[]) rfl ?_ (hw := guard_yes rfl rfl rfl (bval_yes h172))
                      refine q_mv (v := Value.int .i64 v23) rfl ?_ (hw := guard_yes rfl rfl rfl (bval_yes h172))
                      refine q_fa (a' := ⟨g2, 3, none⟩) fl45_1 rfl (add_plain _ _ _) ?_ (hw := guard_yes rfl rfl rfl (bval_yes h172))
                      refine q_ld hI151 0 (v := Value.string a10) ag9 rfl rfl rfl ?_ (hw := guard_yes rfl rfl rfl (bval_yes h172))
                      refine q_mv (v := Value.int .i64 v23) rfl ?_ (hw := guard_yes rfl rfl rfl (bval_yes h172))
                      refine q_sub rfl rfl ?_ (hw := guard_yes rfl rfl rfl (bval_yes h172))
                      obtain ⟨⟨h173, h173'⟩, H⟩ := ite_some H
                      refine q_is so9 rfl rfl h173 h173' rfl ?_ (hw := guard_yes rfl rfl rfl (bval_yes h172))
                      refine q_eql rfl rfl ?_ (hw := guard_yes rfl rfl rfl (bval_yes h172))
                      refine q_build (vs := [(0, Value.int .i64 v23), (1, Value.bool (decide ((bt a10 (w64 (v23 - 1))) = 126)))]) (cs := [Value.int .i64 v23, Value.bool (decide ((bt a10 (w64 (v23 - 1))) = 126))]) ze37 pl37 rfl rfl ?_ (hw := guard_yes rfl rfl rfl (bval_yes h172))
                      obtain ⟨⟨s174, b175⟩, hx176, H⟩ := bind_some H
                      refine q_yl hy [bx g2 [Value.int .i64 a3, Value.int .i64 a4, Value.slice A6 a5.length c7, Value.string a10, Value.map (some g12)] 45, mpI g12 Value.string Value.bool a13] hI151 (hy.mono (Gh.le_trans (Gh.le_trans hG83 hG135) hG149) hS26) rfl rfl ⟨_, rfl, (mk_api_Break (x := (⟨v23, decide ((bt a10 (w64 (v23 - 1))) = 126)⟩ : api_Break)))⟩ hx176 (fun wd177 G178 T179 hG180 hS181 hI182 => ?_) (hw := guard_yes rfl rfl rfl (bval_yes h172))
                      refine q_not rfl ?_ (hw := guard_yes rfl rfl rfl (bval_yes h172))
                      refine q_pick true (v := Value.bool (!b175)) (bval_yes h172) rfl ?_
                      refine wpq_nil ?_
                      cases H
                      exact ⟨rfl, T179, _, rfl, hG180, ⟨rfl, rfl, rfl, rfl, rfl, trivial⟩, hI182, hS181, trivial⟩
                    · replace H := ite_no h172 H
                      refine wpq_no (guard_no rfl rfl rfl (bval_no h172) rfl) ?_
                      refine wpq_no (guard_no rfl rfl rfl (bval_no h172) rfl) ?_
                      refine wpq_no (guard_no rfl rfl rfl (bval_no h172) rfl) ?_
                      refine wpq_no (guard_no rfl rfl rfl (bval_no h172) rfl) ?_
                      refine wpq_no (guard_no rfl rfl rfl (bval_no h172) rfl) ?_
                      refine wpq_no (guard_no rfl rfl rfl (bval_no h172) rfl) ?_
                      refine wpq_no (guard_no rfl rfl rfl (bval_no h172) rfl) ?_
                      refine wpq_no (guard_no rfl rfl rfl (bval_no h172) rfl) ?_
                      refine wpq_no (guard_no rfl rfl rfl (bval_no h172) rfl) ?_
                      refine wpq_no (guard_no rfl rfl rfl (bval_no h172) rfl) ?_
                      refine wpq_no (guard_no rfl rfl rfl (bval_no h172) rfl) ?_
                      refine q_pick false (v := Value.bool false) (bval_no h172) rfl ?_
                      refine wpq_nil ?_
                      cases H
                      exact ⟨rfl, T24, _, rfl, (Gh.le_refl _), ⟨rfl, rfl, rfl, rfl, rfl, trivial⟩, hI151, (hy.mono (Gh.le_trans (Gh.le_trans hG83 hG135) hG149) hS26), trivial⟩
                  · clear hC
                    rintro e r ds wd169 ⟨rfl, T164, G167, rfl, hG168, hHas, hI170, hS166, _⟩
                    rw [hHas.eq]; clear hHas
                    refine wpq_nil ?_
                    refine hK162 _ _ _ ?_
                    by_cases h183 : v163 = true
                    · replace H := ite_yes h183 H
                      refine wpc_true (bval_yes h183) ?_
                      refine wpc_ret ?_
                      cases H
                      exact ⟨rfl, T164, _, rfl, (Gh.le_trans (Gh.le_trans (Gh.le_trans hG83 hG135) hG149) hG168), trivial, hI170, hS166, trivial⟩
                    · replace H := ite_no h183 H
                      refine wpc_false (bval_no h183) ?_
                      refine wpc_skip ?_
                      cases H
                      exact ⟨rfl, T164, _, rfl, (Gh.le_trans (Gh.le_trans (Gh.le_trans hG83 hG135) hG149) hG168), ⟨rfl, rfl, rfl, rfl, trivial⟩, hI170, hS166, trivial⟩
            · replace H := ite_no h132 H
              refine wpc_false (bool_no h132) ?_
              refine wpc_seq_k fun K184 hK185 => ?_
              refine wpc_region ?_
              refine q_eql rfl rfl ?_
              refine q_as (v := Value.bool (decide ((bt a10 (w64 (v23 - 1))) = 126))) rfl ?_
              refine wpq_nil ?_
              refine hK185 _ _ _ ?_
              by_cases h186 : (bt a10 (w64 (v23 - 1))) = 126
              · replace H := ite_yes h186 H
                refine wpc_true (bool_yes h186) ?_
                refine wpc_region ?_
                refine q_ldA hI85 0 (cs := [Value.int .i64 a3, Value.int .i64 a4, Value.slice A6 a5.length c7, Value.string a10, Value.map (some g12)]) ag45 rfl rfl rfl rfl ?_
                refine q_mv (v := Value.int .i64 v23) rfl ?_
                have hI187 := Hp.front hI85 1 rfl
                obtain ⟨y193, hy188, H⟩ := bind_some H
                refine q_cv (vs := [Value.agg [Value.int .i64 a3, Value.int .i64 a4, Value.slice A6 a5.length c7, Value.string a10, Value.map (some g12)].toArray, Value.int .i64 v23]) bo34 rfl rfl (breaks_ruled_soft_k1_spec (a1 := a3) (a2 := a4) (a3 := a5) (a8 := a10) (a11 := a13) (a12 := v23) hI187 hl8 (Dat.mono (Gh.le_trans hG53 hG83) hD9) hy188) ?_
                rintro _ wd191 ⟨G189, hG190, hI192, rfl⟩
                refine ⟨_, rfl, ?_⟩
                refine q_as (v := Value.bool y193) rfl ?_
                refine wpq_nil ?_
                refine hK92 _ _ _ ?_
                refine wpc_seq_k fun K194 hK195 => ?_
                refine wpc_region ?_
                refine q_mv (v := Value.bool y193) rfl ?_
                refine q_mv (v := Value.bool y193) rfl ?_
                obtain ⟨⟨v196, v198⟩, hC, H⟩ := bind_some H
                refine wpq_split 12 (K := fun e r ds w => e = .normal ∧ ∃ (T197 : List Itm) (G200 : Gh), ds = [] ∧ G189 ≤ G200 ∧ Has [(0, Value.func (.yield yl) #[] #[]), (1, Value.pointer (some ⟨g2, 0, none⟩)), (3, Value.bool v81), (4, Value.int .i64 v23), (74, Value.bool v196)] r ∧ Hp G200 (mpI g12 Value.string Value.bool a13 :: bx g2 [Value.int .i64 a3, Value.int .i64 a4, Value.slice A6 a5.length c7, Value.string a10, Value.map (some g12)] 45 :: T197) w ∧ St v198 G200 T197 ∧ True) ?_ ?_
                · replace H := hC
                  by_cases h205 : y193 = true
                  · replace H := ite_yes h205 H
                    refine q_mv (v := Value.func (.yield yl) #[] #[]) rfl ?_ (hw := guard_yes rfl rfl rfl (bval_yes h205))
                    refine q_mv (v := Value.int .i64 v23) rfl ?_ (hw := guard_yes rfl rfl rfl (bval_yes h205))
                    refine q_fa (a' := ⟨g2, 3, none⟩) fl45_1 rfl (add_plain _ _ _) ?_ (hw := guard_yes rfl rfl rfl (bval_yes h205))
                    refine q_ld hI192 1 (v := Value.string a10) ag9 rfl rfl rfl ?_ (hw := guard_yes rfl rfl rfl (bval_yes h205))
                    refine q_mv (v := Value.int .i64 v23) rfl ?_ (hw := guard_yes rfl rfl rfl (bval_yes h205))
                    refine q_sub rfl rfl ?_ (hw := guard_yes rfl rfl rfl (bval_yes h205))
                    obtain ⟨⟨h206, h206'⟩, H⟩ := ite_some H
                    refine q_is so9 rfl rfl h206 h206' rfl ?_ (hw := guard_yes rfl rfl rfl (bval_yes h205))
                    refine q_eql rfl rfl ?_ (hw := guard_yes rfl rfl rfl (bval_yes h205))
                    refine q_build (vs := [(0, Value.int .i64 v23), (1, Value.bool (decide ((bt a10 (w64 (v23 - 1))) = 126)))]) (cs := [Value.int .i64 v23, Value.bool (decide ((bt a10 (w64 (v23 - 1))) = 126))]) ze37 pl37 rfl rfl ?_ (hw := guard_yes rfl rfl rfl (bval_yes h205))
                    obtain ⟨⟨s207, b208⟩, hx209, H⟩ := bind_some H
                    refine q_yl hy [mpI g12 Value.string Value.bool a13, bx g2 [Value.int .i64 a3, Value.int .i64 a4, Value.slice A6 a5.length c7, Value.string a10, Value.map (some g12)] 45] hI192 (hy.mono (Gh.le_trans hG83 hG190) hS26) rfl rfl ⟨_, rfl, (mk_api_Break (x := (⟨v23, decide ((bt a10 (w64 (v23 - 1))) = 126)⟩ : api_Break)))⟩ hx209 (fun wd210 G211 T212 hG213 hS214 hI215 => ?_) (hw := guard_yes rfl rfl rfl (bval_yes h205))
                    refine q_not rfl ?_ (hw := guard_yes rfl rfl rfl (bval_yes h205))
                    refine q_pick true (v := Value.bool (!b208)) (bval_yes h205) rfl ?_
                    refine wpq_nil ?_
                    cases H
                    exact ⟨rfl, T212, _, rfl, hG213, ⟨rfl, rfl, rfl, rfl, rfl, trivial⟩, hI215, hS214, trivial⟩
                  · replace H := ite_no h205 H
                    refine wpq_no (guard_no rfl rfl rfl (bval_no h205) rfl) ?_
                    refine wpq_no (guard_no rfl rfl rfl (bval_no h205) rfl) ?_
                    refine wpq_no (guard_no rfl rfl rfl (bval_no h205) rfl) ?_
                    refine wpq_no (guard_no rfl rfl rfl (bval_no h205) rfl) ?_
                    refine wpq_no (guard_no rfl rfl rfl (bval_no h205) rfl) ?_
                    refine wpq_no (guard_no rfl rfl rfl (bval_no h205) rfl) ?_
                    refine wpq_no (guard_no rfl rfl rfl (bval_no h205) rfl) ?_
                    refine wpq_no (guard_no rfl rfl rfl (bval_no h205) rfl) ?_
                    refine wpq_no (guard_no rfl rfl rfl (bval_no h205) rfl) ?_
                    refine wpq_no (guard_no rfl rfl rfl (bval_no h205) rfl) ?_
                    refine wpq_no (guard_no rfl rfl rfl (bval_no h205) rfl) ?_
                    refine q_pick false (v := Value.bool false) (bval_no h205) rfl ?_
                    refine wpq_nil ?_
                    cases H
                    exact ⟨rfl, T24, _, rfl, (Gh.le_refl _), ⟨rfl, rfl, rfl, rfl, rfl, trivial⟩, hI192, (hy.mono (Gh.le_trans hG83 hG190) hS26), trivial⟩
                · clear hC
                  rintro e r ds wd202 ⟨rfl, T197, G200, rfl, hG201, hHas, hI203, hS199, _⟩
                  rw [hHas.eq]; clear hHas
                  refine wpq_nil ?_
                  refine hK195 _ _ _ ?_
                  by_cases h216 : v196 = true
                  · replace H := ite_yes h216 H
                    refine wpc_true (bval_yes h216) ?_
                    refine wpc_ret ?_
                    have hI217 := Hp.front hI203 1 rfl
                    cases H
                    exact ⟨rfl, T197, _, rfl, (Gh.le_trans (Gh.le_trans hG83 hG190) hG201), trivial, hI217, hS199, trivial⟩
                  · replace H := ite_no h216 H
                    refine wpc_false (bval_no h216) ?_
                    refine wpc_skip ?_
                    have hI218 := Hp.front hI203 1 rfl
                    cases H
                    exact ⟨rfl, T197, _, rfl, (Gh.le_trans (Gh.le_trans hG83 hG190) hG201), ⟨rfl, rfl, rfl, rfl, trivial⟩, hI218, hS199, trivial⟩
              · replace H := ite_no h186 H
                refine wpc_false (bool_no h186) ?_
                refine wpc_skip ?_
                refine hK92 _ _ _ ?_
                refine wpc_seq_k fun K219 hK220 => ?_
                refine wpc_region ?_
                refine q_mv (v := Value.bool false) rfl ?_
                refine q_mv (v := Value.bool false) rfl ?_
                refine wpq_no (guard_no rfl rfl rfl rfl rfl) ?_
                refine wpq_no (guard_no rfl rfl rfl rfl rfl) ?_
                refine wpq_no (guard_no rfl rfl rfl rfl rfl) ?_
                refine wpq_no (guard_no rfl rfl rfl rfl rfl) ?_
                refine wpq_no (guard_no rfl rfl rfl rfl rfl) ?_
                refine wpq_no (guard_no rfl rfl rfl rfl rfl) ?_
                refine wpq_no (guard_no rfl rfl rfl rfl rfl) ?_
                refine wpq_no (guard_no rfl rfl rfl rfl rfl) ?_
                refine wpq_no (guard_no rfl rfl rfl rfl rfl) ?_
                refine wpq_no (guard_no rfl rfl rfl rfl rfl) ?_
                refine wpq_no (guard_no rfl rfl rfl rfl rfl) ?_
                refine q_pick false (v := Value.bool false) rfl rfl ?_
                refine wpq_nil ?_
                refine hK220 _ _ _ ?_
                refine wpc_false rfl ?_
                refine wpc_skip ?_
                cases H
                exact ⟨rfl, T24, _, rfl, hG83, ⟨rfl, rfl, rfl, rfl, trivial⟩, hI85, (hy.mono hG83 hS26), trivial⟩
      · clear hC
        rcases o78 with v64 | ⟨v66, v68⟩
        · rintro e r ds wd72 ⟨rfl, T63, G70, rfl, hG71, hHas, hI73, hS65, _⟩
          rw [hHas.eq]; clear hHas
          cases H
          exact ⟨rfl, T63, _, rfl, (Gh.le_trans hG53 hG71), trivial, hI73, hS65, trivial⟩
        · rintro e r ds wd76 ⟨rfl, T67, G74, rfl, hG75, hHas, hI77, hS69, _⟩
          rw [hHas.eq]; clear hHas
          refine hK62 _ _ _ ?_
          refine wpc_region ?_
          refine q_mv (v := Value.int .i64 v23) rfl ?_
          refine q_add rfl rfl ?_
          refine q_as (v := Value.int .i64 (w64 (v23 + 1))) rfl ?_
          refine wpq_nil ?_
          exact ih _ _ _ _ H T67 _ _ _ (Gh.le_trans hG53 hG75) ⟨rfl, rfl, rfl, rfl, trivial⟩ hI77 hS69 rfl
    · replace H := ite_no h60 H
      refine wpc_false (bool_no h60) ?_
      refine wpc_exit ?_
      cases H
      exact ⟨rfl, T24, _, rfl, hG53, trivial, hI55, hS26, trivial⟩
  · clear hC
    rcases o51 with v38 | v41
    · rintro e r ds wd45 ⟨rfl, T37, G43, rfl, hG44, hHas, hI46, hS39, _⟩
      rw [hHas.eq]; clear hHas
      cases H
      exact ⟨.inr rfl, rfl, _, rfl, T37, _, hG44, hI46, hS39, rfl⟩
    · rintro e r ds wd49 ⟨rfl, T40, G47, rfl, hG48, hHas, hI50, hS42, _⟩
      rw [hHas.eq]; clear hHas
      cases H
      exact ⟨.inl rfl, rfl, _, rfl, T40, _, hG48, hI50, hS42, rfl⟩
set_option maxHeartbeats 1000000 in
theorem breaks_List_spec {a1 : api_Breaks} {a6 : ByteArray} {A2 : Option Addr} {c3 : Nat} {r1174 : List api_Break} {r1181 : Int} {G : Gh} {L : List Itm} {w : World} (hI : Hp G (L) w) (hl4 : a1.Keep.length ≤ c3) (hD5 : Dat Kd.str G A2 a1.Keep) (H : breaks_List a1 a6 = some (r1174, r1181)) :
    Calls Tryd.prog 10 [Value.agg [Value.int .i64 a1.Before, Value.int .i64 a1.Behind, Value.slice A2 a1.Keep.length c3].toArray, Value.string a6].toArray w fun e w' => ∃ (A1175 : Option Addr) (c1176 : Nat) (G' : Gh), G ≤ G' ∧ Hp G' (tk (Value.slice A1175 r1174.length c1176) 2 37 :: L) w' ∧ r1174.length ≤ c1176 ∧ Dat k_api_Break G' A1175 r1174 ∧ Own A1175 c1176 ∧ e = .returned (Value.tuple [Value.slice A1175 r1174.length c1176, Value.int .i64 r1181].toArray) := by
  refine calls_intro_m (N := 26) Tryd.func10 rfl rfl (Nat.le_of_ble_eq_true rfl) ?_
  unfold breaks_List at H
  refine wpc_seq_k fun K7 hK8 => ?_
  refine wpc_region ?_
  refine q_box hI (v := Value.agg [Value.int .i64 a1.Before, Value.int .i64 a1.Behind, Value.slice A2 a1.Keep.length c3].toArray) (vs := [Value.int .i64 a1.Before, Value.int .i64 a1.Behind, Value.slice A2 a1.Keep.length c3]) rfl rfl (fun g10 wd11 hI12 => ?_)
  refine q_as (v := Value.slice none 0 0) rfl ?_
  refine q_as (v := Value.int .i64 0) rfl ?_
  refine wpq_nil ?_
  refine hK8 _ _ _ ?_
  refine wpc_seq_k fun K13 hK14 => ?_
  refine wpc_region ?_
  refine q_ldA hI12 0 (cs := [Value.int .i64 a1.Before, Value.int .i64 a1.Behind, Value.slice A2 a1.Keep.length c3]) ag24 rfl rfl rfl rfl ?_
  refine q_mv (v := Value.string a6) rfl ?_
  obtain ⟨⟨y20, y21, y22, y27, y30, y31⟩, hy15, H⟩ := bind_some H
  refine q_cv (vs := [Value.agg [Value.int .i64 a1.Before, Value.int .i64 a1.Behind, Value.slice A2 a1.Keep.length c3].toArray, Value.string a6]) bo20 rfl rfl (breaks_prepare_spec (a1 := a1) (a6 := a6) hI12 hl4 hD5 hy15) ?_
  rintro _ wd18 ⟨A23, c24, g29, G16, hG17, hI19, hl25, hD26, rfl⟩
  refine ⟨_, rfl, ?_⟩
  refine q_mv (v := Value.tuple [Value.agg [Value.int .i64 y20, Value.int .i64 y21, Value.slice A23 y22.length c24, Value.string y27, Value.map (some g29)].toArray, Value.bool y31].toArray) rfl ?_
  refine q_ex (v := Value.agg [Value.int .i64 y20, Value.int .i64 y21, Value.slice A23 y22.length c24, Value.string y27, Value.map (some g29)].toArray) rfl rfl ?_
  refine q_ex (v := Value.bool y31) rfl rfl ?_
  refine q_alloc hI19 ze45 (fun g33 wd34 hI35 => ?_)
  refine q_stA hI35 0 (v := Value.agg [Value.int .i64 y20, Value.int .i64 y21, Value.slice A23 y22.length c24, Value.string y27, Value.map (some g29)].toArray) (cs := [Value.int .i64 y20, Value.int .i64 y21, Value.slice A23 y22.length c24, Value.string y27, Value.map (some g29)]) (vs' := [Value.int .i64 y20, Value.int .i64 y21, Value.slice A23 y22.length c24, Value.string y27, Value.map (some g29)]) ag45 rfl rfl rfl rfl rfl rfl (Nat.le_of_ble_eq_true rfl) rfl (fun wd36 hI37 => ?_)
  refine q_as (v := Value.bool y31) rfl ?_
  refine wpq_nil ?_
  refine hK14 _ _ _ ?_
  refine wpc_seq_k fun K38 hK39 => ?_
  refine wpc_seq_k fun K40 hK41 => ?_
  refine wpc_region ?_
  refine q_mv (v := Value.bool y31) rfl ?_
  refine q_not rfl ?_
  refine wpq_nil ?_
  refine hK41 _ _ _ ?_
  by_cases h42 : (!y31) = true
  · replace H := ite_yes h42 H
    refine wpc_true (bval_yes h42) ?_
    refine wpc_seq_k fun K43 hK44 => ?_
    refine wpc_region ?_
    refine q_as (v := Value.slice none 0 0) rfl ?_
    refine q_as (v := Value.int .i64 1) rfl ?_
    refine wpq_nil ?_
    refine hK44 _ _ _ ?_
    refine wpc_ret ?_
    refine ⟨.inr rfl, ([] : List Nat), _, _, rfl, Hp.marks (K := [bx g33 [Value.int .i64 y20, Value.int .i64 y21, Value.slice A23 y22.length c24, Value.string y27, Value.map (some g29)] 45, mpI g29 Value.string Value.bool y30, bx g10 [Value.int .i64 a1.Before, Value.int .i64 a1.Behind, Value.slice A2 a1.Keep.length c3] 24]) hI37, fun wd46 hI45 => ?_⟩
    have hI47 := Hp.emp hI45
    have hI49 := Hp.sub (L := tk (Value.slice none 0 0) 2 37 :: bx g33 [Value.int .i64 y20, Value.int .i64 y21, Value.slice A23 y22.length c24, Value.string y27, Value.map (some g29)] 45 :: mpI g29 Value.string Value.bool y30 :: bx g10 [Value.int .i64 a1.Before, Value.int .i64 a1.Behind, Value.slice A2 a1.Keep.length c3] 24 :: L) (L' := tk (Value.slice none 0 0) 2 37 :: L) hI47 (List.Sublist.cons_cons _ (List.Sublist.cons _ (List.Sublist.cons _ (List.Sublist.cons _ (List.Sublist.refl _)))))
    cases H
    exact ⟨_, ⟨_, _, rfl, rfl, ⟨_, _, rfl, rfl, rfl⟩⟩, none, 0, _, hG17, hI49, (show ([] : List api_Break).length ≤ 0 from Nat.le_refl 0), (Dat.nil _ _ _), Own.nil, rfl⟩
  · replace H := ite_no h42 H
    refine wpc_false (bval_no h42) ?_
    refine wpc_skip ?_
    refine hK39 _ _ _ ?_
    refine wpc_seq_k fun K50 hK51 => ?_
    refine wpc_region ?_
    refine q_alloc hI37 ze26 (fun g53 wd54 hI55 => ?_)
    refine wpq_nil ?_
    refine hK51 _ _ _ ?_
    refine wpc_seq_k fun K56 hK57 => ?_
    refine wpc_seq_k fun K58 hK59 => ?_
    refine wpc_region ?_
    refine q_ldA hI55 1 (cs := [Value.int .i64 y20, Value.int .i64 y21, Value.slice A23 y22.length c24, Value.string y27, Value.map (some g29)]) ag45 rfl rfl rfl rfl ?_
    have hI60 := Hp.front hI55 3 rfl
    have hI61 := Hp.front hI60 2 rfl
    have hI62 := Hp.front hI61 2 rfl
    have hI63 := Hp.front hI62 3 rfl
    obtain ⟨⟨y71, y72, y73, y78⟩, hy64, H⟩ := bind_some H
    refine q_cv (vs := [Value.agg [Value.int .i64 y20, Value.int .i64 y21, Value.slice A23 y22.length c24, Value.string y27, Value.map (some g29)].toArray]) bo21 rfl rfl (breaks_ruled_places_k1_spec (a1 := y20) (a2 := y21) (a3 := y22) (a8 := y27) (a11 := y30) hI63 hl25 hD26 hy64) ?_
    rintro _ wd67 ⟨g70, A74, c75, G65, hG66, hI68, hl76, hD77, rfl⟩
    refine ⟨_, rfl, ?_⟩
    refine wpq_nil ?_
    refine hK59 _ _ _ ?_
    refine wpc_block ?_
    have hI79 := Hp.emp hI68
    have hI99 := Hp.front hI79 5 rfl
    have hI100 := Hp.front hI99 4 rfl
    have hI101 := Hp.front hI100 4 rfl
    have hI102 := Hp.front hI101 4 rfl
    have hI103 := Hp.sub (L := bx g70 [Value.int .i64 y71, Value.int .i64 y72, Value.slice A74 y73.length c75, Value.string y78, Value.map (some g29)] 45 :: mpI g29 Value.string Value.bool y30 :: bx g53 [Value.slice none 0 0] 26 :: bx g10 [Value.int .i64 a1.Before, Value.int .i64 a1.Behind, Value.slice A2 a1.Keep.length c3] 24 :: tk (Value.slice none 0 0) 2 37 :: bx g33 [Value.int .i64 y20, Value.int .i64 y21, Value.slice A23 y22.length c24, Value.string y27, Value.map (some g29)] 45 :: (List.map mkI ([] : List Nat) ++ L)) (L' := bx g70 [Value.int .i64 y71, Value.int .i64 y72, Value.slice A74 y73.length c75, Value.string y78, Value.map (some g29)] 45 :: mpI g29 Value.string Value.bool y30 :: bx g53 [Value.slice none 0 0] 26 :: bx g10 [Value.int .i64 a1.Before, Value.int .i64 a1.Behind, Value.slice A2 a1.Keep.length c3] 24 :: tk (Value.slice none 0 0) 2 37 :: (List.map mkI ([] : List Nat) ++ L)) hI102 (List.Sublist.cons_cons _ (List.Sublist.cons_cons _ (List.Sublist.cons_cons _ (List.Sublist.cons_cons _ (List.Sublist.cons_cons _ (List.Sublist.cons _ (List.Sublist.refl _)))))))
    obtain ⟨⟨v82, jo106⟩, hr152, H⟩ := bind_some H
    refine wpc_range hI103 bo32 rfl (fun fn tmps gl gd81 wd172 hA149 hI150 => ?_)
    have hY151 : Yl Tryd.prog (rnd (fun u x => breaks_List_r104 u x)) (encS k_api_Break) _ gl := yl_intro (pp := [20]) (gdd := gd81) hI150 (fun u x => breaks_List_r104 u x) [] (fun (u : (List api_Break)) (G' : Gh) (K : List Itm) => ∃ (A83 : Option Addr) (c84 : Nat) (_ : G65 ≤ G'), K = bx g53 [Value.slice A83 u.length c84] 26 :: bx g10 [Value.int .i64 a1.Before, Value.int .i64 a1.Behind, Value.slice A2 a1.Keep.length c3] 24 :: tk (Value.slice A83 u.length c84) 2 37 :: (List.map mkI (gd81 :: ([] : List Nat)) ++ L) ∧ u.length ≤ c84 ∧ Dat k_api_Break G' A83 u ∧ Own A83 c84 ∧ True) hA149 (fun _ _ _ h => (fun h => encS_len h) h) (fun hG' ⟨A83, c84, h0', hK', hl85, hD86, ho87, _⟩ => ⟨A83, c84, Gh.le_trans h0' hG', hK', hl85, (Dat.mono hG' hD86), ho87, trivial⟩) (by
        rintro Rd Bs v82 u' x112 jo' G108 K M wd110 vs ⟨A83, c84, hG109, rfl, hl85, hD86, ho87, _⟩ ⟨_, rfl, hK113⟩ H hI114
        obtain ⟨rfl⟩ := open_api_Break hK113
        replace H : breaks_List_r104 v82 x112 = some (u', jo') := H
        unfold breaks_List_r104 at H
        refine wpc_region ?_
        refine q_alloc hI114 ze37 (fun g116 wd117 hI118 => ?_)
        refine q_stA hI118 0 (v := Value.agg [Value.int .i64 x112.At, Value.bool x112.Hyphen].toArray) (cs := [Value.int .i64 x112.At, Value.bool x112.Hyphen]) (vs' := [Value.int .i64 x112.At, Value.bool x112.Hyphen]) ag37 rfl rfl rfl rfl rfl rfl (Nat.le_of_ble_eq_true rfl) rfl (fun wd119 hI120 => ?_)
        refine wpq_nil ?_
        have hI123 := Hp.front hI120 4 rfl
        have hI124 := Hp.front hI123 4 rfl
        have hI125 := Hp.front hI124 4 rfl
        have hI126 := Hp.front hI125 3 rfl
        have hI127 := Hp.front hI126 4 rfl
        refine ⟨rfl, rfl, _, _, (Gh.le_refl _), hI127, fun wd122 hI121 => ?_⟩
        refine wpc_block ?_
        refine wpc_region ?_
        refine q_ld hI121 2 (v := Value.slice A83 v82.length c84) ag26 rfl rfl rfl ?_
        refine q_ldA hI121 1 (cs := [Value.int .i64 x112.At, Value.bool x112.Hyphen]) ag37 rfl rfl rfl rfl ?_
        refine q_bs hI121 (vs := [(0, Value.agg [Value.int .i64 x112.At, Value.bool x112.Hyphen].toArray)]) (cs := [Value.int .i64 x112.At, Value.bool x112.Hyphen]) el26 ze37 rfl (by decide) rfl rfl (fun g129 wd130 hI131 => ?_)
        obtain ⟨h141, H⟩ := ite_some H
        refine q_app (xs := v82) (ys := [x112]) k_api_Break hI131 5 el26 ze37 rfl rfl rfl rfl ho87 hl85 hD86 (src_bx hI131 0 so26 rfl rfl) ⟨[Value.int .i64 x112.At, Value.bool x112.Hyphen], _, rfl, (mk_api_Break (x := x112)), rfl⟩ rfl (by simp only [List.length_cons, List.length_nil]; omega) (by simp only [List.length_cons, List.length_nil]; omega) (fun A132 c133 G134 wd135 hG136 ho137 hl138 hD139 hI140 => ?_)
        refine q_stA hI140 3 (v := Value.slice A132 (v82 ++ [x112]).length c133) (cs := [Value.slice A132 (v82 ++ [x112]).length c133]) (vs' := [Value.slice A132 (v82 ++ [x112]).length c133]) ag26 rfl rfl rfl rfl rfl rfl (Nat.le_of_ble_eq_true rfl) rfl (fun wd142 hI143 => ?_)
        refine wpq_nil ?_
        have hI144 := Hp.front hI143 5 rfl
        have hI145 := Hp.front hI144 5 rfl
        have hI146 := Hp.front hI145 5 rfl
        have hI147 := Hp.front hI146 4 rfl
        have hI148 := Hp.sub (L := Bs :: bx g53 [Value.slice A132 (v82 ++ [x112]).length c133] 26 :: bx g10 [Value.int .i64 a1.Before, Value.int .i64 a1.Behind, Value.slice A2 a1.Keep.length c3] 24 :: tk (Value.slice A132 (v82 ++ [x112]).length c133) 2 37 :: bx g129 [Value.int .i64 x112.At, Value.bool x112.Hyphen] 37 :: bx g116 [Value.int .i64 x112.At, Value.bool x112.Hyphen] 37 :: ((List.map mkI (gd81 :: ([] : List Nat)) ++ L) ++ M)) (L' := Bs :: bx g53 [Value.slice A132 (v82 ++ [x112]).length c133] 26 :: bx g10 [Value.int .i64 a1.Before, Value.int .i64 a1.Behind, Value.slice A2 a1.Keep.length c3] 24 :: tk (Value.slice A132 (v82 ++ [x112]).length c133) 2 37 :: ((List.map mkI (gd81 :: ([] : List Nat)) ++ L) ++ M)) hI147 (List.Sublist.cons_cons _ (List.Sublist.cons_cons _ (List.Sublist.cons_cons _ (List.Sublist.cons_cons _ (List.Sublist.cons _ (List.Sublist.cons _ (List.Sublist.refl _)))))))
        cases H
        exact ⟨rfl, _, _, hG136, ⟨A132, c133, (Gh.le_trans hG109 hG136), rfl, hl138, hD139, ho137, trivial⟩, hI148⟩)
    have hI173 := Hp.sink (A := [bx g70 [Value.int .i64 y71, Value.int .i64 y72, Value.slice A74 y73.length c75, Value.string y78, Value.map (some g29)] 45, mpI g29 Value.string Value.bool y30]) (K := [bx g53 [Value.slice none 0 0] 26, bx g10 [Value.int .i64 a1.Before, Value.int .i64 a1.Behind, Value.slice A2 a1.Keep.length c3] 24, tk (Value.slice none 0 0) 2 37]) hI150
    refine (breaks_ruled_places_1_k1_spec (sy := (([] : List api_Break), none)) hI173 hl76 hD77 hY151 ⟨_, rfl, none, 0, Gh.le_refl _, rfl, (show ([] : List api_Break).length ≤ 0 from Nat.le_refl 0), (Dat.nil _ _ _), Own.nil, trivial⟩ hr152).mono ?_
    rintro _ wd155 ⟨T159, G153, hG1540, hI156, ⟨K, rfl, A83, c84, hG154, rfl, hl85, hD86, ho87, _⟩, rfl⟩
    have hH161 := Hp.front hI156 2 rfl
    rcases jo106 with _ | j
    · refine ⟨_, rfl, LoopState.ready, none, G153, _, (fun h => nomatch h), hH161, fun wd157 hI158 => ?_⟩
      refine hK57 _ _ _ ?_
      refine wpc_seq_k fun K166 hK167 => ?_
      refine wpc_region ?_
      refine q_ld hI158 2 (v := Value.slice A83 v82.length c84) ag26 rfl rfl rfl ?_
      refine q_as (v := Value.slice A83 v82.length c84) rfl ?_
      refine q_as (v := Value.int .i64 0) rfl ?_
      refine wpq_nil ?_
      refine hK167 _ _ _ ?_
      refine wpc_ret ?_
      refine ⟨.inr rfl, (gd81 :: ([] : List Nat)), _, _, rfl, Hp.marks (K := [bx g70 [Value.int .i64 y71, Value.int .i64 y72, Value.slice A74 y73.length c75, Value.string y78, Value.map (some g29)] 45, mpI g29 Value.string Value.bool y30, bx g53 [Value.slice A83 v82.length c84] 26, bx g10 [Value.int .i64 a1.Before, Value.int .i64 a1.Behind, Value.slice A2 a1.Keep.length c3] 24, tk (Value.slice A83 v82.length c84) 2 37]) hI158, fun wd169 hI168 => ?_⟩
      have hI170 := Hp.front hI168 4 rfl
      have hI171 := Hp.sub (L := tk (Value.slice A83 v82.length c84) 2 37 :: bx g70 [Value.int .i64 y71, Value.int .i64 y72, Value.slice A74 y73.length c75, Value.string y78, Value.map (some g29)] 45 :: mpI g29 Value.string Value.bool y30 :: bx g53 [Value.slice A83 v82.length c84] 26 :: bx g10 [Value.int .i64 a1.Before, Value.int .i64 a1.Behind, Value.slice A2 a1.Keep.length c3] 24 :: L) (L' := tk (Value.slice A83 v82.length c84) 2 37 :: L) hI170 (List.Sublist.cons_cons _ (List.Sublist.cons _ (List.Sublist.cons _ (List.Sublist.cons _ (List.Sublist.cons _ (List.Sublist.refl _))))))
      cases H
      exact ⟨_, ⟨_, _, rfl, rfl, ⟨_, _, rfl, rfl, rfl⟩⟩, A83, c84, _, (Gh.le_trans (Gh.le_trans hG17 hG66) hG154), hI171, hl85, hD86, ho87, rfl⟩
    · cases H
end Go.Proofs.YtiahgcidgbalkaaDoor.LG
