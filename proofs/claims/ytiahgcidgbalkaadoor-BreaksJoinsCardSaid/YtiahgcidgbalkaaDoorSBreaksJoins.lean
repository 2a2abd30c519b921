/-
  The walks: each function computes its plain function: printed by a program out of the translation.
-/
import Derived.Test.YtiahgcidgbalkaaDoorSc
set_option linter.unusedVariables false
set_option linter.unusedSimpArgs false
set_option maxRecDepth 100000
namespace Go.Proofs.YtiahgcidgbalkaaDoor.LG
open Go Go.LG Go.RowKit
open Go.Lib Go.Shelf Go.Proofs
set_option maxHeartbeats 1000000 in
theorem formelaw08_BreaksJoins_spec {a1 : api_Breaks} {a6 : ByteArray} {a7 : ByteArray} {A2 : Option Addr} {c3 : Nat} {r1289 : Bool} {G : Gh} {L : List Itm} {w : World} (hI : Hp G (L) w) (hl4 : a1.Keep.length ≤ c3) (hD5 : Dat Kd.str G A2 a1.Keep) (hgl : Gl G) (H : formelaw08_BreaksJoins a1 a6 a7 = some r1289) :
    Calls Tryd.prog 7 [Value.agg [Value.int .i64 a1.Before, Value.int .i64 a1.Behind, Value.slice A2 a1.Keep.length c3].toArray, Value.string a6, Value.string a7].toArray w fun e w' => ∃ (G' : Gh), G ≤ G' ∧ Hp G' (L) w' ∧ e = .returned (Value.bool r1289) := by
  refine calls_intro (N := 118) Tryd.func7 rfl rfl (Nat.le_of_ble_eq_true rfl) ?_
  unfold formelaw08_BreaksJoins at H
  refine wpc_seq_k fun K8 hK9 => ?_
  refine wpc_region ?_
  refine q_box hI (v := Value.agg [Value.int .i64 a1.Before, Value.int .i64 a1.Behind, Value.slice A2 a1.Keep.length c3].toArray) (vs := [Value.int .i64 a1.Before, Value.int .i64 a1.Behind, Value.slice A2 a1.Keep.length c3]) rfl rfl (fun g11 wd12 hI13 => ?_)
  refine q_as (v := Value.bool false) rfl ?_
  refine wpq_nil ?_
  refine hK9 _ _ _ ?_
  refine wpc_seq_k fun K14 hK15 => ?_
  refine wpc_region ?_
  obtain ⟨y21, hy16, H⟩ := bind_some H
  refine q_cv (vs := []) bo9 rfl rfl (formelaw08_head_spec hI13 (hgl.mono (Gh.le_refl _)) hy16) ?_
  rintro _ wd19 ⟨G17, hG18, hI20, rfl⟩
  refine ⟨_, rfl, ?_⟩
  refine q_as (v := Value.bool y21) rfl ?_
  refine wpq_nil ?_
  refine hK15 _ _ _ ?_
  refine wpc_seq_k fun K22 hK23 => ?_
  refine wpc_region ?_
  refine q_mv (v := Value.string a6) rfl ?_
  obtain ⟨h24, H⟩ := ite_some H
  refine q_str_add rfl rfl h24 ?_
  refine q_mv (v := Value.string a7) rfl ?_
  obtain ⟨h25, H⟩ := ite_some H
  refine q_str_add rfl rfl h25 ?_
  refine q_as (v := Value.string ((a6 ++ (⟨#[32]⟩ : ByteArray)) ++ a7)) rfl ?_
  refine wpq_nil ?_
  refine hK23 _ _ _ ?_
  refine wpc_seq_k fun K26 hK27 => ?_
  refine wpc_seq_k fun K28 hK29 => ?_
  refine wpc_region ?_
  refine q_ldA hI20 0 (cs := [Value.int .i64 a1.Before, Value.int .i64 a1.Behind, Value.slice A2 a1.Keep.length c3]) ag24 rfl rfl rfl rfl ?_
  refine q_mv (v := Value.string ((a6 ++ (⟨#[32]⟩ : ByteArray)) ++ a7)) rfl ?_
  obtain ⟨y35, hy30, H⟩ := bind_some H
  refine q_cv (vs := [Value.agg [Value.int .i64 a1.Before, Value.int .i64 a1.Behind, Value.slice A2 a1.Keep.length c3].toArray, Value.string ((a6 ++ (⟨#[32]⟩ : ByteArray)) ++ a7)]) bo18 rfl rfl (formelaw08_usable_spec (a1 := a1) (a6 := (a6 ++ (⟨#[32]⟩ : ByteArray)) ++ a7) hI20 hl4 (Dat.mono hG18 hD5) hy30) ?_
  rintro _ wd33 ⟨G31, hG32, hI34, rfl⟩
  refine ⟨_, rfl, ?_⟩
  refine q_not rfl ?_
  refine q_mv (v := Value.bool (!y35)) rfl ?_
  obtain ⟨v36, hC, H⟩ := bind_some H
  refine wpq_split 3 (K := fun e r ds w => e = .normal ∧ ∃ (G37 : Gh), ds = [] ∧ G31 ≤ G37 ∧ Has [(1, Value.string a6), (2, Value.string a7), (3, Value.pointer (some ⟨g11, 0, none⟩)), (7, Value.bool y21), (8, Value.string ((a6 ++ (⟨#[32]⟩ : ByteArray)) ++ a7)), (29, Value.bool v36)] r ∧ Hp G37 (bx g11 [Value.int .i64 a1.Before, Value.int .i64 a1.Behind, Value.slice A2 a1.Keep.length c3] 24 :: L) w ∧ True) ?_ ?_
  · replace H := hC
    by_cases h42 : (!y35) = true
    · replace H := ite_yes h42 H
      refine wpq_no (guard_no rfl rfl rfl (bval_yes h42) rfl) ?_
      refine wpq_no (guard_no rfl rfl rfl (bval_yes h42) rfl) ?_
      refine q_pick true (v := Value.bool true) (bval_yes h42) rfl ?_
      refine wpq_nil ?_
      cases H
      exact ⟨rfl, _, rfl, (Gh.le_refl _), ⟨rfl, rfl, rfl, rfl, rfl, rfl, trivial⟩, hI34, trivial⟩
    · replace H := ite_no h42 H
      refine q_mv (v := Value.string a6) rfl ?_ (hw := guard_yes rfl rfl rfl (bval_no h42))
      refine q_str_eql rfl rfl ?_ (hw := guard_yes rfl rfl rfl (bval_no h42))
      refine q_pick false (v := Value.bool (decide (a6 = (⟨#[]⟩ : ByteArray)))) (bval_no h42) rfl ?_
      refine wpq_nil ?_
      cases H
      exact ⟨rfl, _, rfl, (Gh.le_refl _), ⟨rfl, rfl, rfl, rfl, rfl, rfl, trivial⟩, hI34, trivial⟩
  · clear hC
    rintro e r ds wd39 ⟨rfl, G37, rfl, hG38, hHas, hI40, _⟩
    rw [hHas.eq]; clear hHas
    refine q_mv (v := Value.bool v36) rfl ?_
    obtain ⟨v43, hC, H⟩ := bind_some H
    refine wpq_split 3 (K := fun e r ds w => e = .normal ∧ ∃ (G44 : Gh), ds = [] ∧ G37 ≤ G44 ∧ Has [(1, Value.string a6), (2, Value.string a7), (3, Value.pointer (some ⟨g11, 0, none⟩)), (7, Value.bool y21), (8, Value.string ((a6 ++ (⟨#[32]⟩ : ByteArray)) ++ a7)), (33, Value.bool v43)] r ∧ Hp G44 (bx g11 [Value.int .i64 a1.Before, Value.int .i64 a1.Behind, Value.slice A2 a1.Keep.length c3] 24 :: L) w ∧ True) ?_ ?_
    · replace H := hC
      by_cases h49 : v36 = true
      · replace H := ite_yes h49 H
        refine wpq_no (guard_no rfl rfl rfl (bval_yes h49) rfl) ?_
        refine wpq_no (guard_no rfl rfl rfl (bval_yes h49) rfl) ?_
        refine q_pick true (v := Value.bool true) (bval_yes h49) rfl ?_
        refine wpq_nil ?_
        cases H
        exact ⟨rfl, _, rfl, (Gh.le_refl _), ⟨rfl, rfl, rfl, rfl, rfl, rfl, trivial⟩, hI40, trivial⟩
      · replace H := ite_no h49 H
        refine q_mv (v := Value.string a7) rfl ?_ (hw := guard_yes rfl rfl rfl (bval_no h49))
        refine q_str_eql rfl rfl ?_ (hw := guard_yes rfl rfl rfl (bval_no h49))
        refine q_pick false (v := Value.bool (decide (a7 = (⟨#[]⟩ : ByteArray)))) (bval_no h49) rfl ?_
        refine wpq_nil ?_
        cases H
        exact ⟨rfl, _, rfl, (Gh.le_refl _), ⟨rfl, rfl, rfl, rfl, rfl, rfl, trivial⟩, hI40, trivial⟩
    · clear hC
      rintro e r ds wd46 ⟨rfl, G44, rfl, hG45, hHas, hI47, _⟩
      rw [hHas.eq]; clear hHas
      refine q_mv (v := Value.bool v43) rfl ?_
      obtain ⟨v50, hC, H⟩ := bind_some H
      refine wpq_split 7 (K := fun e r ds w => e = .normal ∧ ∃ (G51 : Gh), ds = [] ∧ G44 ≤ G51 ∧ Has [(1, Value.string a6), (2, Value.string a7), (3, Value.pointer (some ⟨g11, 0, none⟩)), (7, Value.bool y21), (8, Value.string ((a6 ++ (⟨#[32]⟩ : ByteArray)) ++ a7)), (41, Value.bool v50)] r ∧ Hp G51 (bx g11 [Value.int .i64 a1.Before, Value.int .i64 a1.Behind, Value.slice A2 a1.Keep.length c3] 24 :: L) w ∧ True) ?_ ?_
      · replace H := hC
        by_cases h56 : v43 = true
        · replace H := ite_yes h56 H
          refine wpq_no (guard_no rfl rfl rfl (bval_yes h56) rfl) ?_
          refine wpq_no (guard_no rfl rfl rfl (bval_yes h56) rfl) ?_
          refine wpq_no (guard_no rfl rfl rfl (bval_yes h56) rfl) ?_
          refine wpq_no (guard_no rfl rfl rfl (bval_yes h56) rfl) ?_
          refine wpq_no (guard_no rfl rfl rfl (bval_yes h56) rfl) ?_
          refine wpq_no (guard_no rfl rfl rfl (bval_yes h56) rfl) ?_
          refine q_pick true (v := Value.bool true) (bval_yes h56) rfl ?_
          refine wpq_nil ?_
          cases H
          exact ⟨rfl, _, rfl, (Gh.le_refl _), ⟨rfl, rfl, rfl, rfl, rfl, rfl, trivial⟩, hI47, trivial⟩
        · replace H := ite_no h56 H
          refine q_mv (v := Value.string a6) rfl ?_ (hw := guard_yes rfl rfl rfl (bval_no h56))
          refine q_mv (v := Value.string a6) rfl ?_ (hw := guard_yes rfl rfl rfl (bval_no h56))
          refine q_lens so9 rfl ?_ (hw := guard_yes rfl rfl rfl (bval_no h56))
          refine q_sub rfl rfl ?_ (hw := guard_yes rfl rfl rfl (bval_no h56))
          obtain ⟨⟨h57, h57'⟩, H⟩ := ite_some H
          refine q_is so9 rfl rfl h57 h57' rfl ?_ (hw := guard_yes rfl rfl rfl (bval_no h56))
          refine q_eql rfl rfl ?_ (hw := guard_yes rfl rfl rfl (bval_no h56))
          refine q_pick false (v := Value.bool (decide ((bt a6 (w64 ((a6.size : Int) - 1))) = 32))) (bval_no h56) rfl ?_
          refine wpq_nil ?_
          cases H
          exact ⟨rfl, _, rfl, (Gh.le_refl _), ⟨rfl, rfl, rfl, rfl, rfl, rfl, trivial⟩, hI47, trivial⟩
      · clear hC
        rintro e r ds wd53 ⟨rfl, G51, rfl, hG52, hHas, hI54, _⟩
        rw [hHas.eq]; clear hHas
        refine q_mv (v := Value.bool v50) rfl ?_
        obtain ⟨v58, hC, H⟩ := bind_some H
        refine wpq_split 4 (K := fun e r ds w => e = .normal ∧ ∃ (G59 : Gh), ds = [] ∧ G51 ≤ G59 ∧ Has [(1, Value.string a6), (2, Value.string a7), (3, Value.pointer (some ⟨g11, 0, none⟩)), (7, Value.bool y21), (8, Value.string ((a6 ++ (⟨#[32]⟩ : ByteArray)) ++ a7)), (46, Value.bool v58)] r ∧ Hp G59 (bx g11 [Value.int .i64 a1.Before, Value.int .i64 a1.Behind, Value.slice A2 a1.Keep.length c3] 24 :: L) w ∧ True) ?_ ?_
        · replace H := hC
          by_cases h64 : v50 = true
          · replace H := ite_yes h64 H
            refine wpq_no (guard_no rfl rfl rfl (bval_yes h64) rfl) ?_
            refine wpq_no (guard_no rfl rfl rfl (bval_yes h64) rfl) ?_
            refine wpq_no (guard_no rfl rfl rfl (bval_yes h64) rfl) ?_
            refine q_pick true (v := Value.bool true) (bval_yes h64) rfl ?_
            refine wpq_nil ?_
            cases H
            exact ⟨rfl, _, rfl, (Gh.le_refl _), ⟨rfl, rfl, rfl, rfl, rfl, rfl, trivial⟩, hI54, trivial⟩
          · replace H := ite_no h64 H
            refine q_mv (v := Value.string a7) rfl ?_ (hw := guard_yes rfl rfl rfl (bval_no h64))
            obtain ⟨⟨h65, h65'⟩, H⟩ := ite_some H
            refine q_is so9 rfl rfl h65 h65' rfl ?_ (hw := guard_yes rfl rfl rfl (bval_no h64))
            refine q_eql rfl rfl ?_ (hw := guard_yes rfl rfl rfl (bval_no h64))
            refine q_pick false (v := Value.bool (decide ((bt a7 0) = 32))) (bval_no h64) rfl ?_
            refine wpq_nil ?_
            cases H
            exact ⟨rfl, _, rfl, (Gh.le_refl _), ⟨rfl, rfl, rfl, rfl, rfl, rfl, trivial⟩, hI54, trivial⟩
        · clear hC
          rintro e r ds wd61 ⟨rfl, G59, rfl, hG60, hHas, hI62, _⟩
          rw [hHas.eq]; clear hHas
          refine wpq_nil ?_
          refine hK29 _ _ _ ?_
          by_cases h66 : v58 = true
          · replace H := ite_yes h66 H
            refine wpc_true (bval_yes h66) ?_
            refine wpc_seq_k fun K67 hK68 => ?_
            refine wpc_region ?_
            refine q_mv (v := Value.bool y21) rfl ?_
            refine q_as (v := Value.bool y21) rfl ?_
            refine wpq_nil ?_
            refine hK68 _ _ _ ?_
            refine wpc_ret ?_
            have hI69 := Hp.sub (L := bx g11 [Value.int .i64 a1.Before, Value.int .i64 a1.Behind, Value.slice A2 a1.Keep.length c3] 24 :: L) (L' := L) hI62 (List.Sublist.cons _ (List.Sublist.refl _))
            cases H
            exact ⟨.inr rfl, rfl, _, ⟨_, _, rfl, rfl, rfl⟩, _, (Gh.le_trans (Gh.le_trans (Gh.le_trans (Gh.le_trans (Gh.le_trans hG18 hG32) hG38) hG45) hG52) hG60), hI69, rfl⟩
          · replace H := ite_no h66 H
            refine wpc_false (bval_no h66) ?_
            refine wpc_skip ?_
            refine hK27 _ _ _ ?_
            refine wpc_seq_k fun K70 hK71 => ?_
            refine wpc_region ?_
            refine q_ldA hI62 0 (cs := [Value.int .i64 a1.Before, Value.int .i64 a1.Behind, Value.slice A2 a1.Keep.length c3]) ag24 rfl rfl rfl rfl ?_
            refine q_mv (v := Value.string a6) rfl ?_
            obtain ⟨⟨y77, y84⟩, hy72, H⟩ := bind_some H
            refine q_cv (vs := [Value.agg [Value.int .i64 a1.Before, Value.int .i64 a1.Behind, Value.slice A2 a1.Keep.length c3].toArray, Value.string a6]) bo10 rfl rfl (breaks_List_spec (a1 := a1) (a6 := a6) hI62 hl4 (Dat.mono (Gh.le_trans (Gh.le_trans (Gh.le_trans (Gh.le_trans (Gh.le_trans hG18 hG32) hG38) hG45) hG52) hG60) hD5) hy72) ?_
            rintro _ wd75 ⟨A78, c79, G73, hG74, hI76, hl80, hD81, ho82, rfl⟩
            refine ⟨_, rfl, ?_⟩
            refine q_mv (v := Value.tuple [Value.slice A78 y77.length c79, Value.int .i64 y84].toArray) rfl ?_
            refine q_ex (v := Value.slice A78 y77.length c79) rfl rfl ?_
            refine q_ex (v := Value.int .i64 y84) rfl rfl ?_
            refine q_as (v := Value.slice A78 y77.length c79) rfl ?_
            refine q_as (v := Value.int .i64 y84) rfl ?_
            refine wpq_nil ?_
            refine hK71 _ _ _ ?_
            refine wpc_seq_k fun K85 hK86 => ?_
            refine wpc_region ?_
            refine q_ldA hI76 1 (cs := [Value.int .i64 a1.Before, Value.int .i64 a1.Behind, Value.slice A2 a1.Keep.length c3]) ag24 rfl rfl rfl rfl ?_
            refine q_mv (v := Value.string a7) rfl ?_
            obtain ⟨⟨y92, y99⟩, hy87, H⟩ := bind_some H
            refine q_cv (vs := [Value.agg [Value.int .i64 a1.Before, Value.int .i64 a1.Behind, Value.slice A2 a1.Keep.length c3].toArray, Value.string a7]) bo10 rfl rfl (breaks_List_spec (a1 := a1) (a6 := a7) hI76 hl4 (Dat.mono (Gh.le_trans (Gh.le_trans (Gh.le_trans (Gh.le_trans (Gh.le_trans (Gh.le_trans hG18 hG32) hG38) hG45) hG52) hG60) hG74) hD5) hy87) ?_
            rintro _ wd90 ⟨A93, c94, G88, hG89, hI91, hl95, hD96, ho97, rfl⟩
            refine ⟨_, rfl, ?_⟩
            refine q_mv (v := Value.tuple [Value.slice A93 y92.length c94, Value.int .i64 y99].toArray) rfl ?_
            refine q_ex (v := Value.slice A93 y92.length c94) rfl rfl ?_
            refine q_ex (v := Value.int .i64 y99) rfl rfl ?_
            refine q_as (v := Value.slice A93 y92.length c94) rfl ?_
            refine q_as (v := Value.int .i64 y99) rfl ?_
            refine wpq_nil ?_
            refine hK86 _ _ _ ?_
            refine wpc_seq_k fun K100 hK101 => ?_
            refine wpc_region ?_
            refine q_ldA hI91 2 (cs := [Value.int .i64 a1.Before, Value.int .i64 a1.Behind, Value.slice A2 a1.Keep.length c3]) ag24 rfl rfl rfl rfl ?_
            refine q_mv (v := Value.string ((a6 ++ (⟨#[32]⟩ : ByteArray)) ++ a7)) rfl ?_
            obtain ⟨⟨y107, y114⟩, hy102, H⟩ := bind_some H
            refine q_cv (vs := [Value.agg [Value.int .i64 a1.Before, Value.int .i64 a1.Behind, Value.slice A2 a1.Keep.length c3].toArray, Value.string ((a6 ++ (⟨#[32]⟩ : ByteArray)) ++ a7)]) bo10 rfl rfl (breaks_List_spec (a1 := a1) (a6 := (a6 ++ (⟨#[32]⟩ : ByteArray)) ++ a7) hI91 hl4 (Dat.mono (Gh.le_trans (Gh.le_trans (Gh.le_trans (Gh.le_trans (Gh.le_trans (Gh.le_trans (Gh.le_trans hG18 hG32) hG38) hG45) hG52) hG60) hG74) hG89) hD5) hy102) ?_
            rintro _ wd105 ⟨A108, c109, G103, hG104, hI106, hl110, hD111, ho112, rfl⟩
            refine ⟨_, rfl, ?_⟩
            refine q_mv (v := Value.tuple [Value.slice A108 y107.length c109, Value.int .i64 y114].toArray) rfl ?_
            refine q_ex (v := Value.slice A108 y107.length c109) rfl rfl ?_
            refine q_ex (v := Value.int .i64 y114) rfl rfl ?_
            refine q_as (v := Value.slice A108 y107.length c109) rfl ?_
            refine q_as (v := Value.int .i64 y114) rfl ?_
            refine wpq_nil ?_
            refine hK101 _ _ _ ?_
            refine wpc_seq_k fun K115 hK116 => ?_
            refine wpc_region ?_
            refine q_bs hI106 (vs := []) (cs := []) el26 ze37 rfl (by decide) rfl rfl (fun g118 wd119 hI120 => ?_)
            obtain ⟨G121, hG122, hI124, hD123⟩ := Hp.publish (xs := ([] : List api_Break)) (n := 0) k_api_Break hI120 rfl rfl
            refine q_mv (v := Value.slice A78 y77.length c79) rfl ?_
            obtain ⟨nw135, hs136, hf137⟩ := src_dat (u := 26) hI124 so26 (Dat.mono (Gh.le_trans (Gh.le_trans hG89 hG104) hG122) hD81)
            obtain ⟨h134, H⟩ := ite_some H
            refine q_app (xs := ([] : List api_Break)) (ys := y77) k_api_Break hI124 0 el26 ze37 rfl rfl rfl rfl (Own.mk _ _ _) (show ([] : List api_Break).length ≤ 0 from Nat.le_of_ble_eq_true rfl) hD123 hs136 hf137 rfl (by simp only [List.length_cons, List.length_nil]; omega) (by simp only [List.length_cons, List.length_nil]; omega) (fun A125 c126 G127 wd128 hG129 ho130 hl131 hD132 hI133 => ?_)
            refine q_as (v := Value.slice A125 (([] : List api_Break) ++ y77).length c126) rfl ?_
            refine wpq_nil ?_
            refine hK116 _ _ _ ?_
            refine wpc_seq_k fun K138 hK139 => ?_
            refine wpc_region ?_
            refine q_mv (v := Value.slice A125 (([] : List api_Break) ++ y77).length c126) rfl ?_
            refine q_mv (v := Value.string a6) rfl ?_
            refine q_lens so9 rfl ?_
            refine q_add rfl rfl ?_
            refine q_build (vs := [(0, Value.int .i64 (w64 ((a6.size : Int) + 1)))]) (cs := [Value.int .i64 (w64 ((a6.size : Int) + 1)), Value.bool false]) ze37 pl37 rfl rfl ?_
            refine q_bs hI133 (vs := [(0, Value.agg [Value.int .i64 (w64 ((a6.size : Int) + 1)), Value.bool false].toArray)]) (cs := [Value.int .i64 (w64 ((a6.size : Int) + 1)), Value.bool false]) el26 ze37 rfl (by decide) rfl rfl (fun g141 wd142 hI143 => ?_)
            obtain ⟨h153, H⟩ := ite_some H
            refine q_app (xs := ([] : List api_Break) ++ y77) (ys := [(⟨w64 ((a6.size : Int) + 1), false⟩ : api_Break)]) k_api_Break hI143 1 el26 ze37 rfl rfl rfl rfl ho130 hl131 hD132 (src_bx hI143 0 so26 rfl rfl) ⟨[Value.int .i64 (w64 ((a6.size : Int) + 1)), Value.bool false], _, rfl, (mk_api_Break (x := (⟨w64 ((a6.size : Int) + 1), false⟩ : api_Break))), rfl⟩ rfl (by simp only [List.length_cons, List.length_nil]; omega) (by simp only [List.length_cons, List.length_nil]; omega) (fun A144 c145 G146 wd147 hG148 ho149 hl150 hD151 hI152 => ?_)
            refine q_as (v := Value.slice A144 ((([] : List api_Break) ++ y77) ++ [(⟨w64 ((a6.size : Int) + 1), false⟩ : api_Break)]).length c145) rfl ?_
            refine wpq_nil ?_
            refine hK139 _ _ _ ?_
            refine wpc_seq_k fun K154 hK155 => ?_
            refine wpc_seq_k fun K156 hK157 => ?_
            refine wpc_region ?_
            refine q_as (v := Value.int .i64 0) rfl ?_
            refine wpq_nil ?_
            refine hK157 _ _ _ ?_
            refine wpc_block ?_
            obtain ⟨v183, hC, H⟩ := bind_some H
            refine wpc_mono (Q := fun e r ds w => e = .exit 0 ∧ ∃ (A184 : Option Addr) (c185 : Nat) (G190 : Gh), ds = [] ∧ G146 ≤ G190 ∧ Has [(7, Value.bool y21), (10, Value.int .i64 y84), (12, Value.int .i64 y99), (13, Value.slice A108 y107.length c109), (14, Value.int .i64 y114), (15, Value.slice A184 v183.length c185)] r ∧ Hp G190 (bx g141 [Value.int .i64 (w64 ((a6.size : Int) + 1)), Value.bool false] 37 :: bx g11 [Value.int .i64 a1.Before, Value.int .i64 a1.Behind, Value.slice A2 a1.Keep.length c3] 24 :: tk (Value.slice A108 y107.length c109) 2 37 :: tk (Value.slice A93 y92.length c94) 2 37 :: tk (Value.slice A78 y77.length c79) 2 37 :: tk (Value.slice A184 v183.length c185) 2 37 :: L) w ∧ v183.length ≤ c185 ∧ Dat k_api_Break G190 A184 v183 ∧ Own A184 c185 ∧ True) ?_ ?_
            · clear H
              have hI246 := Hp.front hI152 1 rfl
              have hI247 := Hp.front hI246 4 rfl
              have hI248 := Hp.front hI247 4 rfl
              have hI249 := Hp.front hI248 4 rfl
              have hI250 := Hp.front hI249 5 rfl
              have hI251 := Hp.front hI250 5 rfl
              refine wpc_loop fun I hLp => ?_
              refine formelaw08_BreaksJoins_l182.partial_correctness a6 y92 (fun v162 v169 o => ∀ (A163 : Option Addr) (c164 : Nat) (G195 : Gh) (r : Rg) (w : World), G146 ≤ G195 → Has [(1, Value.string a6), (7, Value.bool y21), (10, Value.int .i64 y84), (11, Value.slice A93 y92.length c94), (12, Value.int .i64 y99), (13, Value.slice A108 y107.length c109), (14, Value.int .i64 y114), (15, Value.slice A163 v162.length c164), (16, Value.int .i64 v169)] r → Hp G195 (bx g141 [Value.int .i64 (w64 ((a6.size : Int) + 1)), Value.bool false] 37 :: bx g11 [Value.int .i64 a1.Before, Value.int .i64 a1.Behind, Value.slice A2 a1.Keep.length c3] 24 :: tk (Value.slice A108 y107.length c109) 2 37 :: tk (Value.slice A93 y92.length c94) 2 37 :: tk (Value.slice A78 y77.length c79) 2 37 :: tk (Value.slice A163 v162.length c164) 2 37 :: L) w → v162.length ≤ c164 → Dat k_api_Break G195 A163 v162 → Own A163 c164 → o = v183 → I r [] w) ?_ ((([] : List api_Break) ++ y77) ++ [(⟨w64 ((a6.size : Int) + 1), false⟩ : api_Break)]) 0 _ hC A144 c145 _ _ _ (Gh.le_refl _) ⟨rfl, rfl, rfl, rfl, rfl, rfl, rfl, rfl, rfl, trivial⟩ hI251 hl150 hD151 ho149 rfl
              intro _ ih v162 v169 o H A163 c164 G195 r wd197 hG196 hHas hI198 hl165 hD166 ho167 ho
              rw [ho] at H; clear ho
              rw [hHas.eq]; clear hHas
              refine hLp _ _ _ ?_
              refine wpc_seq_k fun K199 hK200 => ?_
              refine wpc_seq_k fun K201 hK202 => ?_
              refine wpc_region ?_
              refine q_mv (v := Value.int .i64 v169) rfl ?_
              refine q_mv (v := Value.slice A93 y92.length c94) rfl ?_
              refine q_len so26 rfl ?_
              refine q_lss rfl rfl ?_
              refine wpq_nil ?_
              refine hK202 _ _ _ ?_
              by_cases h203 : v169 < (y92.length : Int)
              · replace H := ite_yes h203 H
                refine wpc_true (bool_yes h203) ?_
                refine wpc_skip ?_
                refine hK200 _ _ _ ?_
                refine wpc_seq_k fun K204 hK205 => ?_
                refine wpc_block ?_
                obtain ⟨⟨h206, h206'⟩, H⟩ := ite_some H
                obtain ⟨ad207, cs208, hA209, hK210, hn211, hc212⟩ := Dat.get (Dat.mono (Gh.le_trans (Gh.le_trans (Gh.le_trans (Gh.le_trans hG104 hG122) hG129) hG148) hG196) hD96) z_api_Break (v169) h206 h206'
                obtain ⟨rfl⟩ := open_api_Break hK210
                obtain ⟨⟨h213, h213'⟩, H⟩ := ite_some H
                obtain ⟨ad214, cs215, hA216, hK217, hn218, hc219⟩ := Dat.get (Dat.mono (Gh.le_trans (Gh.le_trans (Gh.le_trans (Gh.le_trans hG104 hG122) hG129) hG148) hG196) hD96) z_api_Break (v169) h213 h213'
                obtain ⟨rfl⟩ := open_api_Break hK217
                obtain ⟨h233, H⟩ := ite_some H
                refine wpc_drawL [0, 0, 0, 6, 14, 30, 0, 64, 254, 510, 0, 0, 3072, 7168, 15360, 32766, 65534, 131071, 262143] (fun D r w => (D 16 = false ∧ ∃ (G' : Gh), G195 ≤ G' ∧ Regs [(1, Value.string a6), (7, Value.bool y21), (10, Value.int .i64 y84), (11, Value.slice A93 y92.length c94), (12, Value.int .i64 y99), (13, Value.slice A108 y107.length c109), (14, Value.int .i64 y114), (16, Value.int .i64 v169)] [(15, Value.slice A163 v162.length c164, 18)] [(0, 82, Value.slice A163 v162.length c164), (1, 83, Value.slice A93 y92.length c94), (2, 84, Value.int .i64 v169), (3, 85, Value.pointer (some (ad207.add (Int.toNat v169 * 2)))), (4, 86, Value.pointer (some ((ad207.add (Int.toNat v169 * 2)).add 0))), (5, 87, Value.int .i64 ((y92.getD (Int.toNat v169) z_api_Break).At)), (6, 88, Value.string a6), (7, 89, Value.int .i64 (a6.size : Int)), (8, 90, Value.int .i64 (w64 (((y92.getD (Int.toNat v169) z_api_Break).At) + (a6.size : Int)))), (9, 91, Value.int .i64 (w64 ((w64 (((y92.getD (Int.toNat v169) z_api_Break).At) + (a6.size : Int))) + 1))), (10, 92, Value.slice A93 y92.length c94), (11, 93, Value.int .i64 v169), (12, 94, Value.pointer (some (ad214.add (Int.toNat v169 * 2)))), (13, 95, Value.pointer (some ((ad214.add (Int.toNat v169 * 2)).add 1))), (14, 96, Value.bool ((y92.getD (Int.toNat v169) z_api_Break).Hyphen)), (15, 97, Value.agg [Value.int .i64 (w64 ((w64 (((y92.getD (Int.toNat v169) z_api_Break).At) + (a6.size : Int))) + 1)), Value.bool ((y92.getD (Int.toNat v169) z_api_Break).Hyphen)].toArray)] D r ∧ Hp G' (bx g141 [Value.int .i64 (w64 ((a6.size : Int) + 1)), Value.bool false] 37 :: bx g11 [Value.int .i64 a1.Before, Value.int .i64 a1.Behind, Value.slice A2 a1.Keep.length c3] 24 :: tk (Value.slice A108 y107.length c109) 2 37 :: tk (Value.slice A93 y92.length c94) 2 37 :: tk (Value.slice A78 y77.length c79) 2 37 :: tk (Value.slice A163 v162.length c164) 2 37 :: L) w) ∨ (D 16 = true ∧ D 17 = false ∧ ∃ (g221 : Nat) (G' : Gh), G195 ≤ G' ∧ Regs [(1, Value.string a6), (7, Value.bool y21), (10, Value.int .i64 y84), (11, Value.slice A93 y92.length c94), (12, Value.int .i64 y99), (13, Value.slice A108 y107.length c109), (14, Value.int .i64 y114), (16, Value.int .i64 v169)] [(15, Value.slice A163 v162.length c164, 18)] [(0, 82, Value.slice A163 v162.length c164), (1, 83, Value.slice A93 y92.length c94), (2, 84, Value.int .i64 v169), (3, 85, Value.pointer (some (ad207.add (Int.toNat v169 * 2)))), (4, 86, Value.pointer (some ((ad207.add (Int.toNat v169 * 2)).add 0))), (5, 87, Value.int .i64 ((y92.getD (Int.toNat v169) z_api_Break).At)), (6, 88, Value.string a6), (7, 89, Value.int .i64 (a6.size : Int)), (8, 90, Value.int .i64 (w64 (((y92.getD (Int.toNat v169) z_api_Break).At) + (a6.size : Int)))), (9, 91, Value.int .i64 (w64 ((w64 (((y92.getD (Int.toNat v169) z_api_Break).At) + (a6.size : Int))) + 1))), (10, 92, Value.slice A93 y92.length c94), (11, 93, Value.int .i64 v169), (12, 94, Value.pointer (some (ad214.add (Int.toNat v169 * 2)))), (13, 95, Value.pointer (some ((ad214.add (Int.toNat v169 * 2)).add 1))), (14, 96, Value.bool ((y92.getD (Int.toNat v169) z_api_Break).Hyphen)), (15, 97, Value.agg [Value.int .i64 (w64 ((w64 (((y92.getD (Int.toNat v169) z_api_Break).At) + (a6.size : Int))) + 1)), Value.bool ((y92.getD (Int.toNat v169) z_api_Break).Hyphen)].toArray), (16, 98, Value.slice (some ⟨g221, 0, none⟩) 1 1)] D r ∧ Hp G' (bx g221 [Value.int .i64 (w64 ((w64 (((y92.getD (Int.toNat v169) z_api_Break).At) + (a6.size : Int))) + 1)), Value.bool ((y92.getD (Int.toNat v169) z_api_Break).Hyphen)] 37 :: bx g141 [Value.int .i64 (w64 ((a6.size : Int) + 1)), Value.bool false] 37 :: bx g11 [Value.int .i64 a1.Before, Value.int .i64 a1.Behind, Value.slice A2 a1.Keep.length c3] 24 :: tk (Value.slice A108 y107.length c109) 2 37 :: tk (Value.slice A93 y92.length c94) 2 37 :: tk (Value.slice A78 y77.length c79) 2 37 :: tk (Value.slice A163 v162.length c164) 2 37 :: L) w) ∨ (D 17 = true ∧ ∃ (g221 : Nat) (A224 : Option Addr) (c225 : Nat) (G' : Gh), G195 ≤ G' ∧ (v162 ++ [(⟨w64 ((w64 (((y92.getD (Int.toNat v169) z_api_Break).At) + (a6.size : Int))) + 1), (y92.getD (Int.toNat v169) z_api_Break).Hyphen⟩ : api_Break)]).length ≤ c225 ∧ Dat k_api_Break G' A224 (v162 ++ [(⟨w64 ((w64 (((y92.getD (Int.toNat v169) z_api_Break).At) + (a6.size : Int))) + 1), (y92.getD (Int.toNat v169) z_api_Break).Hyphen⟩ : api_Break)]) ∧ Own A224 c225 ∧ Regs [(1, Value.string a6), (7, Value.bool y21), (10, Value.int .i64 y84), (11, Value.slice A93 y92.length c94), (12, Value.int .i64 y99), (13, Value.slice A108 y107.length c109), (14, Value.int .i64 y114), (16, Value.int .i64 v169)] [(15, Value.slice A163 v162.length c164, 18)] [(0, 82, Value.slice A163 v162.length c164), (1, 83, Value.slice A93 y92.length c94), (2, 84, Value.int .i64 v169), (3, 85, Value.pointer (some (ad207.add (Int.toNat v169 * 2)))), (4, 86, Value.pointer (some ((ad207.add (Int.toNat v169 * 2)).add 0))), (5, 87, Value.int .i64 ((y92.getD (Int.toNat v169) z_api_Break).At)), (6, 88, Value.string a6), (7, 89, Value.int .i64 (a6.size : Int)), (8, 90, Value.int .i64 (w64 (((y92.getD (Int.toNat v169) z_api_Break).At) + (a6.size : Int)))), (9, 91, Value.int .i64 (w64 ((w64 (((y92.getD (Int.toNat v169) z_api_Break).At) + (a6.size : Int))) + 1))), (10, 92, Value.slice A93 y92.length c94), (11, 93, Value.int .i64 v169), (12, 94, Value.pointer (some (ad214.add (Int.toNat v169 * 2)))), (13, 95, Value.pointer (some ((ad214.add (Int.toNat v169 * 2)).add 1))), (14, 96, Value.bool ((y92.getD (Int.toNat v169) z_api_Break).Hyphen)), (15, 97, Value.agg [Value.int .i64 (w64 ((w64 (((y92.getD (Int.toNat v169) z_api_Break).At) + (a6.size : Int))) + 1)), Value.bool ((y92.getD (Int.toNat v169) z_api_Break).Hyphen)].toArray), (16, 98, Value.slice (some ⟨g221, 0, none⟩) 1 1), (17, 99, Value.slice A224 (v162 ++ [(⟨w64 ((w64 (((y92.getD (Int.toNat v169) z_api_Break).At) + (a6.size : Int))) + 1), (y92.getD (Int.toNat v169) z_api_Break).Hyphen⟩ : api_Break)]).length c225), (18, 15, Value.slice A224 (v162 ++ [(⟨w64 ((w64 (((y92.getD (Int.toNat v169) z_api_Break).At) + (a6.size : Int))) + 1), (y92.getD (Int.toNat v169) z_api_Break).Hyphen⟩ : api_Break)]).length c225)] D r ∧ Hp G' (bx g221 [Value.int .i64 (w64 ((w64 (((y92.getD (Int.toNat v169) z_api_Break).At) + (a6.size : Int))) + 1)), Value.bool ((y92.getD (Int.toNat v169) z_api_Break).Hyphen)] 37 :: bx g141 [Value.int .i64 (w64 ((a6.size : Int) + 1)), Value.bool false] 37 :: bx g11 [Value.int .i64 a1.Before, Value.int .i64 a1.Behind, Value.slice A2 a1.Keep.length c3] 24 :: tk (Value.slice A108 y107.length c109) 2 37 :: tk (Value.slice A93 y92.length c94) 2 37 :: tk (Value.slice A78 y77.length c79) 2 37 :: tk (Value.slice A224 (v162 ++ [(⟨w64 ((w64 (((y92.getD (Int.toNat v169) z_api_Break).At) + (a6.size : Int))) + 1), (y92.getD (Int.toNat v169) z_api_Break).Hyphen⟩ : api_Break)]).length c225) 2 37 :: L) w)) mixo rfl rfl ?_ ?_ ?_
                · exact (.inl ⟨rfl, _, Gh.le_refl _, Regs.start ⟨rfl, rfl, rfl, rfl, rfl, rfl, rfl, rfl, trivial⟩ ⟨rfl, trivial⟩, hI198.drew⟩)
                · refine ⟨?_, ?_, ?_, ?_, ?_, ?_, ?_, ?_, ?_, ?_, ?_, ?_, ?_, ?_, ?_, ?_, ?_, ?_, ?_, trivial⟩
                  · intro D r wd238 hR hDi hpre hpost
                    rcases hR with ⟨hd2, G234, hG235, hReg237, hI236⟩ | ⟨hd1, hd2, g221, G234, hG235, hReg237, hI236⟩ | ⟨hd1, g221, A224, c225, G234, hG235, hl230, hD231, ho229, hReg237, hI236⟩
                    · have hH : Has [(15, Value.slice A163 v162.length c164)] r := ⟨hReg237.get2 0 rfl (hpost 18 rfl), trivial⟩
                      obtain ⟨r0, rfl⟩ := hH.ex
                      refine q_mv (v := Value.slice A163 v162.length c164) rfl ?_
                      refine wpq_nil ?_
                      exact ⟨rfl, (.inl ⟨hd2, _, hG235, (Regs.step hReg237 hDi rfl rfl rfl rfl), hI236⟩)⟩
                    · have hH : Has [(15, Value.slice A163 v162.length c164)] r := ⟨hReg237.get2 0 rfl (hpost 18 rfl), trivial⟩
                      obtain ⟨r0, rfl⟩ := hH.ex
                      refine q_mv (v := Value.slice A163 v162.length c164) rfl ?_
                      refine wpq_nil ?_
                      exact ⟨rfl, (.inr (.inl ⟨hd1, hd2, g221, _, hG235, (Regs.step hReg237 hDi rfl rfl rfl rfl), hI236⟩))⟩
                    · cases (hpost 17 rfl).symm.trans hd1
                  · intro D r wd238 hR hDi hpre hpost
                    rcases hR with ⟨hd2, G234, hG235, hReg237, hI236⟩ | ⟨hd1, hd2, g221, G234, hG235, hReg237, hI236⟩ | ⟨hd1, g221, A224, c225, G234, hG235, hl230, hD231, ho229, hReg237, hI236⟩
                    · have hH : Has [(11, Value.slice A93 y92.length c94)] r := ⟨hReg237.ins.get 3 rfl, trivial⟩
                      obtain ⟨r0, rfl⟩ := hH.ex
                      refine q_mv (v := Value.slice A93 y92.length c94) rfl ?_
                      refine wpq_nil ?_
                      exact ⟨rfl, (.inl ⟨hd2, _, hG235, (Regs.step hReg237 hDi rfl rfl rfl rfl), hI236⟩)⟩
                    · cases (hpost 16 rfl).symm.trans hd1
                    · cases (hpost 17 rfl).symm.trans hd1
                  · intro D r wd238 hR hDi hpre hpost
                    rcases hR with ⟨hd2, G234, hG235, hReg237, hI236⟩ | ⟨hd1, hd2, g221, G234, hG235, hReg237, hI236⟩ | ⟨hd1, g221, A224, c225, G234, hG235, hl230, hD231, ho229, hReg237, hI236⟩
                    · have hH : Has [(16, Value.int .i64 v169)] r := ⟨hReg237.ins.get 7 rfl, trivial⟩
                      obtain ⟨r0, rfl⟩ := hH.ex
                      refine q_mv (v := Value.int .i64 v169) rfl ?_
                      refine wpq_nil ?_
                      exact ⟨rfl, (.inl ⟨hd2, _, hG235, (Regs.step hReg237 hDi rfl rfl rfl rfl), hI236⟩)⟩
                    · cases (hpost 16 rfl).symm.trans hd1
                    · cases (hpost 17 rfl).symm.trans hd1
                  · intro D r wd238 hR hDi hpre hpost
                    rcases hR with ⟨hd2, G234, hG235, hReg237, hI236⟩ | ⟨hd1, hd2, g221, G234, hG235, hReg237, hI236⟩ | ⟨hd1, g221, A224, c225, G234, hG235, hl230, hD231, ho229, hReg237, hI236⟩
                    · have hH : Has [(83, Value.slice A93 y92.length c94), (84, Value.int .i64 v169)] r := ⟨hReg237.get 1 rfl (hpre 1 rfl), hReg237.get 2 rfl (hpre 2 rfl), trivial⟩
                      obtain ⟨r0, rfl⟩ := hH.ex
                      refine q_ia el26 rfl hA209 rfl h206 h206' ?_
                      refine wpq_nil ?_
                      exact ⟨rfl, (.inl ⟨hd2, _, hG235, (Regs.step hReg237 hDi rfl rfl rfl rfl), hI236⟩)⟩
                    · cases (hpost 16 rfl).symm.trans hd1
                    · cases (hpost 17 rfl).symm.trans hd1
                  · intro D r wd238 hR hDi hpre hpost
                    rcases hR with ⟨hd2, G234, hG235, hReg237, hI236⟩ | ⟨hd1, hd2, g221, G234, hG235, hReg237, hI236⟩ | ⟨hd1, g221, A224, c225, G234, hG235, hl230, hD231, ho229, hReg237, hI236⟩
                    · have hH : Has [(85, Value.pointer (some (ad207.add (Int.toNat v169 * 2))))] r := ⟨hReg237.get 3 rfl (hpre 3 rfl), trivial⟩
                      obtain ⟨r0, rfl⟩ := hH.ex
                      refine q_fa (a' := (ad207.add (Int.toNat v169 * 2)).add 0) fl37_0 rfl rfl ?_
                      refine wpq_nil ?_
                      exact ⟨rfl, (.inl ⟨hd2, _, hG235, (Regs.step hReg237 hDi rfl rfl rfl rfl), hI236⟩)⟩
                    · cases (hpost 16 rfl).symm.trans hd1
                    · cases (hpost 17 rfl).symm.trans hd1
                  · intro D r wd238 hR hDi hpre hpost
                    rcases hR with ⟨hd2, G234, hG235, hReg237, hI236⟩ | ⟨hd1, hd2, g221, G234, hG235, hReg237, hI236⟩ | ⟨hd1, g221, A224, c225, G234, hG235, hl230, hD231, ho229, hReg237, hI236⟩
                    · have hH : Has [(86, Value.pointer (some ((ad207.add (Int.toNat v169 * 2)).add 0)))] r := ⟨hReg237.get 4 rfl (hpre 4 rfl), trivial⟩
                      obtain ⟨r0, rfl⟩ := hH.ex
                      refine q_lf hI236 (v := Value.int .i64 ((y92.getD (Int.toNat v169) z_api_Break).At)) ag3 rfl (hG235.cel _ _ (hc212 0 _ rfl)) ?_
                      refine wpq_nil ?_
                      exact ⟨rfl, (.inl ⟨hd2, _, hG235, (Regs.step hReg237 hDi rfl rfl rfl rfl), hI236⟩)⟩
                    · cases (hpost 16 rfl).symm.trans hd1
                    · cases (hpost 17 rfl).symm.trans hd1
                  · intro D r wd238 hR hDi hpre hpost
                    rcases hR with ⟨hd2, G234, hG235, hReg237, hI236⟩ | ⟨hd1, hd2, g221, G234, hG235, hReg237, hI236⟩ | ⟨hd1, g221, A224, c225, G234, hG235, hl230, hD231, ho229, hReg237, hI236⟩
                    · have hH : Has [(1, Value.string a6)] r := ⟨hReg237.ins.get 0 rfl, trivial⟩
                      obtain ⟨r0, rfl⟩ := hH.ex
                      refine q_mv (v := Value.string a6) rfl ?_
                      refine wpq_nil ?_
                      exact ⟨rfl, (.inl ⟨hd2, _, hG235, (Regs.step hReg237 hDi rfl rfl rfl rfl), hI236⟩)⟩
                    · cases (hpost 16 rfl).symm.trans hd1
                    · cases (hpost 17 rfl).symm.trans hd1
                  · intro D r wd238 hR hDi hpre hpost
                    rcases hR with ⟨hd2, G234, hG235, hReg237, hI236⟩ | ⟨hd1, hd2, g221, G234, hG235, hReg237, hI236⟩ | ⟨hd1, g221, A224, c225, G234, hG235, hl230, hD231, ho229, hReg237, hI236⟩
                    · have hH : Has [(88, Value.string a6)] r := ⟨hReg237.get 6 rfl (hpre 6 rfl), trivial⟩
                      obtain ⟨r0, rfl⟩ := hH.ex
                      refine q_lens so9 rfl ?_
                      refine wpq_nil ?_
                      exact ⟨rfl, (.inl ⟨hd2, _, hG235, (Regs.step hReg237 hDi rfl rfl rfl rfl), hI236⟩)⟩
                    · cases (hpost 16 rfl).symm.trans hd1
                    · cases (hpost 17 rfl).symm.trans hd1
                  · intro D r wd238 hR hDi hpre hpost
                    rcases hR with ⟨hd2, G234, hG235, hReg237, hI236⟩ | ⟨hd1, hd2, g221, G234, hG235, hReg237, hI236⟩ | ⟨hd1, g221, A224, c225, G234, hG235, hl230, hD231, ho229, hReg237, hI236⟩
                    · have hH : Has [(87, Value.int .i64 ((y92.getD (Int.toNat v169) z_api_Break).At)), (89, Value.int .i64 (a6.size : Int))] r := ⟨hReg237.get 5 rfl (hpre 5 rfl), hReg237.get 7 rfl (hpre 7 rfl), trivial⟩
                      obtain ⟨r0, rfl⟩ := hH.ex
                      refine q_add rfl rfl ?_
                      refine wpq_nil ?_
                      exact ⟨rfl, (.inl ⟨hd2, _, hG235, (Regs.step hReg237 hDi rfl rfl rfl rfl), hI236⟩)⟩
                    · cases (hpost 16 rfl).symm.trans hd1
                    · cases (hpost 17 rfl).symm.trans hd1
                  · intro D r wd238 hR hDi hpre hpost
                    rcases hR with ⟨hd2, G234, hG235, hReg237, hI236⟩ | ⟨hd1, hd2, g221, G234, hG235, hReg237, hI236⟩ | ⟨hd1, g221, A224, c225, G234, hG235, hl230, hD231, ho229, hReg237, hI236⟩
                    · have hH : Has [(90, Value.int .i64 (w64 (((y92.getD (Int.toNat v169) z_api_Break).At) + (a6.size : Int))))] r := ⟨hReg237.get 8 rfl (hpre 8 rfl), trivial⟩
                      obtain ⟨r0, rfl⟩ := hH.ex
                      refine q_add rfl rfl ?_
                      refine wpq_nil ?_
                      exact ⟨rfl, (.inl ⟨hd2, _, hG235, (Regs.step hReg237 hDi rfl rfl rfl rfl), hI236⟩)⟩
                    · cases (hpost 16 rfl).symm.trans hd1
                    · cases (hpost 17 rfl).symm.trans hd1
                  · intro D r wd238 hR hDi hpre hpost
                    rcases hR with ⟨hd2, G234, hG235, hReg237, hI236⟩ | ⟨hd1, hd2, g221, G234, hG235, hReg237, hI236⟩ | ⟨hd1, g221, A224, c225, G234, hG235, hl230, hD231, ho229, hReg237, hI236⟩
                    · have hH : Has [(11, Value.slice A93 y92.length c94)] r := ⟨hReg237.ins.get 3 rfl, trivial⟩
                      obtain ⟨r0, rfl⟩ := hH.ex
                      refine q_mv (v := Value.slice A93 y92.length c94) rfl ?_
                      refine wpq_nil ?_
                      exact ⟨rfl, (.inl ⟨hd2, _, hG235, (Regs.step hReg237 hDi rfl rfl rfl rfl), hI236⟩)⟩
                    · cases (hpost 16 rfl).symm.trans hd1
                    · cases (hpost 17 rfl).symm.trans hd1
                  · intro D r wd238 hR hDi hpre hpost
                    rcases hR with ⟨hd2, G234, hG235, hReg237, hI236⟩ | ⟨hd1, hd2, g221, G234, hG235, hReg237, hI236⟩ | ⟨hd1, g221, A224, c225, G234, hG235, hl230, hD231, ho229, hReg237, hI236⟩
                    · have hH : Has [(16, Value.int .i64 v169)] r := ⟨hReg237.ins.get 7 rfl, trivial⟩
                      obtain ⟨r0, rfl⟩ := hH.ex
                      refine q_mv (v := Value.int .i64 v169) rfl ?_
                      refine wpq_nil ?_
                      exact ⟨rfl, (.inl ⟨hd2, _, hG235, (Regs.step hReg237 hDi rfl rfl rfl rfl), hI236⟩)⟩
                    · cases (hpost 16 rfl).symm.trans hd1
                    · cases (hpost 17 rfl).symm.trans hd1
                  · intro D r wd238 hR hDi hpre hpost
                    rcases hR with ⟨hd2, G234, hG235, hReg237, hI236⟩ | ⟨hd1, hd2, g221, G234, hG235, hReg237, hI236⟩ | ⟨hd1, g221, A224, c225, G234, hG235, hl230, hD231, ho229, hReg237, hI236⟩
                    · have hH : Has [(92, Value.slice A93 y92.length c94), (93, Value.int .i64 v169)] r := ⟨hReg237.get 10 rfl (hpre 10 rfl), hReg237.get 11 rfl (hpre 11 rfl), trivial⟩
                      obtain ⟨r0, rfl⟩ := hH.ex
                      refine q_ia el26 rfl hA216 rfl h213 h213' ?_
                      refine wpq_nil ?_
                      exact ⟨rfl, (.inl ⟨hd2, _, hG235, (Regs.step hReg237 hDi rfl rfl rfl rfl), hI236⟩)⟩
                    · cases (hpost 16 rfl).symm.trans hd1
                    · cases (hpost 17 rfl).symm.trans hd1
                  · intro D r wd238 hR hDi hpre hpost
                    rcases hR with ⟨hd2, G234, hG235, hReg237, hI236⟩ | ⟨hd1, hd2, g221, G234, hG235, hReg237, hI236⟩ | ⟨hd1, g221, A224, c225, G234, hG235, hl230, hD231, ho229, hReg237, hI236⟩
                    · have hH : Has [(94, Value.pointer (some (ad214.add (Int.toNat v169 * 2))))] r := ⟨hReg237.get 12 rfl (hpre 12 rfl), trivial⟩
                      obtain ⟨r0, rfl⟩ := hH.ex
                      refine q_fa (a' := (ad214.add (Int.toNat v169 * 2)).add 1) fl37_1 rfl rfl ?_
                      refine wpq_nil ?_
                      exact ⟨rfl, (.inl ⟨hd2, _, hG235, (Regs.step hReg237 hDi rfl rfl rfl rfl), hI236⟩)⟩
                    · cases (hpost 16 rfl).symm.trans hd1
                    · cases (hpost 17 rfl).symm.trans hd1
                  · intro D r wd238 hR hDi hpre hpost
                    rcases hR with ⟨hd2, G234, hG235, hReg237, hI236⟩ | ⟨hd1, hd2, g221, G234, hG235, hReg237, hI236⟩ | ⟨hd1, g221, A224, c225, G234, hG235, hl230, hD231, ho229, hReg237, hI236⟩
                    · have hH : Has [(95, Value.pointer (some ((ad214.add (Int.toNat v169 * 2)).add 1)))] r := ⟨hReg237.get 13 rfl (hpre 13 rfl), trivial⟩
                      obtain ⟨r0, rfl⟩ := hH.ex
                      refine q_lf hI236 (v := Value.bool ((y92.getD (Int.toNat v169) z_api_Break).Hyphen)) ag4 rfl (hG235.cel _ _ (hc219 1 _ rfl)) ?_
                      refine wpq_nil ?_
                      exact ⟨rfl, (.inl ⟨hd2, _, hG235, (Regs.step hReg237 hDi rfl rfl rfl rfl), hI236⟩)⟩
                    · cases (hpost 16 rfl).symm.trans hd1
                    · cases (hpost 17 rfl).symm.trans hd1
                  · intro D r wd238 hR hDi hpre hpost
                    rcases hR with ⟨hd2, G234, hG235, hReg237, hI236⟩ | ⟨hd1, hd2, g221, G234, hG235, hReg237, hI236⟩ | ⟨hd1, g221, A224, c225, G234, hG235, hl230, hD231, ho229, hReg237, hI236⟩
                    · have hH : Has [(91, Value.int .i64 (w64 ((w64 (((y92.getD (Int.toNat v169) z_api_Break).At) + (a6.size : Int))) + 1))), (96, Value.bool ((y92.getD (Int.toNat v169) z_api_Break).Hyphen))] r := ⟨hReg237.get 9 rfl (hpre 9 rfl), hReg237.get 14 rfl (hpre 14 rfl), trivial⟩
                      obtain ⟨r0, rfl⟩ := hH.ex
                      refine q_build (vs := [(0, Value.int .i64 (w64 ((w64 (((y92.getD (Int.toNat v169) z_api_Break).At) + (a6.size : Int))) + 1))), (1, Value.bool ((y92.getD (Int.toNat v169) z_api_Break).Hyphen))]) (cs := [Value.int .i64 (w64 ((w64 (((y92.getD (Int.toNat v169) z_api_Break).At) + (a6.size : Int))) + 1)), Value.bool ((y92.getD (Int.toNat v169) z_api_Break).Hyphen)]) ze37 pl37 rfl rfl ?_
                      refine wpq_nil ?_
                      exact ⟨rfl, (.inl ⟨hd2, _, hG235, (Regs.step hReg237 hDi rfl rfl rfl rfl), hI236⟩)⟩
                    · cases (hpost 16 rfl).symm.trans hd1
                    · cases (hpost 17 rfl).symm.trans hd1
                  · intro D r wd238 hR hDi hpre hpost
                    rcases hR with ⟨hd2, G234, hG235, hReg237, hI236⟩ | ⟨hd1, hd2, g221, G234, hG235, hReg237, hI236⟩ | ⟨hd1, g221, A224, c225, G234, hG235, hl230, hD231, ho229, hReg237, hI236⟩
                    · have hH : Has [(97, Value.agg [Value.int .i64 (w64 ((w64 (((y92.getD (Int.toNat v169) z_api_Break).At) + (a6.size : Int))) + 1)), Value.bool ((y92.getD (Int.toNat v169) z_api_Break).Hyphen)].toArray)] r := ⟨hReg237.get 15 rfl (hpre 15 rfl), trivial⟩
                      obtain ⟨r0, rfl⟩ := hH.ex
                      refine q_bs hI236 (vs := [(0, Value.agg [Value.int .i64 (w64 ((w64 (((y92.getD (Int.toNat v169) z_api_Break).At) + (a6.size : Int))) + 1)), Value.bool ((y92.getD (Int.toNat v169) z_api_Break).Hyphen)].toArray)]) (cs := [Value.int .i64 (w64 ((w64 (((y92.getD (Int.toNat v169) z_api_Break).At) + (a6.size : Int))) + 1)), Value.bool ((y92.getD (Int.toNat v169) z_api_Break).Hyphen)]) el26 ze37 rfl (by decide) rfl rfl (fun g221 wd222 hI223 => ?_)
                      refine wpq_nil ?_
                      exact ⟨rfl, (.inr (.inl ⟨rfl, (hpost 17 rfl), g221, _, hG235, (Regs.step (Regs.more (new := [(16, 98, Value.slice (some ⟨g221, 0, none⟩) 1 1)]) hReg237 (List.forall_mem_cons.2 ⟨hDi, (fun _ h => nomatch h)⟩)) hDi rfl rfl rfl rfl), hI223⟩))⟩
                    · cases hDi.symm.trans hd1
                    · cases (hpost 17 rfl).symm.trans hd1
                  · intro D r wd238 hR hDi hpre hpost
                    rcases hR with ⟨hd2, G234, hG235, hReg237, hI236⟩ | ⟨hd1, hd2, g221, G234, hG235, hReg237, hI236⟩ | ⟨hd1, g221, A224, c225, G234, hG235, hl230, hD231, ho229, hReg237, hI236⟩
                    · cases (hpre 16 rfl).symm.trans hd2
                    · have hH : Has [(82, Value.slice A163 v162.length c164), (98, Value.slice (some ⟨g221, 0, none⟩) 1 1)] r := ⟨hReg237.get 0 rfl (hpre 0 rfl), hReg237.get 16 rfl (hpre 16 rfl), trivial⟩
                      obtain ⟨r0, rfl⟩ := hH.ex
                      refine q_app (xs := v162) (ys := [(⟨w64 ((w64 (((y92.getD (Int.toNat v169) z_api_Break).At) + (a6.size : Int))) + 1), (y92.getD (Int.toNat v169) z_api_Break).Hyphen⟩ : api_Break)]) k_api_Break hI236 6 el26 ze37 rfl rfl rfl rfl ho167 hl165 (Dat.mono hG235 hD166) (src_bx hI236 0 so26 rfl rfl) ⟨[Value.int .i64 (w64 ((w64 (((y92.getD (Int.toNat v169) z_api_Break).At) + (a6.size : Int))) + 1)), Value.bool ((y92.getD (Int.toNat v169) z_api_Break).Hyphen)], _, rfl, (mk_api_Break (x := (⟨w64 ((w64 (((y92.getD (Int.toNat v169) z_api_Break).At) + (a6.size : Int))) + 1), (y92.getD (Int.toNat v169) z_api_Break).Hyphen⟩ : api_Break))), rfl⟩ rfl (by simp only [List.length_cons, List.length_nil]; omega) (by simp only [List.length_cons, List.length_nil]; omega) (fun A224 c225 G226 wd227 hG228 ho229 hl230 hD231 hI232 => ?_)
                      refine wpq_nil ?_
                      exact ⟨rfl, (.inr (.inr ⟨rfl, g221, A224, c225, _, (Gh.le_trans hG235 hG228), hl230, hD231, ho229, (Regs.step (Regs.more (new := [(17, 99, Value.slice A224 (v162 ++ [(⟨w64 ((w64 (((y92.getD (Int.toNat v169) z_api_Break).At) + (a6.size : Int))) + 1), (y92.getD (Int.toNat v169) z_api_Break).Hyphen⟩ : api_Break)]).length c225), (18, 15, Value.slice A224 (v162 ++ [(⟨w64 ((w64 (((y92.getD (Int.toNat v169) z_api_Break).At) + (a6.size : Int))) + 1), (y92.getD (Int.toNat v169) z_api_Break).Hyphen⟩ : api_Break)]).length c225)]) hReg237 (List.forall_mem_cons.2 ⟨hDi, (List.forall_mem_cons.2 ⟨hpost 18 rfl, (fun _ h => nomatch h)⟩)⟩)) hDi rfl rfl rfl rfl), hI232⟩))⟩
                    · cases hDi.symm.trans hd1
                  · intro D r wd238 hR hDi hpre hpost
                    rcases hR with ⟨hd2, G234, hG235, hReg237, hI236⟩ | ⟨hd1, hd2, g221, G234, hG235, hReg237, hI236⟩ | ⟨hd1, g221, A224, c225, G234, hG235, hl230, hD231, ho229, hReg237, hI236⟩
                    · cases (hpre 16 rfl).symm.trans hd2
                    · cases (hpre 17 rfl).symm.trans hd2
                    · have hH : Has [(99, Value.slice A224 (v162 ++ [(⟨w64 ((w64 (((y92.getD (Int.toNat v169) z_api_Break).At) + (a6.size : Int))) + 1), (y92.getD (Int.toNat v169) z_api_Break).Hyphen⟩ : api_Break)]).length c225)] r := ⟨hReg237.get 17 rfl (hpre 17 rfl), trivial⟩
                      obtain ⟨r0, rfl⟩ := hH.ex
                      refine q_as (v := Value.slice A224 (v162 ++ [(⟨w64 ((w64 (((y92.getD (Int.toNat v169) z_api_Break).At) + (a6.size : Int))) + 1), (y92.getD (Int.toNat v169) z_api_Break).Hyphen⟩ : api_Break)]).length c225) rfl ?_
                      refine wpq_nil ?_
                      exact ⟨rfl, (.inr (.inr ⟨hd1, g221, A224, c225, _, hG235, hl230, hD231, ho229, (Regs.step hReg237 hDi rfl rfl rfl rfl), hI236⟩))⟩
                · intro D r wd238 hall hR
                  rcases hR with ⟨hd2, G234, hG235, hReg237, hI236⟩ | ⟨hd1, hd2, g221, G234, hG235, hReg237, hI236⟩ | ⟨hd1, g221, A224, c225, G234, hG235, hl230, hD231, ho229, hReg237, hI236⟩
                  · cases (hall 16 (Nat.le_of_ble_eq_true rfl)).symm.trans hd2
                  · cases (hall 17 (Nat.le_of_ble_eq_true rfl)).symm.trans hd2
                  · have hH : Has [(1, Value.string a6), (7, Value.bool y21), (10, Value.int .i64 y84), (11, Value.slice A93 y92.length c94), (12, Value.int .i64 y99), (13, Value.slice A108 y107.length c109), (14, Value.int .i64 y114), (15, Value.slice A224 (v162 ++ [(⟨w64 ((w64 (((y92.getD (Int.toNat v169) z_api_Break).At) + (a6.size : Int))) + 1), (y92.getD (Int.toNat v169) z_api_Break).Hyphen⟩ : api_Break)]).length c225), (16, Value.int .i64 v169)] r := ⟨hReg237.ins.get 0 rfl, hReg237.ins.get 1 rfl, hReg237.ins.get 2 rfl, hReg237.ins.get 3 rfl, hReg237.ins.get 4 rfl, hReg237.ins.get 5 rfl, hReg237.ins.get 6 rfl, hReg237.get 18 rfl (hall 18 (Nat.le_of_ble_eq_true rfl)), hReg237.ins.get 7 rfl, trivial⟩
                    obtain ⟨r0, rfl⟩ := hH.ex
                    refine hK205 _ _ _ ?_
                    refine wpc_region ?_
                    refine q_mv (v := Value.int .i64 v169) rfl ?_
                    refine q_add rfl rfl ?_
                    refine q_as (v := Value.int .i64 (w64 (v169 + 1))) rfl ?_
                    refine wpq_nil ?_
                    have hI239 := Hp.front hI236 6 rfl
                    have hI240 := Hp.front hI239 6 rfl
                    have hI241 := Hp.front hI240 6 rfl
                    have hI242 := Hp.front hI241 6 rfl
                    have hI243 := Hp.front hI242 6 rfl
                    have hI244 := Hp.front hI243 6 rfl
                    have hI245 := Hp.sub (L := bx g141 [Value.int .i64 (w64 ((a6.size : Int) + 1)), Value.bool false] 37 :: bx g11 [Value.int .i64 a1.Before, Value.int .i64 a1.Behind, Value.slice A2 a1.Keep.length c3] 24 :: tk (Value.slice A108 y107.length c109) 2 37 :: tk (Value.slice A93 y92.length c94) 2 37 :: tk (Value.slice A78 y77.length c79) 2 37 :: tk (Value.slice A224 (v162 ++ [(⟨w64 ((w64 (((y92.getD (Int.toNat v169) z_api_Break).At) + (a6.size : Int))) + 1), (y92.getD (Int.toNat v169) z_api_Break).Hyphen⟩ : api_Break)]).length c225) 2 37 :: bx g221 [Value.int .i64 (w64 ((w64 (((y92.getD (Int.toNat v169) z_api_Break).At) + (a6.size : Int))) + 1)), Value.bool ((y92.getD (Int.toNat v169) z_api_Break).Hyphen)] 37 :: L) (L' := bx g141 [Value.int .i64 (w64 ((a6.size : Int) + 1)), Value.bool false] 37 :: bx g11 [Value.int .i64 a1.Before, Value.int .i64 a1.Behind, Value.slice A2 a1.Keep.length c3] 24 :: tk (Value.slice A108 y107.length c109) 2 37 :: tk (Value.slice A93 y92.length c94) 2 37 :: tk (Value.slice A78 y77.length c79) 2 37 :: tk (Value.slice A224 (v162 ++ [(⟨w64 ((w64 (((y92.getD (Int.toNat v169) z_api_Break).At) + (a6.size : Int))) + 1), (y92.getD (Int.toNat v169) z_api_Break).Hyphen⟩ : api_Break)]).length c225) 2 37 :: L) hI244 (List.Sublist.cons_cons _ (List.Sublist.cons_cons _ (List.Sublist.cons_cons _ (List.Sublist.cons_cons _ (List.Sublist.cons_cons _ (List.Sublist.cons_cons _ (List.Sublist.cons _ (List.Sublist.refl _))))))))
                    exact ih _ _ _ H A224 c225 _ _ _ (Gh.le_trans hG196 hG235) ⟨rfl, rfl, rfl, rfl, rfl, rfl, rfl, rfl, rfl, trivial⟩ hI245 hl230 hD231 ho229 rfl
              · replace H := ite_no h203 H
                refine wpc_false (bool_no h203) ?_
                refine wpc_exit ?_
                cases H
                exact ⟨rfl, A163, c164, _, rfl, hG196, ⟨rfl, rfl, rfl, rfl, rfl, rfl, trivial⟩, hI198, hl165, hD166, ho167, trivial⟩
            · clear hC
              rintro e r ds wd192 ⟨rfl, A184, c185, G190, rfl, hG191, hHas, hI193, hl186, hD187, ho188, _⟩
              rw [hHas.eq]; clear hHas
              refine hK155 _ _ _ ?_
              refine wpc_seq_k fun K252 hK253 => ?_
              refine wpc_region ?_
              refine q_mv (v := Value.bool y21) rfl ?_
              refine q_mv (v := Value.bool y21) rfl ?_
              obtain ⟨v254, hC, H⟩ := bind_some H
              refine wpq_split 3 (K := fun e r ds w => e = .normal ∧ ∃ (G255 : Gh), ds = [] ∧ G190 ≤ G255 ∧ Has [(12, Value.int .i64 y99), (13, Value.slice A108 y107.length c109), (14, Value.int .i64 y114), (15, Value.slice A184 v183.length c185), (104, Value.bool v254)] r ∧ Hp G255 (bx g141 [Value.int .i64 (w64 ((a6.size : Int) + 1)), Value.bool false] 37 :: bx g11 [Value.int .i64 a1.Before, Value.int .i64 a1.Behind, Value.slice A2 a1.Keep.length c3] 24 :: tk (Value.slice A108 y107.length c109) 2 37 :: tk (Value.slice A93 y92.length c94) 2 37 :: tk (Value.slice A78 y77.length c79) 2 37 :: tk (Value.slice A184 v183.length c185) 2 37 :: L) w ∧ True) ?_ ?_
              · replace H := hC
                by_cases h260 : y21 = true
                · replace H := ite_yes h260 H
                  refine q_mv (v := Value.int .i64 y84) rfl ?_ (hw := guard_yes rfl rfl rfl (bval_yes h260))
                  refine q_eql rfl rfl ?_ (hw := guard_yes rfl rfl rfl (bval_yes h260))
                  refine q_pick true (v := Value.bool (decide (y84 = 0))) (bval_yes h260) rfl ?_
                  refine wpq_nil ?_
                  cases H
                  exact ⟨rfl, _, rfl, (Gh.le_refl _), ⟨rfl, rfl, rfl, rfl, rfl, trivial⟩, hI193, trivial⟩
                · replace H := ite_no h260 H
                  refine wpq_no (guard_no rfl rfl rfl (bval_no h260) rfl) ?_
                  refine wpq_no (guard_no rfl rfl rfl (bval_no h260) rfl) ?_
                  refine q_pick false (v := Value.bool false) (bval_no h260) rfl ?_
                  refine wpq_nil ?_
                  cases H
                  exact ⟨rfl, _, rfl, (Gh.le_refl _), ⟨rfl, rfl, rfl, rfl, rfl, trivial⟩, hI193, trivial⟩
              · clear hC
                rintro e r ds wd257 ⟨rfl, G255, rfl, hG256, hHas, hI258, _⟩
                rw [hHas.eq]; clear hHas
                refine q_mv (v := Value.bool v254) rfl ?_
                obtain ⟨v261, hC, H⟩ := bind_some H
                refine wpq_split 3 (K := fun e r ds w => e = .normal ∧ ∃ (G262 : Gh), ds = [] ∧ G255 ≤ G262 ∧ Has [(13, Value.slice A108 y107.length c109), (14, Value.int .i64 y114), (15, Value.slice A184 v183.length c185), (108, Value.bool v261)] r ∧ Hp G262 (bx g141 [Value.int .i64 (w64 ((a6.size : Int) + 1)), Value.bool false] 37 :: bx g11 [Value.int .i64 a1.Before, Value.int .i64 a1.Behind, Value.slice A2 a1.Keep.length c3] 24 :: tk (Value.slice A108 y107.length c109) 2 37 :: tk (Value.slice A93 y92.length c94) 2 37 :: tk (Value.slice A78 y77.length c79) 2 37 :: tk (Value.slice A184 v183.length c185) 2 37 :: L) w ∧ True) ?_ ?_
                · replace H := hC
                  by_cases h267 : v254 = true
                  · replace H := ite_yes h267 H
                    refine q_mv (v := Value.int .i64 y99) rfl ?_ (hw := guard_yes rfl rfl rfl (bval_yes h267))
                    refine q_eql rfl rfl ?_ (hw := guard_yes rfl rfl rfl (bval_yes h267))
                    refine q_pick true (v := Value.bool (decide (y99 = 0))) (bval_yes h267) rfl ?_
                    refine wpq_nil ?_
                    cases H
                    exact ⟨rfl, _, rfl, (Gh.le_refl _), ⟨rfl, rfl, rfl, rfl, trivial⟩, hI258, trivial⟩
                  · replace H := ite_no h267 H
                    refine wpq_no (guard_no rfl rfl rfl (bval_no h267) rfl) ?_
                    refine wpq_no (guard_no rfl rfl rfl (bval_no h267) rfl) ?_
                    refine q_pick false (v := Value.bool false) (bval_no h267) rfl ?_
                    refine wpq_nil ?_
                    cases H
                    exact ⟨rfl, _, rfl, (Gh.le_refl _), ⟨rfl, rfl, rfl, rfl, trivial⟩, hI258, trivial⟩
                · clear hC
                  rintro e r ds wd264 ⟨rfl, G262, rfl, hG263, hHas, hI265, _⟩
                  rw [hHas.eq]; clear hHas
                  refine q_mv (v := Value.bool v261) rfl ?_
                  obtain ⟨v268, hC, H⟩ := bind_some H
                  refine wpq_split 3 (K := fun e r ds w => e = .normal ∧ ∃ (G269 : Gh), ds = [] ∧ G262 ≤ G269 ∧ Has [(13, Value.slice A108 y107.length c109), (15, Value.slice A184 v183.length c185), (112, Value.bool v268)] r ∧ Hp G269 (bx g141 [Value.int .i64 (w64 ((a6.size : Int) + 1)), Value.bool false] 37 :: bx g11 [Value.int .i64 a1.Before, Value.int .i64 a1.Behind, Value.slice A2 a1.Keep.length c3] 24 :: tk (Value.slice A108 y107.length c109) 2 37 :: tk (Value.slice A93 y92.length c94) 2 37 :: tk (Value.slice A78 y77.length c79) 2 37 :: tk (Value.slice A184 v183.length c185) 2 37 :: L) w ∧ True) ?_ ?_
                  · replace H := hC
                    by_cases h274 : v261 = true
                    · replace H := ite_yes h274 H
                      refine q_mv (v := Value.int .i64 y114) rfl ?_ (hw := guard_yes rfl rfl rfl (bval_yes h274))
                      refine q_eql rfl rfl ?_ (hw := guard_yes rfl rfl rfl (bval_yes h274))
                      refine q_pick true (v := Value.bool (decide (y114 = 0))) (bval_yes h274) rfl ?_
                      refine wpq_nil ?_
                      cases H
                      exact ⟨rfl, _, rfl, (Gh.le_refl _), ⟨rfl, rfl, rfl, trivial⟩, hI265, trivial⟩
                    · replace H := ite_no h274 H
                      refine wpq_no (guard_no rfl rfl rfl (bval_no h274) rfl) ?_
                      refine wpq_no (guard_no rfl rfl rfl (bval_no h274) rfl) ?_
                      refine q_pick false (v := Value.bool false) (bval_no h274) rfl ?_
                      refine wpq_nil ?_
                      cases H
                      exact ⟨rfl, _, rfl, (Gh.le_refl _), ⟨rfl, rfl, rfl, trivial⟩, hI265, trivial⟩
                  · clear hC
                    rintro e r ds wd271 ⟨rfl, G269, rfl, hG270, hHas, hI272, _⟩
                    rw [hHas.eq]; clear hHas
                    refine q_mv (v := Value.bool v268) rfl ?_
                    obtain ⟨v275, hC, H⟩ := bind_some H
                    refine wpq_split 4 (K := fun e r ds w => e = .normal ∧ ∃ (G276 : Gh), ds = [] ∧ G269 ≤ G276 ∧ Has [(117, Value.bool v275)] r ∧ Hp G276 (bx g141 [Value.int .i64 (w64 ((a6.size : Int) + 1)), Value.bool false] 37 :: bx g11 [Value.int .i64 a1.Before, Value.int .i64 a1.Behind, Value.slice A2 a1.Keep.length c3] 24 :: tk (Value.slice A108 y107.length c109) 2 37 :: tk (Value.slice A93 y92.length c94) 2 37 :: tk (Value.slice A78 y77.length c79) 2 37 :: tk (Value.slice A184 v183.length c185) 2 37 :: L) w ∧ True) ?_ ?_
                    · replace H := hC
                      by_cases h281 : v268 = true
                      · replace H := ite_yes h281 H
                        refine q_mv (v := Value.slice A108 y107.length c109) rfl ?_ (hw := guard_yes rfl rfl rfl (bval_yes h281))
                        refine q_mv (v := Value.slice A184 v183.length c185) rfl ?_ (hw := guard_yes rfl rfl rfl (bval_yes h281))
                        obtain ⟨y287, hy282, H⟩ := bind_some H
                        refine q_cv (vs := [Value.slice A108 y107.length c109, Value.slice A184 v183.length c185]) bo14 rfl rfl (formeref08_Same_spec (a1 := y107) (a6 := v183) hI272 hl110 (Dat.mono (Gh.le_trans (Gh.le_trans (Gh.le_trans (Gh.le_trans (Gh.le_trans (Gh.le_trans hG122 hG129) hG148) hG191) hG256) hG263) hG270) hD111) hl186 (Dat.mono (Gh.le_trans (Gh.le_trans hG256 hG263) hG270) hD187) hy282) ?_ (hw := guard_yes rfl rfl rfl (bval_yes h281))
                        rintro _ wd285 ⟨G283, hG284, hI286, rfl⟩
                        refine ⟨_, rfl, ?_⟩
                        refine q_pick true (v := Value.bool y287) (bval_yes h281) rfl ?_
                        refine wpq_nil ?_
                        cases H
                        exact ⟨rfl, _, rfl, hG284, ⟨rfl, trivial⟩, hI286, trivial⟩
                      · replace H := ite_no h281 H
                        refine wpq_no (guard_no rfl rfl rfl (bval_no h281) rfl) ?_
                        refine wpq_no (guard_no rfl rfl rfl (bval_no h281) rfl) ?_
                        refine wpq_no (guard_no rfl rfl rfl (bval_no h281) rfl) ?_
                        refine q_pick false (v := Value.bool false) (bval_no h281) rfl ?_
                        refine wpq_nil ?_
                        cases H
                        exact ⟨rfl, _, rfl, (Gh.le_refl _), ⟨rfl, trivial⟩, hI272, trivial⟩
                    · clear hC
                      rintro e r ds wd278 ⟨rfl, G276, rfl, hG277, hHas, hI279, _⟩
                      rw [hHas.eq]; clear hHas
                      refine q_as (v := Value.bool v275) rfl ?_
                      refine wpq_nil ?_
                      refine hK253 _ _ _ ?_
                      refine wpc_ret ?_
                      have hI288 := Hp.sub (L := bx g141 [Value.int .i64 (w64 ((a6.size : Int) + 1)), Value.bool false] 37 :: bx g11 [Value.int .i64 a1.Before, Value.int .i64 a1.Behind, Value.slice A2 a1.Keep.length c3] 24 :: tk (Value.slice A108 y107.length c109) 2 37 :: tk (Value.slice A93 y92.length c94) 2 37 :: tk (Value.slice A78 y77.length c79) 2 37 :: tk (Value.slice A184 v183.length c185) 2 37 :: L) (L' := L) hI279 (List.Sublist.cons _ (List.Sublist.cons _ (List.Sublist.cons _ (List.Sublist.cons _ (List.Sublist.cons _ (List.Sublist.cons _ (List.Sublist.refl _)))))))
                      cases H
                      exact ⟨.inr rfl, rfl, _, ⟨_, _, rfl, rfl, rfl⟩, _, (Gh.le_trans (Gh.le_trans (Gh.le_trans (Gh.le_trans (Gh.le_trans (Gh.le_trans (Gh.le_trans (Gh.le_trans (Gh.le_trans (Gh.le_trans (Gh.le_trans (Gh.le_trans (Gh.le_trans (Gh.le_trans (Gh.le_trans (Gh.le_trans hG18 hG32) hG38) hG45) hG52) hG60) hG74) hG89) hG104) hG122) hG129) hG148) hG191) hG256) hG263) hG270) hG277), hI288, rfl⟩
end Go.Proofs.YtiahgcidgbalkaaDoor.LG
