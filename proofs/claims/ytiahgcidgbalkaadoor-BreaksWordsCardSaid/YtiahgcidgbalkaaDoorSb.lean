/-
  The walks: each function computes its plain function: printed by a program out of the translation.
-/
import Derived.Test.YtiahgcidgbalkaaDoorSa
set_option linter.unusedVariables false
set_option linter.unusedSimpArgs false
set_option maxRecDepth 100000
namespace Go.Proofs.YtiahgcidgbalkaaDoor.LG
open Go Go.LG Go.RowKit
open Go.Lib Go.Shelf Go.Proofs
set_option maxHeartbeats 1000000 in
theorem formeref08_Same_spec {a1 : List api_Break} {a6 : List api_Break} {A2 : Option Addr} {c3 : Nat} {A7 : Option Addr} {c8 : Nat} {r1081 : Bool} {G : Gh} {L : List Itm} {w : World} (hI : Hp G (L) w) (hl4 : a1.length ≤ c3) (hD5 : Dat k_api_Break G A2 a1) (hl9 : a6.length ≤ c8) (hD10 : Dat k_api_Break G A7 a6) (H : formeref08_Same a1 a6 = some r1081) :
    Calls Tryd.prog 14 [Value.slice A2 a1.length c3, Value.slice A7 a6.length c8].toArray w fun e w' => ∃ (G' : Gh), G ≤ G' ∧ Hp G' (L) w' ∧ e = .returned (Value.bool r1081) := by
  refine calls_intro (N := 26) Tryd.func14 rfl rfl (Nat.le_of_ble_eq_true rfl) ?_
  unfold formeref08_Same at H
  refine wpc_seq_k fun K11 hK12 => ?_
  refine wpc_region ?_
  refine q_as (v := Value.bool false) rfl ?_
  refine wpq_nil ?_
  refine hK12 _ _ _ ?_
  refine wpc_seq_k fun K13 hK14 => ?_
  refine wpc_seq_k fun K15 hK16 => ?_
  refine wpc_region ?_
  refine q_mv (v := Value.slice A2 a1.length c3) rfl ?_
  refine q_len so26 rfl ?_
  refine q_mv (v := Value.slice A7 a6.length c8) rfl ?_
  refine q_len so26 rfl ?_
  refine q_neq rfl rfl ?_
  refine wpq_nil ?_
  refine hK16 _ _ _ ?_
  by_cases h17 : ¬ (a1.length : Int) = (a6.length : Int)
  · replace H := ite_yes h17 H
    refine wpc_true (bool_yes h17) ?_
    refine wpc_seq_k fun K18 hK19 => ?_
    refine wpc_region ?_
    refine q_as (v := Value.bool false) rfl ?_
    refine wpq_nil ?_
    refine hK19 _ _ _ ?_
    refine wpc_ret ?_
    cases H
    exact ⟨.inr rfl, rfl, _, ⟨_, _, rfl, rfl, rfl⟩, _, (Gh.le_refl _), hI, rfl⟩
  · replace H := ite_no h17 H
    refine wpc_false (bool_no h17) ?_
    refine wpc_skip ?_
    refine hK14 _ _ _ ?_
    refine wpc_seq_k fun K20 hK21 => ?_
    refine wpc_seq_k fun K22 hK23 => ?_
    refine wpc_region ?_
    refine q_as (v := Value.int .i64 0) rfl ?_
    refine wpq_nil ?_
    refine hK23 _ _ _ ?_
    refine wpc_block ?_
    obtain ⟨o43, hC, H⟩ := bind_some H
    refine wpc_mono (Q := fun e r ds w => match (generalizing := false) o43 with | (Sum.inl _) => e = .ret ∧ ∃ (G35 : Gh), ds = [] ∧ G ≤ G35 ∧ Has [(4, Value.bool false)] r ∧ Hp G35 (L) w ∧ True | (Sum.inr _) => e = .exit 0 ∧ ∃ (G39 : Gh), ds = [] ∧ G ≤ G39 ∧ Has [] r ∧ Hp G39 (L) w ∧ True) ?_ ?_
    · clear H
      refine wpc_loop fun I hLp => ?_
      refine formeref08_Same_l34.partial_correctness a1 a6 (fun v28 o => ∀ (G44 : Gh) (r : Rg) (w : World), G ≤ G44 → Has [(0, Value.slice A2 a1.length c3), (1, Value.slice A7 a6.length c8), (5, Value.int .i64 v28)] r → Hp G44 (L) w → o = o43 → I r [] w) ?_ 0 _ hC _ _ _ (Gh.le_refl _) ⟨rfl, rfl, rfl, trivial⟩ hI rfl
      intro _ ih v28 o H G44 r wd46 hG45 hHas hI47 ho
      rw [ho] at H; clear ho
      rw [hHas.eq]; clear hHas
      refine hLp _ _ _ ?_
      refine wpc_seq_k fun K48 hK49 => ?_
      refine wpc_seq_k fun K50 hK51 => ?_
      refine wpc_region ?_
      refine q_mv (v := Value.int .i64 v28) rfl ?_
      refine q_mv (v := Value.slice A2 a1.length c3) rfl ?_
      refine q_len so26 rfl ?_
      refine q_lss rfl rfl ?_
      refine wpq_nil ?_
      refine hK51 _ _ _ ?_
      by_cases h52 : v28 < (a1.length : Int)
      · replace H := ite_yes h52 H
        refine wpc_true (bool_yes h52) ?_
        refine wpc_skip ?_
        refine hK49 _ _ _ ?_
        refine wpc_seq_k fun K53 hK54 => ?_
        refine wpc_block ?_
        refine wpc_seq_k fun K55 hK56 => ?_
        obtain ⟨⟨h57, h57'⟩, H⟩ := ite_some H
        obtain ⟨ad58, cs59, hA60, hK61, hn62, hc63⟩ := Dat.get (Dat.mono hG45 hD5) z_api_Break (v28) h57 h57'
        obtain ⟨rfl⟩ := open_api_Break hK61
        obtain ⟨⟨h64, h64'⟩, H⟩ := ite_some H
        obtain ⟨ad65, cs66, hA67, hK68, hn69, hc70⟩ := Dat.get (Dat.mono hG45 hD10) z_api_Break (v28) h64 h64'
        obtain ⟨rfl⟩ := open_api_Break hK68
        refine wpc_drawL [0, 0, 3, 7, 0, 0, 48, 112, 255] (fun D r w => (∃ (G' : Gh), G44 ≤ G' ∧ Regs [(0, Value.slice A2 a1.length c3), (1, Value.slice A7 a6.length c8), (5, Value.int .i64 v28)] [] [(0, 17, Value.slice A2 a1.length c3), (1, 18, Value.int .i64 v28), (2, 19, Value.pointer (some (ad58.add (Int.toNat v28 * 2)))), (3, 20, Value.agg [Value.int .i64 ((a1.getD (Int.toNat v28) z_api_Break).At), Value.bool ((a1.getD (Int.toNat v28) z_api_Break).Hyphen)].toArray), (4, 21, Value.slice A7 a6.length c8), (5, 22, Value.int .i64 v28), (6, 23, Value.pointer (some (ad65.add (Int.toNat v28 * 2)))), (7, 24, Value.agg [Value.int .i64 ((a6.getD (Int.toNat v28) z_api_Break).At), Value.bool ((a6.getD (Int.toNat v28) z_api_Break).Hyphen)].toArray), (8, 25, Value.bool (decide (¬ (a1.getD (Int.toNat v28) z_api_Break) = (a6.getD (Int.toNat v28) z_api_Break))))] D r ∧ Hp G' (L) w)) mixo rfl rfl ?_ ?_ ?_
        · exact ⟨_, Gh.le_refl _, Regs.start ⟨rfl, rfl, rfl, trivial⟩ trivial, hI47.drew⟩
        · refine ⟨?_, ?_, ?_, ?_, ?_, ?_, ?_, ?_, ?_, trivial⟩
          · intro D r wd75 hR hDi hpre hpost
            obtain ⟨G71, hG72, hReg74, hI73⟩ := hR
            have hH : Has [(0, Value.slice A2 a1.length c3)] r := ⟨hReg74.ins.get 0 rfl, trivial⟩
            obtain ⟨r0, rfl⟩ := hH.ex
            refine q_mv (v := Value.slice A2 a1.length c3) rfl ?_
            refine wpq_nil ?_
            exact ⟨rfl, ⟨_, hG72, (Regs.step hReg74 hDi rfl rfl rfl rfl), hI73⟩⟩
          · intro D r wd75 hR hDi hpre hpost
            obtain ⟨G71, hG72, hReg74, hI73⟩ := hR
            have hH : Has [(5, Value.int .i64 v28)] r := ⟨hReg74.ins.get 2 rfl, trivial⟩
            obtain ⟨r0, rfl⟩ := hH.ex
            refine q_mv (v := Value.int .i64 v28) rfl ?_
            refine wpq_nil ?_
            exact ⟨rfl, ⟨_, hG72, (Regs.step hReg74 hDi rfl rfl rfl rfl), hI73⟩⟩
          · intro D r wd75 hR hDi hpre hpost
            obtain ⟨G71, hG72, hReg74, hI73⟩ := hR
            have hH : Has [(17, Value.slice A2 a1.length c3), (18, Value.int .i64 v28)] r := ⟨hReg74.get 0 rfl (hpre 0 rfl), hReg74.get 1 rfl (hpre 1 rfl), trivial⟩
            obtain ⟨r0, rfl⟩ := hH.ex
            refine q_ia el26 rfl hA60 rfl h57 h57' ?_
            refine wpq_nil ?_
            exact ⟨rfl, ⟨_, hG72, (Regs.step hReg74 hDi rfl rfl rfl rfl), hI73⟩⟩
          · intro D r wd75 hR hDi hpre hpost
            obtain ⟨G71, hG72, hReg74, hI73⟩ := hR
            have hH : Has [(19, Value.pointer (some (ad58.add (Int.toNat v28 * 2))))] r := ⟨hReg74.get 2 rfl (hpre 2 rfl), trivial⟩
            obtain ⟨r0, rfl⟩ := hH.ex
            refine q_lfA hI73 ag37 rfl (cs := [Value.int .i64 ((a1.getD (Int.toNat v28) z_api_Break).At), Value.bool ((a1.getD (Int.toNat v28) z_api_Break).Hyphen)]) rfl (fun j v hv => hG72.cel _ _ (hc63 j v hv)) ?_
            refine wpq_nil ?_
            exact ⟨rfl, ⟨_, hG72, (Regs.step hReg74 hDi rfl rfl rfl rfl), hI73⟩⟩
          · intro D r wd75 hR hDi hpre hpost
            obtain ⟨G71, hG72, hReg74, hI73⟩ := hR
            have hH : Has [(1, Value.slice A7 a6.length c8)] r := ⟨hReg74.ins.get 1 rfl, trivial⟩
            obtain ⟨r0, rfl⟩ := hH.ex
            refine q_mv (v := Value.slice A7 a6.length c8) rfl ?_
            refine wpq_nil ?_
            exact ⟨rfl, ⟨_, hG72, (Regs.step hReg74 hDi rfl rfl rfl rfl), hI73⟩⟩
          · intro D r wd75 hR hDi hpre hpost
            obtain ⟨G71, hG72, hReg74, hI73⟩ := hR
            have hH : Has [(5, Value.int .i64 v28)] r := ⟨hReg74.ins.get 2 rfl, trivial⟩
            obtain ⟨r0, rfl⟩ := hH.ex
            refine q_mv (v := Value.int .i64 v28) rfl ?_
            refine wpq_nil ?_
            exact ⟨rfl, ⟨_, hG72, (Regs.step hReg74 hDi rfl rfl rfl rfl), hI73⟩⟩
          · intro D r wd75 hR hDi hpre hpost
            obtain ⟨G71, hG72, hReg74, hI73⟩ := hR
            have hH : Has [(21, Value.slice A7 a6.length c8), (22, Value.int .i64 v28)] r := ⟨hReg74.get 4 rfl (hpre 4 rfl), hReg74.get 5 rfl (hpre 5 rfl), trivial⟩
            obtain ⟨r0, rfl⟩ := hH.ex
            refine q_ia el26 rfl hA67 rfl h64 h64' ?_
            refine wpq_nil ?_
            exact ⟨rfl, ⟨_, hG72, (Regs.step hReg74 hDi rfl rfl rfl rfl), hI73⟩⟩
          · intro D r wd75 hR hDi hpre hpost
            obtain ⟨G71, hG72, hReg74, hI73⟩ := hR
            have hH : Has [(23, Value.pointer (some (ad65.add (Int.toNat v28 * 2))))] r := ⟨hReg74.get 6 rfl (hpre 6 rfl), trivial⟩
            obtain ⟨r0, rfl⟩ := hH.ex
            refine q_lfA hI73 ag37 rfl (cs := [Value.int .i64 ((a6.getD (Int.toNat v28) z_api_Break).At), Value.bool ((a6.getD (Int.toNat v28) z_api_Break).Hyphen)]) rfl (fun j v hv => hG72.cel _ _ (hc70 j v hv)) ?_
            refine wpq_nil ?_
            exact ⟨rfl, ⟨_, hG72, (Regs.step hReg74 hDi rfl rfl rfl rfl), hI73⟩⟩
          · intro D r wd75 hR hDi hpre hpost
            obtain ⟨G71, hG72, hReg74, hI73⟩ := hR
            have hH : Has [(20, Value.agg [Value.int .i64 ((a1.getD (Int.toNat v28) z_api_Break).At), Value.bool ((a1.getD (Int.toNat v28) z_api_Break).Hyphen)].toArray), (24, Value.agg [Value.int .i64 ((a6.getD (Int.toNat v28) z_api_Break).At), Value.bool ((a6.getD (Int.toNat v28) z_api_Break).Hyphen)].toArray)] r := ⟨hReg74.get 3 rfl (hpre 3 rfl), hReg74.get 7 rfl (hpre 7 rfl), trivial⟩
            obtain ⟨r0, rfl⟩ := hH.ex
            refine q_st_neq (q := (a1.getD (Int.toNat v28) z_api_Break) = (a6.getD (Int.toNat v28) z_api_Break)) rfl rfl eqg_api_Break (eqs_api_Break (a1.getD (Int.toNat v28) z_api_Break) (a6.getD (Int.toNat v28) z_api_Break)) (eqd_api_Break _ _) ?_
            refine wpq_nil ?_
            exact ⟨rfl, ⟨_, hG72, (Regs.step hReg74 hDi rfl rfl rfl rfl), hI73⟩⟩
        · intro D r wd75 hall hR
          obtain ⟨G71, hG72, hReg74, hI73⟩ := hR
          have hH : Has [(0, Value.slice A2 a1.length c3), (1, Value.slice A7 a6.length c8), (5, Value.int .i64 v28), (25, Value.bool (decide (¬ (a1.getD (Int.toNat v28) z_api_Break) = (a6.getD (Int.toNat v28) z_api_Break))))] r := ⟨hReg74.ins.get 0 rfl, hReg74.ins.get 1 rfl, hReg74.ins.get 2 rfl, hReg74.get 8 rfl (hall 8 (Nat.le_of_ble_eq_true rfl)), trivial⟩
          obtain ⟨r0, rfl⟩ := hH.ex
          refine hK56 _ _ _ ?_
          by_cases h76 : ¬ (a1.getD (Int.toNat v28) z_api_Break) = (a6.getD (Int.toNat v28) z_api_Break)
          · replace H := ite_yes h76 H
            refine wpc_true (bool_yes h76) ?_
            refine wpc_seq_k fun K77 hK78 => ?_
            refine wpc_region ?_
            refine q_as (v := Value.bool false) rfl ?_
            refine wpq_nil ?_
            refine hK78 _ _ _ ?_
            refine wpc_ret ?_
            cases H
            exact ⟨rfl, _, rfl, (Gh.le_trans hG45 hG72), ⟨rfl, trivial⟩, hI73, trivial⟩
          · replace H := ite_no h76 H
            refine wpc_false (bool_no h76) ?_
            refine wpc_skip ?_
            refine hK54 _ _ _ ?_
            refine wpc_region ?_
            refine q_mv (v := Value.int .i64 v28) rfl ?_
            refine q_add rfl rfl ?_
            refine q_as (v := Value.int .i64 (w64 (v28 + 1))) rfl ?_
            refine wpq_nil ?_
            exact ih _ _ H _ _ _ (Gh.le_trans hG45 hG72) ⟨rfl, rfl, rfl, trivial⟩ hI73 rfl
      · replace H := ite_no h52 H
        refine wpc_false (bool_no h52) ?_
        refine wpc_exit ?_
        cases H
        exact ⟨rfl, _, rfl, hG45, trivial, hI47, trivial⟩
    · clear hC
      rcases o43 with _ | _
      · rintro e r ds wd37 ⟨rfl, G35, rfl, hG36, hHas, hI38, _⟩
        rw [hHas.eq]; clear hHas
        cases H
        exact ⟨.inr rfl, rfl, _, ⟨_, _, rfl, rfl, rfl⟩, _, hG36, hI38, rfl⟩
      · rintro e r ds wd41 ⟨rfl, G39, rfl, hG40, hHas, hI42, _⟩
        rw [hHas.eq]; clear hHas
        refine hK21 _ _ _ ?_
        refine wpc_seq_k fun K79 hK80 => ?_
        refine wpc_region ?_
        refine q_as (v := Value.bool true) rfl ?_
        refine wpq_nil ?_
        refine hK80 _ _ _ ?_
        refine wpc_ret ?_
        cases H
        exact ⟨.inr rfl, rfl, _, ⟨_, _, rfl, rfl, rfl⟩, _, hG40, hI42, rfl⟩
set_option maxHeartbeats 1000000 in
theorem strings_Trim_spec {a0 : ByteArray} {a1 : ByteArray} {r0 : ByteArray} {G : Gh} {L : List Itm} {w : World} (hI : Hp G L w) (H : strings_Trim a0 a1 = some r0) :
    Calls Tryd.prog 27 [Value.string a0, Value.string a1].toArray w fun e w' => ∃ (G' : Gh), G ≤ G' ∧ Hp G' L w' ∧ e = .returned (Value.string r0) := by
  unfold strings_Trim at H
  obtain ⟨hs, H⟩ := ite_some H
  split at H
  · rename_i b hb
    obtain ⟨hc, H⟩ := ite_some H
    cases H
    rw [one_byte hb]
    exact of_drew hI (Any.strings_Trim_one Tryd.l160 a0 b hc w hs)
  · cases H
set_option maxHeartbeats 1000000 in
theorem strings_ReplaceAll_spec {a0 : ByteArray} {a1 : ByteArray} {a2 : ByteArray} {r0 : ByteArray} {G : Gh} {L : List Itm} {w : World} (hI : Hp G L w) (hgl : Gl G) (H : strings_ReplaceAll a0 a1 a2 = some r0) :
    Calls Tryd.prog 28 [Value.string a0, Value.string a1, Value.string a2].toArray w fun e w' => ∃ (G' : Gh), G ≤ G' ∧ Hp G' L w' ∧ e = .returned (Value.string r0) := by
  unfold strings_ReplaceAll at H
  obtain ⟨⟨hs, h1, h2⟩, H⟩ := ite_some H
  cases H
  obtain ⟨m, hm⟩ := (hgl.get hI).maxlen
  exact of_below hI (Any.strings_ReplaceAll { Tryd.lM155 with } Tryd_extra a0 a1 a2 m w hs hm h1 (by rw [h2]; omega))
set_option maxHeartbeats 1000000 in
theorem breaks_Least_1_k1_spec {a1 : Int} {a2 : ByteArray} {a5 : ByteArray} {a8 : Int} {a11 : List ByteArray} {g4 : Nat} {g7 : Nat} {g10 : Nat} {A12 : Option Addr} {c13 : Nat} {q1068 : Int} {q1069 : List ByteArray} {G : Gh} {L : List Itm} {w : World} (hI : Hp G (bx g4 [Value.string a5] 9 :: bx g7 [Value.int .i64 a8] 3 :: bx g10 [Value.slice A12 a11.length c13] 22 :: tk (Value.slice A12 a11.length c13) 1 9 :: L) w) (hl14 : a11.length ≤ c13) (hD15 : Dat Kd.str G A12 a11) (ho16 : Own A12 c13) (hgl : Gl G) (H : breaks_Least_1_k1 a1 a2 a5 a8 a11 = some (q1068, q1069)) :
    Calls Tryd.prog 26 [Value.int .i64 a1, Value.string a2, Value.pointer (some ⟨g4, 0, none⟩), Value.pointer (some ⟨g7, 0, none⟩), Value.pointer (some ⟨g10, 0, none⟩)].toArray w fun e w' => ∃ (A1070 : Option Addr) (c1071 : Nat) (G' : Gh), G ≤ G' ∧ Hp G' (bx g4 [Value.string a5] 9 :: bx g7 [Value.int .i64 q1068] 3 :: bx g10 [Value.slice A1070 q1069.length c1071] 22 :: tk (Value.slice A1070 q1069.length c1071) 1 9 :: L) w' ∧ q1069.length ≤ c1071 ∧ Dat Kd.str G' A1070 q1069 ∧ Own A1070 c1071 ∧ e = .returned (Value.tuple [].toArray) := by
  refine calls_intro (N := 24) Tryd.func26 rfl rfl (Nat.le_of_ble_eq_true rfl) ?_
  unfold breaks_Least_1_k1 at H
  refine wpc_seq_k fun K18 hK19 => ?_
  refine wpc_region ?_
  refine q_ld hI 0 (v := Value.string a5) ag9 rfl rfl rfl ?_
  refine q_ld hI 1 (v := Value.int .i64 a8) ag3 rfl rfl rfl ?_
  refine q_mv (v := Value.int .i64 a1) rfl ?_
  obtain ⟨⟨h20, h21, h22⟩, H⟩ := ite_some H
  refine q_ss (l := a8) (h := a1) so9 rfl (.inr ⟨_, rfl, rfl⟩) (.inr ⟨_, rfl, rfl⟩) h20 h21 h22 ?_
  obtain ⟨y28, hy23, H⟩ := bind_some H
  refine q_cv (vs := [Value.string (sub a5 a8 a1), Value.string (⟨#[126]⟩ : ByteArray), Value.string (⟨#[]⟩ : ByteArray)]) bo28 rfl rfl (strings_ReplaceAll_spec hI (hgl.mono (Gh.le_refl _)) hy23) ?_
  rintro _ wd26 ⟨G24, hG25, hI27, rfl⟩
  refine ⟨_, rfl, ?_⟩
  obtain ⟨y34, hy29, H⟩ := bind_some H
  refine q_cv (vs := [Value.string y28, Value.string (⟨#[32]⟩ : ByteArray)]) bo27 rfl rfl (strings_Trim_spec hI27 hy29) ?_
  rintro _ wd32 ⟨G30, hG31, hI33, rfl⟩
  refine ⟨_, rfl, ?_⟩
  refine q_as (v := Value.string y34) rfl ?_
  refine wpq_nil ?_
  refine hK19 _ _ _ ?_
  refine wpc_seq_k fun K35 hK36 => ?_
  refine wpc_seq_k fun K37 hK38 => ?_
  refine wpc_region ?_
  refine q_mv (v := Value.string y34) rfl ?_
  refine q_mv (v := Value.string a2) rfl ?_
  obtain ⟨h39, H⟩ := ite_some H
  refine q_str_add rfl rfl h39 ?_
  refine q_as (v := Value.string (y34 ++ a2)) rfl ?_
  refine wpq_nil ?_
  refine hK38 _ _ _ ?_
  refine wpc_seq_k fun K40 hK41 => ?_
  refine wpc_region ?_
  refine q_mv (v := Value.string (y34 ++ a2)) rfl ?_
  refine q_str_neq rfl rfl ?_
  refine wpq_nil ?_
  refine hK41 _ _ _ ?_
  by_cases h42 : ¬ (y34 ++ a2) = (⟨#[]⟩ : ByteArray)
  · replace H := ite_yes h42 H
    refine wpc_true (bool_yes h42) ?_
    refine wpc_region ?_
    refine q_ld hI33 2 (v := Value.slice A12 a11.length c13) ag22 rfl rfl rfl ?_
    refine q_mv (v := Value.string (y34 ++ a2)) rfl ?_
    refine q_bs hI33 (vs := [(0, Value.string (y34 ++ a2))]) (cs := [Value.string (y34 ++ a2)]) el22 ze9 rfl (by decide) rfl rfl (fun g44 wd45 hI46 => ?_)
    obtain ⟨h56, H⟩ := ite_some H
    refine q_app (xs := a11) (ys := [y34 ++ a2]) Kd.str hI46 4 el22 ze9 rfl rfl rfl rfl ho16 hl14 (Dat.mono (Gh.le_trans hG25 hG31) hD15) (src_bx hI46 0 so22 rfl rfl) ⟨[Value.string (y34 ++ a2)], _, rfl, rfl, rfl⟩ rfl (by simp only [List.length_cons, List.length_nil]; omega) (by simp only [List.length_cons, List.length_nil]; omega) (fun A47 c48 G49 wd50 hG51 ho52 hl53 hD54 hI55 => ?_)
    refine q_stA hI55 3 (v := Value.slice A47 (a11 ++ [y34 ++ a2]).length c48) (cs := [Value.slice A47 (a11 ++ [y34 ++ a2]).length c48]) (vs' := [Value.slice A47 (a11 ++ [y34 ++ a2]).length c48]) ag22 rfl rfl rfl rfl rfl rfl (Nat.le_of_ble_eq_true rfl) rfl (fun wd57 hI58 => ?_)
    refine wpq_nil ?_
    refine hK36 _ _ _ ?_
    refine wpc_region ?_
    refine q_mv (v := Value.int .i64 a1) rfl ?_
    refine q_stA hI58 2 (v := Value.int .i64 a1) (cs := [Value.int .i64 a1]) (vs' := [Value.int .i64 a1]) ag3 rfl rfl rfl rfl rfl rfl (Nat.le_of_ble_eq_true rfl) rfl (fun wd59 hI60 => ?_)
    refine wpq_nil ?_
    have hI61 := Hp.front hI60 4 rfl
    have hI62 := Hp.front hI61 4 rfl
    have hI63 := Hp.front hI62 4 rfl
    have hI64 := Hp.front hI63 4 rfl
    have hI65 := Hp.sub (L := bx g4 [Value.string a5] 9 :: bx g7 [Value.int .i64 a1] 3 :: bx g10 [Value.slice A47 (a11 ++ [y34 ++ a2]).length c48] 22 :: tk (Value.slice A47 (a11 ++ [y34 ++ a2]).length c48) 1 9 :: bx g44 [Value.string (y34 ++ a2)] 9 :: L) (L' := bx g4 [Value.string a5] 9 :: bx g7 [Value.int .i64 a1] 3 :: bx g10 [Value.slice A47 (a11 ++ [y34 ++ a2]).length c48] 22 :: tk (Value.slice A47 (a11 ++ [y34 ++ a2]).length c48) 1 9 :: L) hI64 (List.Sublist.cons_cons _ (List.Sublist.cons_cons _ (List.Sublist.cons_cons _ (List.Sublist.cons_cons _ (List.Sublist.cons _ (List.Sublist.refl _))))))
    cases H
    exact ⟨.inl rfl, rfl, _, rfl, A47, c48, _, (Gh.le_trans (Gh.le_trans hG25 hG31) hG51), hI65, hl53, hD54, ho52, rfl⟩
  · replace H := ite_no h42 H
    refine wpc_false (bool_no h42) ?_
    refine wpc_skip ?_
    refine hK36 _ _ _ ?_
    refine wpc_region ?_
    refine q_mv (v := Value.int .i64 a1) rfl ?_
    refine q_stA hI33 1 (v := Value.int .i64 a1) (cs := [Value.int .i64 a1]) (vs' := [Value.int .i64 a1]) ag3 rfl rfl rfl rfl rfl rfl (Nat.le_of_ble_eq_true rfl) rfl (fun wd66 hI67 => ?_)
    refine wpq_nil ?_
    cases H
    exact ⟨.inl rfl, rfl, _, rfl, A12, c13, _, (Gh.le_trans hG25 hG31), hI67, hl14, (Dat.mono (Gh.le_trans hG25 hG31) hD15), ho16, rfl⟩
set_option maxHeartbeats 1000000 in
theorem breaks_Least_spec {a1 : api_Breaks} {a6 : ByteArray} {A2 : Option Addr} {c3 : Nat} {r1271 : List ByteArray} {r1278 : Int} {G : Gh} {L : List Itm} {w : World} (hI : Hp G (L) w) (hl4 : a1.Keep.length ≤ c3) (hD5 : Dat Kd.str G A2 a1.Keep) (hgl : Gl G) (H : breaks_Least a1 a6 = some (r1271, r1278)) :
    Calls Tryd.prog 15 [Value.agg [Value.int .i64 a1.Before, Value.int .i64 a1.Behind, Value.slice A2 a1.Keep.length c3].toArray, Value.string a6].toArray w fun e w' => ∃ (A1272 : Option Addr) (c1273 : Nat) (G' : Gh), G ≤ G' ∧ Hp G' (tk (Value.slice A1272 r1271.length c1273) 1 9 :: L) w' ∧ r1271.length ≤ c1273 ∧ Dat Kd.str G' A1272 r1271 ∧ Own A1272 c1273 ∧ e = .returned (Value.tuple [Value.slice A1272 r1271.length c1273, Value.int .i64 r1278].toArray) := by
  refine calls_intro_m (N := 39) Tryd.func15 rfl rfl (Nat.le_of_ble_eq_true rfl) ?_
  unfold breaks_Least at H
  refine wpc_seq_k fun K7 hK8 => ?_
  refine wpc_region ?_
  refine q_box hI (v := Value.agg [Value.int .i64 a1.Before, Value.int .i64 a1.Behind, Value.slice A2 a1.Keep.length c3].toArray) (vs := [Value.int .i64 a1.Before, Value.int .i64 a1.Behind, Value.slice A2 a1.Keep.length c3]) rfl rfl (fun g10 wd11 hI12 => ?_)
  refine q_box hI12 (v := Value.string a6) (vs := [Value.string a6]) rfl rfl (fun g14 wd15 hI16 => ?_)
  refine q_as (v := Value.slice none 0 0) rfl ?_
  refine q_as (v := Value.int .i64 0) rfl ?_
  refine wpq_nil ?_
  refine hK8 _ _ _ ?_
  refine wpc_seq_k fun K17 hK18 => ?_
  refine wpc_region ?_
  refine q_ldA hI16 1 (cs := [Value.int .i64 a1.Before, Value.int .i64 a1.Behind, Value.slice A2 a1.Keep.length c3]) ag24 rfl rfl rfl rfl ?_
  refine q_ld hI16 0 (v := Value.string a6) ag9 rfl rfl rfl ?_
  obtain ⟨⟨y24, y25, y26, y31, y34, y35⟩, hy19, H⟩ := bind_some H
  refine q_cv (vs := [Value.agg [Value.int .i64 a1.Before, Value.int .i64 a1.Behind, Value.slice A2 a1.Keep.length c3].toArray, Value.string a6]) bo20 rfl rfl (breaks_prepare_spec (a1 := a1) (a6 := a6) hI16 hl4 hD5 hy19) ?_
  rintro _ wd22 ⟨A27, c28, g33, G20, hG21, hI23, hl29, hD30, rfl⟩
  refine ⟨_, rfl, ?_⟩
  refine q_mv (v := Value.tuple [Value.agg [Value.int .i64 y24, Value.int .i64 y25, Value.slice A27 y26.length c28, Value.string y31, Value.map (some g33)].toArray, Value.bool y35].toArray) rfl ?_
  refine q_ex (v := Value.agg [Value.int .i64 y24, Value.int .i64 y25, Value.slice A27 y26.length c28, Value.string y31, Value.map (some g33)].toArray) rfl rfl ?_
  refine q_ex (v := Value.bool y35) rfl rfl ?_
  refine q_alloc hI23 ze45 (fun g37 wd38 hI39 => ?_)
  refine q_stA hI39 0 (v := Value.agg [Value.int .i64 y24, Value.int .i64 y25, Value.slice A27 y26.length c28, Value.string y31, Value.map (some g33)].toArray) (cs := [Value.int .i64 y24, Value.int .i64 y25, Value.slice A27 y26.length c28, Value.string y31, Value.map (some g33)]) (vs' := [Value.int .i64 y24, Value.int .i64 y25, Value.slice A27 y26.length c28, Value.string y31, Value.map (some g33)]) ag45 rfl rfl rfl rfl rfl rfl (Nat.le_of_ble_eq_true rfl) rfl (fun wd40 hI41 => ?_)
  refine q_as (v := Value.bool y35) rfl ?_
  refine wpq_nil ?_
  refine hK18 _ _ _ ?_
  refine wpc_seq_k fun K42 hK43 => ?_
  refine wpc_seq_k fun K44 hK45 => ?_
  refine wpc_region ?_
  refine q_mv (v := Value.bool y35) rfl ?_
  refine q_not rfl ?_
  refine wpq_nil ?_
  refine hK45 _ _ _ ?_
  by_cases h46 : (!y35) = true
  · replace H := ite_yes h46 H
    refine wpc_true (bval_yes h46) ?_
    refine wpc_seq_k fun K47 hK48 => ?_
    refine wpc_region ?_
    refine q_as (v := Value.slice none 0 0) rfl ?_
    refine q_as (v := Value.int .i64 1) rfl ?_
    refine wpq_nil ?_
    refine hK48 _ _ _ ?_
    refine wpc_ret ?_
    refine ⟨.inr rfl, ([] : List Nat), _, _, rfl, Hp.marks (K := [bx g37 [Value.int .i64 y24, Value.int .i64 y25, Value.slice A27 y26.length c28, Value.string y31, Value.map (some g33)] 45, mpI g33 Value.string Value.bool y34, bx g14 [Value.string a6] 9, bx g10 [Value.int .i64 a1.Before, Value.int .i64 a1.Behind, Value.slice A2 a1.Keep.length c3] 24]) hI41, fun wd50 hI49 => ?_⟩
    have hI51 := Hp.emp hI49
    have hI53 := Hp.sub (L := tk (Value.slice none 0 0) 1 9 :: bx g37 [Value.int .i64 y24, Value.int .i64 y25, Value.slice A27 y26.length c28, Value.string y31, Value.map (some g33)] 45 :: mpI g33 Value.string Value.bool y34 :: bx g14 [Value.string a6] 9 :: bx g10 [Value.int .i64 a1.Before, Value.int .i64 a1.Behind, Value.slice A2 a1.Keep.length c3] 24 :: L) (L' := tk (Value.slice none 0 0) 1 9 :: L) hI51 (List.Sublist.cons_cons _ (List.Sublist.cons _ (List.Sublist.cons _ (List.Sublist.cons _ (List.Sublist.cons _ (List.Sublist.refl _))))))
    cases H
    exact ⟨_, ⟨_, _, rfl, rfl, ⟨_, _, rfl, rfl, rfl⟩⟩, none, 0, _, hG21, hI53, (show ([] : List ByteArray).length ≤ 0 from Nat.le_refl 0), (Dat.nil _ _ _), Own.nil, rfl⟩
  · replace H := ite_no h46 H
    refine wpc_false (bval_no h46) ?_
    refine wpc_skip ?_
    refine hK43 _ _ _ ?_
    refine wpc_seq_k fun K54 hK55 => ?_
    refine wpc_region ?_
    refine q_alloc hI41 ze22 (fun g57 wd58 hI59 => ?_)
    refine wpq_nil ?_
    refine hK55 _ _ _ ?_
    refine wpc_seq_k fun K60 hK61 => ?_
    refine wpc_region ?_
    refine q_alloc hI59 ze3 (fun g63 wd64 hI65 => ?_)
    refine q_stA hI65 0 (v := Value.int .i64 0) (cs := [Value.int .i64 0]) (vs' := [Value.int .i64 0]) ag3 rfl rfl rfl rfl rfl rfl (Nat.le_of_ble_eq_true rfl) rfl (fun wd66 hI67 => ?_)
    refine wpq_nil ?_
    refine hK61 _ _ _ ?_
    refine wpc_seq_k fun K68 hK69 => ?_
    refine wpc_region ?_
    refine q_fn (vs := []) (us := [Value.pointer (some ⟨g14, 0, none⟩), Value.pointer (some ⟨g63, 0, none⟩), Value.pointer (some ⟨g57, 0, none⟩)]) rfl rfl ?_
    refine q_alloc hI67 ze58 (fun g71 wd72 hI73 => ?_)
    refine q_stA hI73 0 (v := Value.func (.func 26) [].toArray [Value.pointer (some ⟨g14, 0, none⟩), Value.pointer (some ⟨g63, 0, none⟩), Value.pointer (some ⟨g57, 0, none⟩)].toArray) (cs := [Value.func (.func 26) [].toArray [Value.pointer (some ⟨g14, 0, none⟩), Value.pointer (some ⟨g63, 0, none⟩), Value.pointer (some ⟨g57, 0, none⟩)].toArray]) (vs' := [Value.func (.func 26) [].toArray [Value.pointer (some ⟨g14, 0, none⟩), Value.pointer (some ⟨g63, 0, none⟩), Value.pointer (some ⟨g57, 0, none⟩)].toArray]) ag58 rfl rfl rfl rfl rfl rfl (Nat.le_of_ble_eq_true rfl) rfl (fun wd74 hI75 => ?_)
    refine wpq_nil ?_
    refine hK69 _ _ _ ?_
    refine wpc_seq_k fun K76 hK77 => ?_
    refine wpc_seq_k fun K78 hK79 => ?_
    refine wpc_region ?_
    refine q_ldA hI75 3 (cs := [Value.int .i64 y24, Value.int .i64 y25, Value.slice A27 y26.length c28, Value.string y31, Value.map (some g33)]) ag45 rfl rfl rfl rfl ?_
    have hI80 := Hp.front hI75 6 rfl
    have hI81 := Hp.front hI80 6 rfl
    have hI82 := Hp.front hI81 5 rfl
    have hI83 := Hp.front hI82 5 rfl
    have hI84 := Hp.front hI83 5 rfl
    have hI85 := Hp.front hI84 5 rfl
    have hI86 := Hp.front hI85 6 rfl
    obtain ⟨⟨y94, y95, y96, y101⟩, hy87, H⟩ := bind_some H
    refine q_cv (vs := [Value.agg [Value.int .i64 y24, Value.int .i64 y25, Value.slice A27 y26.length c28, Value.string y31, Value.map (some g33)].toArray]) bo21 rfl rfl (breaks_ruled_places_k1_spec (a1 := y24) (a2 := y25) (a3 := y26) (a8 := y31) (a11 := y34) hI86 hl29 hD30 hy87) ?_
    rintro _ wd90 ⟨g93, A97, c98, G88, hG89, hI91, hl99, hD100, rfl⟩
    refine ⟨_, rfl, ?_⟩
    refine wpq_nil ?_
    refine hK79 _ _ _ ?_
    refine wpc_block ?_
    have hI102 := Hp.emp hI91
    have hI127 := Hp.front hI102 8 rfl
    have hI128 := Hp.front hI127 8 rfl
    have hI129 := Hp.front hI128 7 rfl
    have hI130 := Hp.front hI129 7 rfl
    have hI131 := Hp.front hI130 7 rfl
    have hI132 := Hp.front hI131 7 rfl
    have hI133 := Hp.front hI132 7 rfl
    have hI134 := Hp.sub (L := bx g93 [Value.int .i64 y94, Value.int .i64 y95, Value.slice A97 y96.length c98, Value.string y101, Value.map (some g33)] 45 :: mpI g33 Value.string Value.bool y34 :: bx g71 [Value.func (.func 26) [].toArray [Value.pointer (some ⟨g14, 0, none⟩), Value.pointer (some ⟨g63, 0, none⟩), Value.pointer (some ⟨g57, 0, none⟩)].toArray] 58 :: bx g63 [Value.int .i64 0] 3 :: bx g57 [Value.slice none 0 0] 22 :: bx g14 [Value.string a6] 9 :: bx g10 [Value.int .i64 a1.Before, Value.int .i64 a1.Behind, Value.slice A2 a1.Keep.length c3] 24 :: tk (Value.slice none 0 0) 1 9 :: bx g37 [Value.int .i64 y24, Value.int .i64 y25, Value.slice A27 y26.length c28, Value.string y31, Value.map (some g33)] 45 :: (List.map mkI ([] : List Nat) ++ L)) (L' := bx g93 [Value.int .i64 y94, Value.int .i64 y95, Value.slice A97 y96.length c98, Value.string y101, Value.map (some g33)] 45 :: mpI g33 Value.string Value.bool y34 :: bx g71 [Value.func (.func 26) [].toArray [Value.pointer (some ⟨g14, 0, none⟩), Value.pointer (some ⟨g63, 0, none⟩), Value.pointer (some ⟨g57, 0, none⟩)].toArray] 58 :: bx g63 [Value.int .i64 0] 3 :: bx g57 [Value.slice none 0 0] 22 :: bx g14 [Value.string a6] 9 :: bx g10 [Value.int .i64 a1.Before, Value.int .i64 a1.Behind, Value.slice A2 a1.Keep.length c3] 24 :: tk (Value.slice none 0 0) 1 9 :: (List.map mkI ([] : List Nat) ++ L)) hI133 (List.Sublist.cons_cons _ (List.Sublist.cons_cons _ (List.Sublist.cons_cons _ (List.Sublist.cons_cons _ (List.Sublist.cons_cons _ (List.Sublist.cons_cons _ (List.Sublist.cons_cons _ (List.Sublist.cons_cons _ (List.Sublist.cons _ (List.Sublist.refl _))))))))))
    obtain ⟨⟨⟨v105, v106⟩, jo137⟩, hr226, H⟩ := bind_some H
    refine wpc_range hI134 bo32 rfl (fun fn tmps gl gd104 wd269 hA223 hI224 => ?_)
    have hY225 : Yl Tryd.prog (rnd (fun u x => breaks_Least_r135 a6 u.1 u.2 x)) (encS k_api_Break) _ gl := yl_intro (pp := [23]) (gdd := gd104) hI224 (fun u x => breaks_Least_r135 a6 u.1 u.2 x) [] (fun (u : Int × (List ByteArray)) (G' : Gh) (K : List Itm) => ∃ (A107 : Option Addr) (c108 : Nat) (_ : G88 ≤ G'), K = bx g71 [Value.func (.func 26) [].toArray [Value.pointer (some ⟨g14, 0, none⟩), Value.pointer (some ⟨g63, 0, none⟩), Value.pointer (some ⟨g57, 0, none⟩)].toArray] 58 :: bx g63 [Value.int .i64 u.1] 3 :: bx g57 [Value.slice A107 u.2.length c108] 22 :: bx g14 [Value.string a6] 9 :: bx g10 [Value.int .i64 a1.Before, Value.int .i64 a1.Behind, Value.slice A2 a1.Keep.length c3] 24 :: tk (Value.slice A107 u.2.length c108) 1 9 :: (List.map mkI (gd104 :: ([] : List Nat)) ++ L) ∧ u.2.length ≤ c108 ∧ Dat Kd.str G' A107 u.2 ∧ Own A107 c108 ∧ True) hA223 (fun _ _ _ h => (fun h => encS_len h) h) (fun hG' ⟨A107, c108, h0', hK', hl109, hD110, ho111, _⟩ => ⟨A107, c108, Gh.le_trans h0' hG', hK', hl109, (Dat.mono hG' hD110), ho111, trivial⟩) (by
        rintro Rd Bs ⟨v105, v106⟩ u' x143 jo' G139 K M wd141 vs ⟨A107, c108, hG140, rfl, hl109, hD110, ho111, _⟩ ⟨_, rfl, hK144⟩ H hI145
        obtain ⟨rfl⟩ := open_api_Break hK144
        replace H : breaks_Least_r135 a6 v105 v106 x143 = some (u', jo') := H
        unfold breaks_Least_r135 at H
        refine wpc_region ?_
        refine q_alloc hI145 ze37 (fun g147 wd148 hI149 => ?_)
        refine q_stA hI149 0 (v := Value.agg [Value.int .i64 x143.At, Value.bool x143.Hyphen].toArray) (cs := [Value.int .i64 x143.At, Value.bool x143.Hyphen]) (vs' := [Value.int .i64 x143.At, Value.bool x143.Hyphen]) ag37 rfl rfl rfl rfl rfl rfl (Nat.le_of_ble_eq_true rfl) rfl (fun wd150 hI151 => ?_)
        refine wpq_nil ?_
        have hI154 := Hp.front hI151 7 rfl
        have hI155 := Hp.front hI154 7 rfl
        have hI156 := Hp.front hI155 7 rfl
        have hI157 := Hp.front hI156 7 rfl
        have hI158 := Hp.front hI157 7 rfl
        have hI159 := Hp.front hI158 7 rfl
        have hI160 := Hp.front hI159 6 rfl
        have hI161 := Hp.front hI160 7 rfl
        refine ⟨rfl, rfl, _, _, (Gh.le_refl _), hI161, fun wd153 hI152 => ?_⟩
        refine wpc_block ?_
        refine wpc_seq_k fun K162 hK163 => ?_
        refine wpc_region ?_
        refine q_fa (a' := ⟨g147, 1, none⟩) fl37_1 rfl (add_plain _ _ _) ?_
        refine q_ld hI152 1 (v := Value.bool x143.Hyphen) ag4 rfl rfl rfl ?_
        refine wpq_nil ?_
        refine hK163 _ _ _ ?_
        by_cases h164 : x143.Hyphen = true
        · replace H := ite_yes h164 H
          refine wpc_true (bval_yes h164) ?_
          refine wpc_region ?_
          refine q_ld hI152 2 (v := Value.func (.func 26) [].toArray [Value.pointer (some ⟨g14, 0, none⟩), Value.pointer (some ⟨g63, 0, none⟩), Value.pointer (some ⟨g57, 0, none⟩)].toArray) ag58 rfl rfl rfl ?_
          refine q_fa (a' := ⟨g147, 0, none⟩) fl37_0 rfl (add_plain _ _ _) ?_
          refine q_ld hI152 1 (v := Value.int .i64 x143.At) ag3 rfl rfl rfl ?_
          have hI165 := Hp.front hI152 6 rfl
          have hI166 := Hp.front hI165 3 rfl
          have hI167 := Hp.front hI166 3 rfl
          have hI168 := Hp.front hI167 3 rfl
          have hI169 := Hp.front hI168 7 rfl
          have hI170 := Hp.front hI169 6 rfl
          have hI171 := Hp.front hI170 6 rfl
          have hI172 := Hp.front hI171 7 rfl
          obtain ⟨⟨y178, y179⟩, hy173, H⟩ := bind_some H
          refine q_cv (vs := [Value.int .i64 x143.At, Value.string (⟨#[45]⟩ : ByteArray), Value.pointer (some ⟨g14, 0, none⟩), Value.pointer (some ⟨g63, 0, none⟩), Value.pointer (some ⟨g57, 0, none⟩)]) bo26 rfl rfl (breaks_Least_1_k1_spec (a1 := x143.At) (a2 := (⟨#[45]⟩ : ByteArray)) (a5 := a6) (a8 := v105) (a11 := v106) hI172 hl109 hD110 ho111 (hgl.mono (Gh.le_trans (Gh.le_trans hG21 hG89) hG140)) hy173) ?_
          rintro _ wd176 ⟨A180, c181, G174, hG175, hI177, hl182, hD183, ho184, rfl⟩
          refine ⟨_, rfl, ?_⟩
          refine wpq_nil ?_
          have hI186 := Hp.front hI177 3 rfl
          have hI187 := Hp.front hI186 7 rfl
          have hI188 := Hp.front hI187 2 rfl
          have hI189 := Hp.front hI188 4 rfl
          have hI190 := Hp.front hI189 4 rfl
          have hI191 := Hp.front hI190 7 rfl
          have hI192 := Hp.front hI191 6 rfl
          have hI193 := Hp.sub (L := Bs :: bx g71 [Value.func (.func 26) [].toArray [Value.pointer (some ⟨g14, 0, none⟩), Value.pointer (some ⟨g63, 0, none⟩), Value.pointer (some ⟨g57, 0, none⟩)].toArray] 58 :: bx g63 [Value.int .i64 y178] 3 :: bx g57 [Value.slice A180 y179.length c181] 22 :: bx g14 [Value.string a6] 9 :: bx g10 [Value.int .i64 a1.Before, Value.int .i64 a1.Behind, Value.slice A2 a1.Keep.length c3] 24 :: tk (Value.slice A180 y179.length c181) 1 9 :: bx g147 [Value.int .i64 x143.At, Value.bool x143.Hyphen] 37 :: ((List.map mkI (gd104 :: ([] : List Nat)) ++ L) ++ M)) (L' := Bs :: bx g71 [Value.func (.func 26) [].toArray [Value.pointer (some ⟨g14, 0, none⟩), Value.pointer (some ⟨g63, 0, none⟩), Value.pointer (some ⟨g57, 0, none⟩)].toArray] 58 :: bx g63 [Value.int .i64 y178] 3 :: bx g57 [Value.slice A180 y179.length c181] 22 :: bx g14 [Value.string a6] 9 :: bx g10 [Value.int .i64 a1.Before, Value.int .i64 a1.Behind, Value.slice A2 a1.Keep.length c3] 24 :: tk (Value.slice A180 y179.length c181) 1 9 :: ((List.map mkI (gd104 :: ([] : List Nat)) ++ L) ++ M)) hI192 (List.Sublist.cons_cons _ (List.Sublist.cons_cons _ (List.Sublist.cons_cons _ (List.Sublist.cons_cons _ (List.Sublist.cons_cons _ (List.Sublist.cons_cons _ (List.Sublist.cons_cons _ (List.Sublist.cons _ (List.Sublist.refl _)))))))))
          cases H
          exact ⟨rfl, _, _, hG175, ⟨A180, c181, (Gh.le_trans hG140 hG175), rfl, hl182, hD183, ho184, trivial⟩, hI193⟩
        · replace H := ite_no h164 H
          refine wpc_false (bval_no h164) ?_
          refine wpc_region ?_
          refine q_ld hI152 2 (v := Value.func (.func 26) [].toArray [Value.pointer (some ⟨g14, 0, none⟩), Value.pointer (some ⟨g63, 0, none⟩), Value.pointer (some ⟨g57, 0, none⟩)].toArray) ag58 rfl rfl rfl ?_
          refine q_fa (a' := ⟨g147, 0, none⟩) fl37_0 rfl (add_plain _ _ _) ?_
          refine q_ld hI152 1 (v := Value.int .i64 x143.At) ag3 rfl rfl rfl ?_
          have hI194 := Hp.front hI152 6 rfl
          have hI195 := Hp.front hI194 3 rfl
          have hI196 := Hp.front hI195 3 rfl
          have hI197 := Hp.front hI196 3 rfl
          have hI198 := Hp.front hI197 7 rfl
          have hI199 := Hp.front hI198 6 rfl
          have hI200 := Hp.front hI199 6 rfl
          have hI201 := Hp.front hI200 7 rfl
          obtain ⟨⟨y207, y208⟩, hy202, H⟩ := bind_some H
          refine q_cv (vs := [Value.int .i64 x143.At, Value.string (⟨#[]⟩ : ByteArray), Value.pointer (some ⟨g14, 0, none⟩), Value.pointer (some ⟨g63, 0, none⟩), Value.pointer (some ⟨g57, 0, none⟩)]) bo26 rfl rfl (breaks_Least_1_k1_spec (a1 := x143.At) (a2 := (⟨#[]⟩ : ByteArray)) (a5 := a6) (a8 := v105) (a11 := v106) hI201 hl109 hD110 ho111 (hgl.mono (Gh.le_trans (Gh.le_trans hG21 hG89) hG140)) hy202) ?_
          rintro _ wd205 ⟨A209, c210, G203, hG204, hI206, hl211, hD212, ho213, rfl⟩
          refine ⟨_, rfl, ?_⟩
          refine wpq_nil ?_
          have hI215 := Hp.front hI206 3 rfl
          have hI216 := Hp.front hI215 7 rfl
          have hI217 := Hp.front hI216 2 rfl
          have hI218 := Hp.front hI217 4 rfl
          have hI219 := Hp.front hI218 4 rfl
          have hI220 := Hp.front hI219 7 rfl
          have hI221 := Hp.front hI220 6 rfl
          have hI222 := Hp.sub (L := Bs :: bx g71 [Value.func (.func 26) [].toArray [Value.pointer (some ⟨g14, 0, none⟩), Value.pointer (some ⟨g63, 0, none⟩), Value.pointer (some ⟨g57, 0, none⟩)].toArray] 58 :: bx g63 [Value.int .i64 y207] 3 :: bx g57 [Value.slice A209 y208.length c210] 22 :: bx g14 [Value.string a6] 9 :: bx g10 [Value.int .i64 a1.Before, Value.int .i64 a1.Behind, Value.slice A2 a1.Keep.length c3] 24 :: tk (Value.slice A209 y208.length c210) 1 9 :: bx g147 [Value.int .i64 x143.At, Value.bool x143.Hyphen] 37 :: ((List.map mkI (gd104 :: ([] : List Nat)) ++ L) ++ M)) (L' := Bs :: bx g71 [Value.func (.func 26) [].toArray [Value.pointer (some ⟨g14, 0, none⟩), Value.pointer (some ⟨g63, 0, none⟩), Value.pointer (some ⟨g57, 0, none⟩)].toArray] 58 :: bx g63 [Value.int .i64 y207] 3 :: bx g57 [Value.slice A209 y208.length c210] 22 :: bx g14 [Value.string a6] 9 :: bx g10 [Value.int .i64 a1.Before, Value.int .i64 a1.Behind, Value.slice A2 a1.Keep.length c3] 24 :: tk (Value.slice A209 y208.length c210) 1 9 :: ((List.map mkI (gd104 :: ([] : List Nat)) ++ L) ++ M)) hI221 (List.Sublist.cons_cons _ (List.Sublist.cons_cons _ (List.Sublist.cons_cons _ (List.Sublist.cons_cons _ (List.Sublist.cons_cons _ (List.Sublist.cons_cons _ (List.Sublist.cons_cons _ (List.Sublist.cons _ (List.Sublist.refl _)))))))))
          cases H
          exact ⟨rfl, _, _, hG204, ⟨A209, c210, (Gh.le_trans hG140 hG204), rfl, hl211, hD212, ho213, trivial⟩, hI222⟩)
    have hI270 := Hp.sink (A := [bx g93 [Value.int .i64 y94, Value.int .i64 y95, Value.slice A97 y96.length c98, Value.string y101, Value.map (some g33)] 45, mpI g33 Value.string Value.bool y34]) (K := [bx g71 [Value.func (.func 26) [].toArray [Value.pointer (some ⟨g14, 0, none⟩), Value.pointer (some ⟨g63, 0, none⟩), Value.pointer (some ⟨g57, 0, none⟩)].toArray] 58, bx g63 [Value.int .i64 0] 3, bx g57 [Value.slice none 0 0] 22, bx g14 [Value.string a6] 9, bx g10 [Value.int .i64 a1.Before, Value.int .i64 a1.Behind, Value.slice A2 a1.Keep.length c3] 24, tk (Value.slice none 0 0) 1 9]) hI224
    refine (breaks_ruled_places_1_k1_spec (sy := ((0, ([] : List ByteArray)), none)) hI270 hl99 hD100 hY225 ⟨_, rfl, none, 0, Gh.le_refl _, rfl, (show ([] : List ByteArray).length ≤ 0 from Nat.le_refl 0), (Dat.nil _ _ _), Own.nil, trivial⟩ hr226).mono ?_
    rintro _ wd229 ⟨T233, G227, hG2280, hI230, ⟨K, rfl, A107, c108, hG228, rfl, hl109, hD110, ho111, _⟩, rfl⟩
    have hH235 := Hp.front hI230 2 rfl
    rcases jo137 with _ | j
    · refine ⟨_, rfl, LoopState.ready, none, G227, _, (fun h => nomatch h), hH235, fun wd231 hI232 => ?_⟩
      refine hK77 _ _ _ ?_
      refine wpc_seq_k fun K240 hK241 => ?_
      refine wpc_region ?_
      refine q_ld hI232 2 (v := Value.func (.func 26) [].toArray [Value.pointer (some ⟨g14, 0, none⟩), Value.pointer (some ⟨g63, 0, none⟩), Value.pointer (some ⟨g57, 0, none⟩)].toArray) ag58 rfl rfl rfl ?_
      refine q_ld hI232 5 (v := Value.string a6) ag9 rfl rfl rfl ?_
      refine q_lens so9 rfl ?_
      have hI242 := Hp.front hI232 6 rfl
      have hI243 := Hp.front hI242 3 rfl
      have hI244 := Hp.front hI243 3 rfl
      have hI245 := Hp.front hI244 3 rfl
      have hI246 := Hp.front hI245 7 rfl
      have hI247 := Hp.front hI246 6 rfl
      have hI248 := Hp.front hI247 6 rfl
      have hI249 := Hp.front hI248 7 rfl
      obtain ⟨⟨y255, y256⟩, hy250, H⟩ := bind_some H
      refine q_cv (vs := [Value.int .i64 (a6.size : Int), Value.string (⟨#[]⟩ : ByteArray), Value.pointer (some ⟨g14, 0, none⟩), Value.pointer (some ⟨g63, 0, none⟩), Value.pointer (some ⟨g57, 0, none⟩)]) bo26 rfl rfl (breaks_Least_1_k1_spec (a1 := (a6.size : Int)) (a2 := (⟨#[]⟩ : ByteArray)) (a5 := a6) (a8 := v105) (a11 := v106) hI249 hl109 hD110 ho111 (hgl.mono (Gh.le_trans (Gh.le_trans hG21 hG89) hG228)) hy250) ?_
      rintro _ wd253 ⟨A257, c258, G251, hG252, hI254, hl259, hD260, ho261, rfl⟩
      refine ⟨_, rfl, ?_⟩
      refine wpq_nil ?_
      refine hK241 _ _ _ ?_
      refine wpc_seq_k fun K263 hK264 => ?_
      refine wpc_region ?_
      refine q_ld hI254 2 (v := Value.slice A257 y256.length c258) ag22 rfl rfl rfl ?_
      refine q_as (v := Value.slice A257 y256.length c258) rfl ?_
      refine q_as (v := Value.int .i64 0) rfl ?_
      refine wpq_nil ?_
      refine hK264 _ _ _ ?_
      refine wpc_ret ?_
      refine ⟨.inr rfl, (gd104 :: ([] : List Nat)), _, _, rfl, Hp.marks (K := [bx g14 [Value.string a6] 9, bx g63 [Value.int .i64 y255] 3, bx g57 [Value.slice A257 y256.length c258] 22, tk (Value.slice A257 y256.length c258) 1 9, bx g93 [Value.int .i64 y94, Value.int .i64 y95, Value.slice A97 y96.length c98, Value.string y101, Value.map (some g33)] 45, mpI g33 Value.string Value.bool y34, bx g71 [Value.func (.func 26) [].toArray [Value.pointer (some ⟨g14, 0, none⟩), Value.pointer (some ⟨g63, 0, none⟩), Value.pointer (some ⟨g57, 0, none⟩)].toArray] 58, bx g10 [Value.int .i64 a1.Before, Value.int .i64 a1.Behind, Value.slice A2 a1.Keep.length c3] 24]) hI254, fun wd266 hI265 => ?_⟩
      have hI267 := Hp.front hI265 3 rfl
      have hI268 := Hp.sub (L := tk (Value.slice A257 y256.length c258) 1 9 :: bx g14 [Value.string a6] 9 :: bx g63 [Value.int .i64 y255] 3 :: bx g57 [Value.slice A257 y256.length c258] 22 :: bx g93 [Value.int .i64 y94, Value.int .i64 y95, Value.slice A97 y96.length c98, Value.string y101, Value.map (some g33)] 45 :: mpI g33 Value.string Value.bool y34 :: bx g71 [Value.func (.func 26) [].toArray [Value.pointer (some ⟨g14, 0, none⟩), Value.pointer (some ⟨g63, 0, none⟩), Value.pointer (some ⟨g57, 0, none⟩)].toArray] 58 :: bx g10 [Value.int .i64 a1.Before, Value.int .i64 a1.Behind, Value.slice A2 a1.Keep.length c3] 24 :: L) (L' := tk (Value.slice A257 y256.length c258) 1 9 :: L) hI267 (List.Sublist.cons_cons _ (List.Sublist.cons _ (List.Sublist.cons _ (List.Sublist.cons _ (List.Sublist.cons _ (List.Sublist.cons _ (List.Sublist.cons _ (List.Sublist.cons _ (List.Sublist.refl _)))))))))
      cases H
      exact ⟨_, ⟨_, _, rfl, rfl, ⟨_, _, rfl, rfl, rfl⟩⟩, A257, c258, _, (Gh.le_trans (Gh.le_trans (Gh.le_trans hG21 hG89) hG228) hG252), hI268, hl259, hD260, ho261, rfl⟩
    · cases H
set_option maxHeartbeats 1000000 in
theorem formeref08_SameTexts_spec {a1 : List ByteArray} {a6 : List ByteArray} {A2 : Option Addr} {c3 : Nat} {A7 : Option Addr} {c8 : Nat} {r1081 : Bool} {G : Gh} {L : List Itm} {w : World} (hI : Hp G (L) w) (hl4 : a1.length ≤ c3) (hD5 : Dat Kd.str G A2 a1) (hl9 : a6.length ≤ c8) (hD10 : Dat Kd.str G A7 a6) (H : formeref08_SameTexts a1 a6 = some r1081) :
    Calls Tryd.prog 17 [Value.slice A2 a1.length c3, Value.slice A7 a6.length c8].toArray w fun e w' => ∃ (G' : Gh), G ≤ G' ∧ Hp G' (L) w' ∧ e = .returned (Value.bool r1081) := by
  refine calls_intro (N := 26) Tryd.func17 rfl rfl (Nat.le_of_ble_eq_true rfl) ?_
  unfold formeref08_SameTexts at H
  refine wpc_seq_k fun K11 hK12 => ?_
  refine wpc_region ?_
  refine q_as (v := Value.bool false) rfl ?_
  refine wpq_nil ?_
  refine hK12 _ _ _ ?_
  refine wpc_seq_k fun K13 hK14 => ?_
  refine wpc_seq_k fun K15 hK16 => ?_
  refine wpc_region ?_
  refine q_mv (v := Value.slice A2 a1.length c3) rfl ?_
  refine q_len so22 rfl ?_
  refine q_mv (v := Value.slice A7 a6.length c8) rfl ?_
  refine q_len so22 rfl ?_
  refine q_neq rfl rfl ?_
  refine wpq_nil ?_
  refine hK16 _ _ _ ?_
  by_cases h17 : ¬ (a1.length : Int) = (a6.length : Int)
  · replace H := ite_yes h17 H
    refine wpc_true (bool_yes h17) ?_
    refine wpc_seq_k fun K18 hK19 => ?_
    refine wpc_region ?_
    refine q_as (v := Value.bool false) rfl ?_
    refine wpq_nil ?_
    refine hK19 _ _ _ ?_
    refine wpc_ret ?_
    cases H
    exact ⟨.inr rfl, rfl, _, ⟨_, _, rfl, rfl, rfl⟩, _, (Gh.le_refl _), hI, rfl⟩
  · replace H := ite_no h17 H
    refine wpc_false (bool_no h17) ?_
    refine wpc_skip ?_
    refine hK14 _ _ _ ?_
    refine wpc_seq_k fun K20 hK21 => ?_
    refine wpc_seq_k fun K22 hK23 => ?_
    refine wpc_region ?_
    refine q_as (v := Value.int .i64 0) rfl ?_
    refine wpq_nil ?_
    refine hK23 _ _ _ ?_
    refine wpc_block ?_
    obtain ⟨o43, hC, H⟩ := bind_some H
    refine wpc_mono (Q := fun e r ds w => match (generalizing := false) o43 with | (Sum.inl _) => e = .ret ∧ ∃ (G35 : Gh), ds = [] ∧ G ≤ G35 ∧ Has [(4, Value.bool false)] r ∧ Hp G35 (L) w ∧ True | (Sum.inr _) => e = .exit 0 ∧ ∃ (G39 : Gh), ds = [] ∧ G ≤ G39 ∧ Has [] r ∧ Hp G39 (L) w ∧ True) ?_ ?_
    · clear H
      refine wpc_loop fun I hLp => ?_
      refine formeref08_SameTexts_l34.partial_correctness a1 a6 (fun v28 o => ∀ (G44 : Gh) (r : Rg) (w : World), G ≤ G44 → Has [(0, Value.slice A2 a1.length c3), (1, Value.slice A7 a6.length c8), (5, Value.int .i64 v28)] r → Hp G44 (L) w → o = o43 → I r [] w) ?_ 0 _ hC _ _ _ (Gh.le_refl _) ⟨rfl, rfl, rfl, trivial⟩ hI rfl
      intro _ ih v28 o H G44 r wd46 hG45 hHas hI47 ho
      rw [ho] at H; clear ho
      rw [hHas.eq]; clear hHas
      refine hLp _ _ _ ?_
      refine wpc_seq_k fun K48 hK49 => ?_
      refine wpc_seq_k fun K50 hK51 => ?_
      refine wpc_region ?_
      refine q_mv (v := Value.int .i64 v28) rfl ?_
      refine q_mv (v := Value.slice A2 a1.length c3) rfl ?_
      refine q_len so22 rfl ?_
      refine q_lss rfl rfl ?_
      refine wpq_nil ?_
      refine hK51 _ _ _ ?_
      by_cases h52 : v28 < (a1.length : Int)
      · replace H := ite_yes h52 H
        refine wpc_true (bool_yes h52) ?_
        refine wpc_skip ?_
        refine hK49 _ _ _ ?_
        refine wpc_seq_k fun K53 hK54 => ?_
        refine wpc_block ?_
        refine wpc_seq_k fun K55 hK56 => ?_
        obtain ⟨⟨h57, h57'⟩, H⟩ := ite_some H
        obtain ⟨ad58, cs59, hA60, hK61, hn62, hc63⟩ := Dat.get (Dat.mono hG45 hD5) (⟨#[]⟩ : ByteArray) (v28) h57 h57'
        obtain rfl := hK61
        obtain ⟨⟨h64, h64'⟩, H⟩ := ite_some H
        obtain ⟨ad65, cs66, hA67, hK68, hn69, hc70⟩ := Dat.get (Dat.mono hG45 hD10) (⟨#[]⟩ : ByteArray) (v28) h64 h64'
        obtain rfl := hK68
        refine wpc_drawL [0, 0, 3, 7, 0, 0, 48, 112, 255] (fun D r w => (∃ (G' : Gh), G44 ≤ G' ∧ Regs [(0, Value.slice A2 a1.length c3), (1, Value.slice A7 a6.length c8), (5, Value.int .i64 v28)] [] [(0, 17, Value.slice A2 a1.length c3), (1, 18, Value.int .i64 v28), (2, 19, Value.pointer (some (ad58.add (Int.toNat v28 * 1)))), (3, 20, Value.string (a1.getD (Int.toNat v28) (⟨#[]⟩ : ByteArray))), (4, 21, Value.slice A7 a6.length c8), (5, 22, Value.int .i64 v28), (6, 23, Value.pointer (some (ad65.add (Int.toNat v28 * 1)))), (7, 24, Value.string (a6.getD (Int.toNat v28) (⟨#[]⟩ : ByteArray))), (8, 25, Value.bool (decide (¬ (a1.getD (Int.toNat v28) (⟨#[]⟩ : ByteArray)) = (a6.getD (Int.toNat v28) (⟨#[]⟩ : ByteArray)))))] D r ∧ Hp G' (L) w)) mixo rfl rfl ?_ ?_ ?_
        · exact ⟨_, Gh.le_refl _, Regs.start ⟨rfl, rfl, rfl, trivial⟩ trivial, hI47.drew⟩
        · refine ⟨?_, ?_, ?_, ?_, ?_, ?_, ?_, ?_, ?_, trivial⟩
          · intro D r wd75 hR hDi hpre hpost
            obtain ⟨G71, hG72, hReg74, hI73⟩ := hR
            have hH : Has [(0, Value.slice A2 a1.length c3)] r := ⟨hReg74.ins.get 0 rfl, trivial⟩
            obtain ⟨r0, rfl⟩ := hH.ex
            refine q_mv (v := Value.slice A2 a1.length c3) rfl ?_
            refine wpq_nil ?_
            exact ⟨rfl, ⟨_, hG72, (Regs.step hReg74 hDi rfl rfl rfl rfl), hI73⟩⟩
          · intro D r wd75 hR hDi hpre hpost
            obtain ⟨G71, hG72, hReg74, hI73⟩ := hR
            have hH : Has [(5, Value.int .i64 v28)] r := ⟨hReg74.ins.get 2 rfl, trivial⟩
            obtain ⟨r0, rfl⟩ := hH.ex
            refine q_mv (v := Value.int .i64 v28) rfl ?_
            refine wpq_nil ?_
            exact ⟨rfl, ⟨_, hG72, (Regs.step hReg74 hDi rfl rfl rfl rfl), hI73⟩⟩
          · intro D r wd75 hR hDi hpre hpost
            obtain ⟨G71, hG72, hReg74, hI73⟩ := hR
            have hH : Has [(17, Value.slice A2 a1.length c3), (18, Value.int .i64 v28)] r := ⟨hReg74.get 0 rfl (hpre 0 rfl), hReg74.get 1 rfl (hpre 1 rfl), trivial⟩
            obtain ⟨r0, rfl⟩ := hH.ex
            refine q_ia el22 rfl hA60 rfl h57 h57' ?_
            refine wpq_nil ?_
            exact ⟨rfl, ⟨_, hG72, (Regs.step hReg74 hDi rfl rfl rfl rfl), hI73⟩⟩
          · intro D r wd75 hR hDi hpre hpost
            obtain ⟨G71, hG72, hReg74, hI73⟩ := hR
            have hH : Has [(19, Value.pointer (some (ad58.add (Int.toNat v28 * 1))))] r := ⟨hReg74.get 2 rfl (hpre 2 rfl), trivial⟩
            obtain ⟨r0, rfl⟩ := hH.ex
            refine q_lf hI73 (v := Value.string (a1.getD (Int.toNat v28) (⟨#[]⟩ : ByteArray))) ag9 rfl (hG72.cel _ _ (hc63 0 _ rfl)) ?_
            refine wpq_nil ?_
            exact ⟨rfl, ⟨_, hG72, (Regs.step hReg74 hDi rfl rfl rfl rfl), hI73⟩⟩
          · intro D r wd75 hR hDi hpre hpost
            obtain ⟨G71, hG72, hReg74, hI73⟩ := hR
            have hH : Has [(1, Value.slice A7 a6.length c8)] r := ⟨hReg74.ins.get 1 rfl, trivial⟩
            obtain ⟨r0, rfl⟩ := hH.ex
            refine q_mv (v := Value.slice A7 a6.length c8) rfl ?_
            refine wpq_nil ?_
            exact ⟨rfl, ⟨_, hG72, (Regs.step hReg74 hDi rfl rfl rfl rfl), hI73⟩⟩
          · intro D r wd75 hR hDi hpre hpost
            obtain ⟨G71, hG72, hReg74, hI73⟩ := hR
            have hH : Has [(5, Value.int .i64 v28)] r := ⟨hReg74.ins.get 2 rfl, trivial⟩
            obtain ⟨r0, rfl⟩ := hH.ex
            refine q_mv (v := Value.int .i64 v28) rfl ?_
            refine wpq_nil ?_
            exact ⟨rfl, ⟨_, hG72, (Regs.step hReg74 hDi rfl rfl rfl rfl), hI73⟩⟩
          · intro D r wd75 hR hDi hpre hpost
            obtain ⟨G71, hG72, hReg74, hI73⟩ := hR
            have hH : Has [(21, Value.slice A7 a6.length c8), (22, Value.int .i64 v28)] r := ⟨hReg74.get 4 rfl (hpre 4 rfl), hReg74.get 5 rfl (hpre 5 rfl), trivial⟩
            obtain ⟨r0, rfl⟩ := hH.ex
            refine q_ia el22 rfl hA67 rfl h64 h64' ?_
            refine wpq_nil ?_
            exact ⟨rfl, ⟨_, hG72, (Regs.step hReg74 hDi rfl rfl rfl rfl), hI73⟩⟩
          · intro D r wd75 hR hDi hpre hpost
            obtain ⟨G71, hG72, hReg74, hI73⟩ := hR
            have hH : Has [(23, Value.pointer (some (ad65.add (Int.toNat v28 * 1))))] r := ⟨hReg74.get 6 rfl (hpre 6 rfl), trivial⟩
            obtain ⟨r0, rfl⟩ := hH.ex
            refine q_lf hI73 (v := Value.string (a6.getD (Int.toNat v28) (⟨#[]⟩ : ByteArray))) ag9 rfl (hG72.cel _ _ (hc70 0 _ rfl)) ?_
            refine wpq_nil ?_
            exact ⟨rfl, ⟨_, hG72, (Regs.step hReg74 hDi rfl rfl rfl rfl), hI73⟩⟩
          · intro D r wd75 hR hDi hpre hpost
            obtain ⟨G71, hG72, hReg74, hI73⟩ := hR
            have hH : Has [(20, Value.string (a1.getD (Int.toNat v28) (⟨#[]⟩ : ByteArray))), (24, Value.string (a6.getD (Int.toNat v28) (⟨#[]⟩ : ByteArray)))] r := ⟨hReg74.get 3 rfl (hpre 3 rfl), hReg74.get 7 rfl (hpre 7 rfl), trivial⟩
            obtain ⟨r0, rfl⟩ := hH.ex
            refine q_str_neq rfl rfl ?_
            refine wpq_nil ?_
            exact ⟨rfl, ⟨_, hG72, (Regs.step hReg74 hDi rfl rfl rfl rfl), hI73⟩⟩
        · intro D r wd75 hall hR
          obtain ⟨G71, hG72, hReg74, hI73⟩ := hR
          have hH : Has [(0, Value.slice A2 a1.length c3), (1, Value.slice A7 a6.length c8), (5, Value.int .i64 v28), (25, Value.bool (decide (¬ (a1.getD (Int.toNat v28) (⟨#[]⟩ : ByteArray)) = (a6.getD (Int.toNat v28) (⟨#[]⟩ : ByteArray)))))] r := ⟨hReg74.ins.get 0 rfl, hReg74.ins.get 1 rfl, hReg74.ins.get 2 rfl, hReg74.get 8 rfl (hall 8 (Nat.le_of_ble_eq_true rfl)), trivial⟩
          obtain ⟨r0, rfl⟩ := hH.ex
          refine hK56 _ _ _ ?_
          by_cases h76 : ¬ (a1.getD (Int.toNat v28) (⟨#[]⟩ : ByteArray)) = (a6.getD (Int.toNat v28) (⟨#[]⟩ : ByteArray))
          · replace H := ite_yes h76 H
            refine wpc_true (bool_yes h76) ?_
            refine wpc_seq_k fun K77 hK78 => ?_
            refine wpc_region ?_
            refine q_as (v := Value.bool false) rfl ?_
            refine wpq_nil ?_
            refine hK78 _ _ _ ?_
            refine wpc_ret ?_
            cases H
            exact ⟨rfl, _, rfl, (Gh.le_trans hG45 hG72), ⟨rfl, trivial⟩, hI73, trivial⟩
          · replace H := ite_no h76 H
            refine wpc_false (bool_no h76) ?_
            refine wpc_skip ?_
            refine hK54 _ _ _ ?_
            refine wpc_region ?_
            refine q_mv (v := Value.int .i64 v28) rfl ?_
            refine q_add rfl rfl ?_
            refine q_as (v := Value.int .i64 (w64 (v28 + 1))) rfl ?_
            refine wpq_nil ?_
            exact ih _ _ H _ _ _ (Gh.le_trans hG45 hG72) ⟨rfl, rfl, rfl, trivial⟩ hI73 rfl
      · replace H := ite_no h52 H
        refine wpc_false (bool_no h52) ?_
        refine wpc_exit ?_
        cases H
        exact ⟨rfl, _, rfl, hG45, trivial, hI47, trivial⟩
    · clear hC
      rcases o43 with _ | _
      · rintro e r ds wd37 ⟨rfl, G35, rfl, hG36, hHas, hI38, _⟩
        rw [hHas.eq]; clear hHas
        cases H
        exact ⟨.inr rfl, rfl, _, ⟨_, _, rfl, rfl, rfl⟩, _, hG36, hI38, rfl⟩
      · rintro e r ds wd41 ⟨rfl, G39, rfl, hG40, hHas, hI42, _⟩
        rw [hHas.eq]; clear hHas
        refine hK21 _ _ _ ?_
        refine wpc_seq_k fun K79 hK80 => ?_
        refine wpc_region ?_
        refine q_as (v := Value.bool true) rfl ?_
        refine wpq_nil ?_
        refine hK80 _ _ _ ?_
        refine wpc_ret ?_
        cases H
        exact ⟨.inr rfl, rfl, _, ⟨_, _, rfl, rfl, rfl⟩, _, hG40, hI42, rfl⟩
set_option maxHeartbeats 1000000 in
theorem formelaw08_head_spec {r1284 : Bool} {G : Gh} {L : List Itm} {w : World} (hI : Hp G (L) w) (hgl : Gl G) (H : formelaw08_head = some r1284) :
    Calls Tryd.prog 9 [].toArray w fun e w' => ∃ (G' : Gh), G ≤ G' ∧ Hp G' (L) w' ∧ e = .returned (Value.bool r1284) := by
  refine calls_intro (N := 103) Tryd.func9 rfl rfl (Nat.le_of_ble_eq_true rfl) ?_
  unfold formelaw08_head at H
  refine wpc_seq_k fun K1 hK2 => ?_
  refine wpc_region ?_
  refine q_as (v := Value.bool false) rfl ?_
  refine wpq_nil ?_
  refine hK2 _ _ _ ?_
  refine wpc_seq_k fun K3 hK4 => ?_
  refine wpc_region ?_
  refine q_bs hI (vs := [(0, Value.string (⟨#[99, 107]⟩ : ByteArray))]) (cs := [Value.string (⟨#[99, 107]⟩ : ByteArray)]) el22 ze9 rfl (by decide) rfl rfl (fun g6 wd7 hI8 => ?_)
  obtain ⟨G9, hG10, hI12, hD11⟩ := Hp.publish (xs := ([(⟨#[99, 107]⟩ : ByteArray)] : List ByteArray)) (n := 1) Kd.str hI8 ⟨[Value.string (⟨#[99, 107]⟩ : ByteArray)], _, rfl, rfl, rfl⟩ rfl
  refine q_build (vs := [(0, Value.int .i64 2), (1, Value.int .i64 2), (2, Value.slice (some ⟨g6, 0, none⟩) ([(⟨#[99, 107]⟩ : ByteArray)] : List ByteArray).length 1)]) (cs := [Value.int .i64 2, Value.int .i64 2, Value.slice (some ⟨g6, 0, none⟩) ([(⟨#[99, 107]⟩ : ByteArray)] : List ByteArray).length 1]) ze24 pl24 rfl rfl ?_
  refine q_alloc hI12 ze24 (fun g14 wd15 hI16 => ?_)
  refine q_stA hI16 0 (v := Value.agg [Value.int .i64 2, Value.int .i64 2, Value.slice (some ⟨g6, 0, none⟩) ([(⟨#[99, 107]⟩ : ByteArray)] : List ByteArray).length 1].toArray) (cs := [Value.int .i64 2, Value.int .i64 2, Value.slice (some ⟨g6, 0, none⟩) ([(⟨#[99, 107]⟩ : ByteArray)] : List ByteArray).length 1]) (vs' := [Value.int .i64 2, Value.int .i64 2, Value.slice (some ⟨g6, 0, none⟩) ([(⟨#[99, 107]⟩ : ByteArray)] : List ByteArray).length 1]) ag24 rfl rfl rfl rfl rfl rfl (Nat.le_of_ble_eq_true rfl) rfl (fun wd17 hI18 => ?_)
  refine wpq_nil ?_
  refine hK4 _ _ _ ?_
  refine wpc_seq_k fun K19 hK20 => ?_
  refine wpc_region ?_
  refine q_ldA hI18 0 (cs := [Value.int .i64 2, Value.int .i64 2, Value.slice (some ⟨g6, 0, none⟩) ([(⟨#[99, 107]⟩ : ByteArray)] : List ByteArray).length 1]) ag24 rfl rfl rfl rfl ?_
  obtain ⟨⟨y26, y33⟩, hy21, H⟩ := bind_some H
  refine q_cv (vs := [Value.agg [Value.int .i64 2, Value.int .i64 2, Value.slice (some ⟨g6, 0, none⟩) ([(⟨#[99, 107]⟩ : ByteArray)] : List ByteArray).length 1].toArray, Value.string (⟨#[97, 98, 45, 99, 100, 32, 101, 102]⟩ : ByteArray)]) bo10 rfl rfl (breaks_List_spec (a1 := (⟨2, 2, ([(⟨#[99, 107]⟩ : ByteArray)] : List ByteArray)⟩ : api_Breaks)) (a6 := (⟨#[97, 98, 45, 99, 100, 32, 101, 102]⟩ : ByteArray)) hI18 (show ([(⟨#[99, 107]⟩ : ByteArray)] : List ByteArray).length ≤ 1 from Nat.le_of_ble_eq_true rfl) hD11 hy21) ?_
  rintro _ wd24 ⟨A27, c28, G22, hG23, hI25, hl29, hD30, ho31, rfl⟩
  refine ⟨_, rfl, ?_⟩
  refine q_mv (v := Value.tuple [Value.slice A27 y26.length c28, Value.int .i64 y33].toArray) rfl ?_
  refine q_ex (v := Value.slice A27 y26.length c28) rfl rfl ?_
  refine q_ex (v := Value.int .i64 y33) rfl rfl ?_
  refine q_as (v := Value.slice A27 y26.length c28) rfl ?_
  refine q_as (v := Value.int .i64 y33) rfl ?_
  refine wpq_nil ?_
  refine hK20 _ _ _ ?_
  refine wpc_seq_k fun K34 hK35 => ?_
  refine wpc_region ?_
  refine q_ldA hI25 1 (cs := [Value.int .i64 2, Value.int .i64 2, Value.slice (some ⟨g6, 0, none⟩) ([(⟨#[99, 107]⟩ : ByteArray)] : List ByteArray).length 1]) ag24 rfl rfl rfl rfl ?_
  obtain ⟨⟨y41, y48⟩, hy36, H⟩ := bind_some H
  refine q_cv (vs := [Value.agg [Value.int .i64 2, Value.int .i64 2, Value.slice (some ⟨g6, 0, none⟩) ([(⟨#[99, 107]⟩ : ByteArray)] : List ByteArray).length 1].toArray, Value.string (⟨#[97, 98, 126, 99, 100]⟩ : ByteArray)]) bo10 rfl rfl (breaks_List_spec (a1 := (⟨2, 2, ([(⟨#[99, 107]⟩ : ByteArray)] : List ByteArray)⟩ : api_Breaks)) (a6 := (⟨#[97, 98, 126, 99, 100]⟩ : ByteArray)) hI25 (show ([(⟨#[99, 107]⟩ : ByteArray)] : List ByteArray).length ≤ 1 from Nat.le_of_ble_eq_true rfl) (Dat.mono hG23 hD11) hy36) ?_
  rintro _ wd39 ⟨A42, c43, G37, hG38, hI40, hl44, hD45, ho46, rfl⟩
  refine ⟨_, rfl, ?_⟩
  refine q_mv (v := Value.tuple [Value.slice A42 y41.length c43, Value.int .i64 y48].toArray) rfl ?_
  refine q_ex (v := Value.slice A42 y41.length c43) rfl rfl ?_
  refine q_ex (v := Value.int .i64 y48) rfl rfl ?_
  refine q_as (v := Value.slice A42 y41.length c43) rfl ?_
  refine q_as (v := Value.int .i64 y48) rfl ?_
  refine wpq_nil ?_
  refine hK35 _ _ _ ?_
  refine wpc_seq_k fun K49 hK50 => ?_
  refine wpc_region ?_
  refine q_ldA hI40 2 (cs := [Value.int .i64 2, Value.int .i64 2, Value.slice (some ⟨g6, 0, none⟩) ([(⟨#[99, 107]⟩ : ByteArray)] : List ByteArray).length 1]) ag24 rfl rfl rfl rfl ?_
  obtain ⟨⟨y56, y63⟩, hy51, H⟩ := bind_some H
  refine q_cv (vs := [Value.agg [Value.int .i64 2, Value.int .i64 2, Value.slice (some ⟨g6, 0, none⟩) ([(⟨#[99, 107]⟩ : ByteArray)] : List ByteArray).length 1].toArray, Value.string (⟨#[97, 126, 98, 99, 100]⟩ : ByteArray)]) bo10 rfl rfl (breaks_List_spec (a1 := (⟨2, 2, ([(⟨#[99, 107]⟩ : ByteArray)] : List ByteArray)⟩ : api_Breaks)) (a6 := (⟨#[97, 126, 98, 99, 100]⟩ : ByteArray)) hI40 (show ([(⟨#[99, 107]⟩ : ByteArray)] : List ByteArray).length ≤ 1 from Nat.le_of_ble_eq_true rfl) (Dat.mono (Gh.le_trans hG23 hG38) hD11) hy51) ?_
  rintro _ wd54 ⟨A57, c58, G52, hG53, hI55, hl59, hD60, ho61, rfl⟩
  refine ⟨_, rfl, ?_⟩
  refine q_mv (v := Value.tuple [Value.slice A57 y56.length c58, Value.int .i64 y63].toArray) rfl ?_
  refine q_ex (v := Value.slice A57 y56.length c58) rfl rfl ?_
  refine q_ex (v := Value.int .i64 y63) rfl rfl ?_
  refine q_as (v := Value.slice A57 y56.length c58) rfl ?_
  refine q_as (v := Value.int .i64 y63) rfl ?_
  refine wpq_nil ?_
  refine hK50 _ _ _ ?_
  refine wpc_seq_k fun K64 hK65 => ?_
  refine wpc_region ?_
  refine q_ldA hI55 3 (cs := [Value.int .i64 2, Value.int .i64 2, Value.slice (some ⟨g6, 0, none⟩) ([(⟨#[99, 107]⟩ : ByteArray)] : List ByteArray).length 1]) ag24 rfl rfl rfl rfl ?_
  obtain ⟨⟨y71, y78⟩, hy66, H⟩ := bind_some H
  refine q_cv (vs := [Value.agg [Value.int .i64 2, Value.int .i64 2, Value.slice (some ⟨g6, 0, none⟩) ([(⟨#[99, 107]⟩ : ByteArray)] : List ByteArray).length 1].toArray, Value.string (⟨#[98, 97, 99, 126, 107, 97, 98]⟩ : ByteArray)]) bo10 rfl rfl (breaks_List_spec (a1 := (⟨2, 2, ([(⟨#[99, 107]⟩ : ByteArray)] : List ByteArray)⟩ : api_Breaks)) (a6 := (⟨#[98, 97, 99, 126, 107, 97, 98]⟩ : ByteArray)) hI55 (show ([(⟨#[99, 107]⟩ : ByteArray)] : List ByteArray).length ≤ 1 from Nat.le_of_ble_eq_true rfl) (Dat.mono (Gh.le_trans (Gh.le_trans hG23 hG38) hG53) hD11) hy66) ?_
  rintro _ wd69 ⟨A72, c73, G67, hG68, hI70, hl74, hD75, ho76, rfl⟩
  refine ⟨_, rfl, ?_⟩
  refine q_mv (v := Value.tuple [Value.slice A72 y71.length c73, Value.int .i64 y78].toArray) rfl ?_
  refine q_ex (v := Value.slice A72 y71.length c73) rfl rfl ?_
  refine q_ex (v := Value.int .i64 y78) rfl rfl ?_
  refine q_as (v := Value.slice A72 y71.length c73) rfl ?_
  refine q_as (v := Value.int .i64 y78) rfl ?_
  refine wpq_nil ?_
  refine hK65 _ _ _ ?_
  refine wpc_seq_k fun K79 hK80 => ?_
  refine wpc_region ?_
  refine q_ldA hI70 4 (cs := [Value.int .i64 2, Value.int .i64 2, Value.slice (some ⟨g6, 0, none⟩) ([(⟨#[99, 107]⟩ : ByteArray)] : List ByteArray).length 1]) ag24 rfl rfl rfl rfl ?_
  obtain ⟨⟨y86, y93⟩, hy81, H⟩ := bind_some H
  refine q_cv (vs := [Value.agg [Value.int .i64 2, Value.int .i64 2, Value.slice (some ⟨g6, 0, none⟩) ([(⟨#[99, 107]⟩ : ByteArray)] : List ByteArray).length 1].toArray, Value.string (⟨#[97, 98, 126, 99, 100, 32, 101, 102]⟩ : ByteArray)]) bo15 rfl rfl (breaks_Least_spec (a1 := (⟨2, 2, ([(⟨#[99, 107]⟩ : ByteArray)] : List ByteArray)⟩ : api_Breaks)) (a6 := (⟨#[97, 98, 126, 99, 100, 32, 101, 102]⟩ : ByteArray)) hI70 (show ([(⟨#[99, 107]⟩ : ByteArray)] : List ByteArray).length ≤ 1 from Nat.le_of_ble_eq_true rfl) (Dat.mono (Gh.le_trans (Gh.le_trans (Gh.le_trans hG23 hG38) hG53) hG68) hD11) (hgl.mono (Gh.le_trans (Gh.le_trans (Gh.le_trans (Gh.le_trans hG10 hG23) hG38) hG53) hG68)) hy81) ?_
  rintro _ wd84 ⟨A87, c88, G82, hG83, hI85, hl89, hD90, ho91, rfl⟩
  refine ⟨_, rfl, ?_⟩
  refine q_mv (v := Value.tuple [Value.slice A87 y86.length c88, Value.int .i64 y93].toArray) rfl ?_
  refine q_ex (v := Value.slice A87 y86.length c88) rfl rfl ?_
  refine q_ex (v := Value.int .i64 y93) rfl rfl ?_
  refine q_as (v := Value.slice A87 y86.length c88) rfl ?_
  refine q_as (v := Value.int .i64 y93) rfl ?_
  refine wpq_nil ?_
  refine hK80 _ _ _ ?_
  refine wpc_seq_k fun K94 hK95 => ?_
  refine wpc_region ?_
  refine q_build (vs := []) (cs := [Value.int .i64 0, Value.int .i64 0, Value.slice none 0 0]) ze24 pl24 rfl rfl ?_
  obtain ⟨⟨y101, y108⟩, hy96, H⟩ := bind_some H
  refine q_cv (vs := [Value.agg [Value.int .i64 0, Value.int .i64 0, Value.slice none 0 0].toArray, Value.string (⟨#[97, 98]⟩ : ByteArray)]) bo10 rfl rfl (breaks_List_spec (a1 := (⟨0, 0, ([] : List ByteArray)⟩ : api_Breaks)) (a6 := (⟨#[97, 98]⟩ : ByteArray)) hI85 (show ([] : List ByteArray).length ≤ 0 from Nat.le_refl 0) (Dat.nil _ _ _) hy96) ?_
  rintro _ wd99 ⟨A102, c103, G97, hG98, hI100, hl104, hD105, ho106, rfl⟩
  refine ⟨_, rfl, ?_⟩
  refine q_mv (v := Value.tuple [Value.slice A102 y101.length c103, Value.int .i64 y108].toArray) rfl ?_
  refine q_ex (v := Value.slice A102 y101.length c103) rfl rfl ?_
  refine q_ex (v := Value.int .i64 y108) rfl rfl ?_
  refine q_as (v := Value.slice A102 y101.length c103) rfl ?_
  refine q_as (v := Value.int .i64 y108) rfl ?_
  refine wpq_nil ?_
  refine hK95 _ _ _ ?_
  refine wpc_seq_k fun K109 hK110 => ?_
  refine wpc_region ?_
  refine q_mv (v := Value.int .i64 y33) rfl ?_
  refine q_eql rfl rfl ?_
  refine q_mv (v := Value.bool (decide (y33 = 0))) rfl ?_
  obtain ⟨v111, hC, H⟩ := bind_some H
  refine wpq_split 3 (K := fun e r ds w => e = .normal ∧ ∃ (G112 : Gh), ds = [] ∧ G97 ≤ G112 ∧ Has [(1, Value.pointer (some ⟨g14, 0, none⟩)), (2, Value.slice A27 y26.length c28), (4, Value.slice A42 y41.length c43), (6, Value.slice A57 y56.length c58), (7, Value.int .i64 y63), (8, Value.slice A72 y71.length c73), (9, Value.int .i64 y78), (10, Value.slice A87 y86.length c88), (11, Value.int .i64 y93), (13, Value.int .i64 y108), (52, Value.bool v111)] r ∧ Hp G112 (bx g14 [Value.int .i64 2, Value.int .i64 2, Value.slice (some ⟨g6, 0, none⟩) ([(⟨#[99, 107]⟩ : ByteArray)] : List ByteArray).length 1] 24 :: tk (Value.slice A102 y101.length c103) 2 37 :: tk (Value.slice A87 y86.length c88) 1 9 :: tk (Value.slice A72 y71.length c73) 2 37 :: tk (Value.slice A57 y56.length c58) 2 37 :: tk (Value.slice A42 y41.length c43) 2 37 :: tk (Value.slice A27 y26.length c28) 2 37 :: tk (Value.slice (some ⟨g6, 0, none⟩) ([(⟨#[99, 107]⟩ : ByteArray)] : List ByteArray).length 1) 1 9 :: L) w ∧ True) ?_ ?_
  · replace H := hC
    by_cases h117 : y33 = 0
    · replace H := ite_yes h117 H
      refine q_mv (v := Value.int .i64 y48) rfl ?_ (hw := guard_yes rfl rfl rfl (bool_yes h117))
      refine q_eql rfl rfl ?_ (hw := guard_yes rfl rfl rfl (bool_yes h117))
      refine q_pick true (v := Value.bool (decide (y48 = 0))) (bool_yes h117) rfl ?_
      refine wpq_nil ?_
      have hI118 := Hp.front hI100 7 rfl
      have hI119 := Hp.front hI118 6 rfl
      have hI120 := Hp.front hI119 6 rfl
      have hI121 := Hp.front hI120 6 rfl
      have hI122 := Hp.front hI121 6 rfl
      have hI123 := Hp.front hI122 6 rfl
      have hI124 := Hp.front hI123 6 rfl
      have hI125 := Hp.front hI124 7 rfl
      cases H
      exact ⟨rfl, _, rfl, (Gh.le_refl _), ⟨rfl, rfl, rfl, rfl, rfl, rfl, rfl, rfl, rfl, rfl, rfl, trivial⟩, hI125, trivial⟩
    · replace H := ite_no h117 H
      refine wpq_no (guard_no rfl rfl rfl (bool_no h117) rfl) ?_
      refine wpq_no (guard_no rfl rfl rfl (bool_no h117) rfl) ?_
      refine q_pick false (v := Value.bool false) (bool_no h117) rfl ?_
      refine wpq_nil ?_
      have hI126 := Hp.front hI100 7 rfl
      have hI127 := Hp.front hI126 6 rfl
      have hI128 := Hp.front hI127 6 rfl
      have hI129 := Hp.front hI128 6 rfl
      have hI130 := Hp.front hI129 6 rfl
      have hI131 := Hp.front hI130 6 rfl
      have hI132 := Hp.front hI131 6 rfl
      have hI133 := Hp.front hI132 7 rfl
      cases H
      exact ⟨rfl, _, rfl, (Gh.le_refl _), ⟨rfl, rfl, rfl, rfl, rfl, rfl, rfl, rfl, rfl, rfl, rfl, trivial⟩, hI133, trivial⟩
  · clear hC
    rintro e r ds wd114 ⟨rfl, G112, rfl, hG113, hHas, hI115, _⟩
    rw [hHas.eq]; clear hHas
    refine q_mv (v := Value.bool v111) rfl ?_
    obtain ⟨v134, hC, H⟩ := bind_some H
    refine wpq_split 3 (K := fun e r ds w => e = .normal ∧ ∃ (G135 : Gh), ds = [] ∧ G112 ≤ G135 ∧ Has [(1, Value.pointer (some ⟨g14, 0, none⟩)), (2, Value.slice A27 y26.length c28), (4, Value.slice A42 y41.length c43), (6, Value.slice A57 y56.length c58), (8, Value.slice A72 y71.length c73), (9, Value.int .i64 y78), (10, Value.slice A87 y86.length c88), (11, Value.int .i64 y93), (13, Value.int .i64 y108), (56, Value.bool v134)] r ∧ Hp G135 (bx g14 [Value.int .i64 2, Value.int .i64 2, Value.slice (some ⟨g6, 0, none⟩) ([(⟨#[99, 107]⟩ : ByteArray)] : List ByteArray).length 1] 24 :: tk (Value.slice A102 y101.length c103) 2 37 :: tk (Value.slice A87 y86.length c88) 1 9 :: tk (Value.slice A72 y71.length c73) 2 37 :: tk (Value.slice A57 y56.length c58) 2 37 :: tk (Value.slice A42 y41.length c43) 2 37 :: tk (Value.slice A27 y26.length c28) 2 37 :: tk (Value.slice (some ⟨g6, 0, none⟩) ([(⟨#[99, 107]⟩ : ByteArray)] : List ByteArray).length 1) 1 9 :: L) w ∧ True) ?_ ?_
    · replace H := hC
      by_cases h140 : v111 = true
      · replace H := ite_yes h140 H
        refine q_mv (v := Value.int .i64 y63) rfl ?_ (hw := guard_yes rfl rfl rfl (bval_yes h140))
        refine q_eql rfl rfl ?_ (hw := guard_yes rfl rfl rfl (bval_yes h140))
        refine q_pick true (v := Value.bool (decide (y63 = 0))) (bval_yes h140) rfl ?_
        refine wpq_nil ?_
        cases H
        exact ⟨rfl, _, rfl, (Gh.le_refl _), ⟨rfl, rfl, rfl, rfl, rfl, rfl, rfl, rfl, rfl, rfl, trivial⟩, hI115, trivial⟩
      · replace H := ite_no h140 H
        refine wpq_no (guard_no rfl rfl rfl (bval_no h140) rfl) ?_
        refine wpq_no (guard_no rfl rfl rfl (bval_no h140) rfl) ?_
        refine q_pick false (v := Value.bool false) (bval_no h140) rfl ?_
        refine wpq_nil ?_
        cases H
        exact ⟨rfl, _, rfl, (Gh.le_refl _), ⟨rfl, rfl, rfl, rfl, rfl, rfl, rfl, rfl, rfl, rfl, trivial⟩, hI115, trivial⟩
    · clear hC
      rintro e r ds wd137 ⟨rfl, G135, rfl, hG136, hHas, hI138, _⟩
      rw [hHas.eq]; clear hHas
      refine q_mv (v := Value.bool v134) rfl ?_
      obtain ⟨v141, hC, H⟩ := bind_some H
      refine wpq_split 3 (K := fun e r ds w => e = .normal ∧ ∃ (G142 : Gh), ds = [] ∧ G135 ≤ G142 ∧ Has [(1, Value.pointer (some ⟨g14, 0, none⟩)), (2, Value.slice A27 y26.length c28), (4, Value.slice A42 y41.length c43), (6, Value.slice A57 y56.length c58), (8, Value.slice A72 y71.length c73), (10, Value.slice A87 y86.length c88), (11, Value.int .i64 y93), (13, Value.int .i64 y108), (60, Value.bool v141)] r ∧ Hp G142 (bx g14 [Value.int .i64 2, Value.int .i64 2, Value.slice (some ⟨g6, 0, none⟩) ([(⟨#[99, 107]⟩ : ByteArray)] : List ByteArray).length 1] 24 :: tk (Value.slice A102 y101.length c103) 2 37 :: tk (Value.slice A87 y86.length c88) 1 9 :: tk (Value.slice A72 y71.length c73) 2 37 :: tk (Value.slice A57 y56.length c58) 2 37 :: tk (Value.slice A42 y41.length c43) 2 37 :: tk (Value.slice A27 y26.length c28) 2 37 :: tk (Value.slice (some ⟨g6, 0, none⟩) ([(⟨#[99, 107]⟩ : ByteArray)] : List ByteArray).length 1) 1 9 :: L) w ∧ True) ?_ ?_
      · replace H := hC
        by_cases h147 : v134 = true
        · replace H := ite_yes h147 H
          refine q_mv (v := Value.int .i64 y78) rfl ?_ (hw := guard_yes rfl rfl rfl (bval_yes h147))
          refine q_eql rfl rfl ?_ (hw := guard_yes rfl rfl rfl (bval_yes h147))
          refine q_pick true (v := Value.bool (decide (y78 = 0))) (bval_yes h147) rfl ?_
          refine wpq_nil ?_
          cases H
          exact ⟨rfl, _, rfl, (Gh.le_refl _), ⟨rfl, rfl, rfl, rfl, rfl, rfl, rfl, rfl, rfl, trivial⟩, hI138, trivial⟩
        · replace H := ite_no h147 H
          refine wpq_no (guard_no rfl rfl rfl (bval_no h147) rfl) ?_
          refine wpq_no (guard_no rfl rfl rfl (bval_no h147) rfl) ?_
          refine q_pick false (v := Value.bool false) (bval_no h147) rfl ?_
          refine wpq_nil ?_
          cases H
          exact ⟨rfl, _, rfl, (Gh.le_refl _), ⟨rfl, rfl, rfl, rfl, rfl, rfl, rfl, rfl, rfl, trivial⟩, hI138, trivial⟩
      · clear hC
        rintro e r ds wd144 ⟨rfl, G142, rfl, hG143, hHas, hI145, _⟩
        rw [hHas.eq]; clear hHas
        refine q_mv (v := Value.bool v141) rfl ?_
        obtain ⟨v148, hC, H⟩ := bind_some H
        refine wpq_split 3 (K := fun e r ds w => e = .normal ∧ ∃ (G149 : Gh), ds = [] ∧ G142 ≤ G149 ∧ Has [(1, Value.pointer (some ⟨g14, 0, none⟩)), (2, Value.slice A27 y26.length c28), (4, Value.slice A42 y41.length c43), (6, Value.slice A57 y56.length c58), (8, Value.slice A72 y71.length c73), (10, Value.slice A87 y86.length c88), (13, Value.int .i64 y108), (64, Value.bool v148)] r ∧ Hp G149 (bx g14 [Value.int .i64 2, Value.int .i64 2, Value.slice (some ⟨g6, 0, none⟩) ([(⟨#[99, 107]⟩ : ByteArray)] : List ByteArray).length 1] 24 :: tk (Value.slice A102 y101.length c103) 2 37 :: tk (Value.slice A87 y86.length c88) 1 9 :: tk (Value.slice A72 y71.length c73) 2 37 :: tk (Value.slice A57 y56.length c58) 2 37 :: tk (Value.slice A42 y41.length c43) 2 37 :: tk (Value.slice A27 y26.length c28) 2 37 :: tk (Value.slice (some ⟨g6, 0, none⟩) ([(⟨#[99, 107]⟩ : ByteArray)] : List ByteArray).length 1) 1 9 :: L) w ∧ True) ?_ ?_
        · replace H := hC
          by_cases h154 : v141 = true
          · replace H := ite_yes h154 H
            refine q_mv (v := Value.int .i64 y93) rfl ?_ (hw := guard_yes rfl rfl rfl (bval_yes h154))
            refine q_eql rfl rfl ?_ (hw := guard_yes rfl rfl rfl (bval_yes h154))
            refine q_pick true (v := Value.bool (decide (y93 = 0))) (bval_yes h154) rfl ?_
            refine wpq_nil ?_
            cases H
            exact ⟨rfl, _, rfl, (Gh.le_refl _), ⟨rfl, rfl, rfl, rfl, rfl, rfl, rfl, rfl, trivial⟩, hI145, trivial⟩
          · replace H := ite_no h154 H
            refine wpq_no (guard_no rfl rfl rfl (bval_no h154) rfl) ?_
            refine wpq_no (guard_no rfl rfl rfl (bval_no h154) rfl) ?_
            refine q_pick false (v := Value.bool false) (bval_no h154) rfl ?_
            refine wpq_nil ?_
            cases H
            exact ⟨rfl, _, rfl, (Gh.le_refl _), ⟨rfl, rfl, rfl, rfl, rfl, rfl, rfl, rfl, trivial⟩, hI145, trivial⟩
        · clear hC
          rintro e r ds wd151 ⟨rfl, G149, rfl, hG150, hHas, hI152, _⟩
          rw [hHas.eq]; clear hHas
          refine q_mv (v := Value.bool v148) rfl ?_
          obtain ⟨v155, hC, H⟩ := bind_some H
          refine wpq_split 3 (K := fun e r ds w => e = .normal ∧ ∃ (G156 : Gh), ds = [] ∧ G149 ≤ G156 ∧ Has [(1, Value.pointer (some ⟨g14, 0, none⟩)), (2, Value.slice A27 y26.length c28), (4, Value.slice A42 y41.length c43), (6, Value.slice A57 y56.length c58), (8, Value.slice A72 y71.length c73), (10, Value.slice A87 y86.length c88), (68, Value.bool v155)] r ∧ Hp G156 (bx g14 [Value.int .i64 2, Value.int .i64 2, Value.slice (some ⟨g6, 0, none⟩) ([(⟨#[99, 107]⟩ : ByteArray)] : List ByteArray).length 1] 24 :: tk (Value.slice A102 y101.length c103) 2 37 :: tk (Value.slice A87 y86.length c88) 1 9 :: tk (Value.slice A72 y71.length c73) 2 37 :: tk (Value.slice A57 y56.length c58) 2 37 :: tk (Value.slice A42 y41.length c43) 2 37 :: tk (Value.slice A27 y26.length c28) 2 37 :: tk (Value.slice (some ⟨g6, 0, none⟩) ([(⟨#[99, 107]⟩ : ByteArray)] : List ByteArray).length 1) 1 9 :: L) w ∧ True) ?_ ?_
          · replace H := hC
            by_cases h161 : v148 = true
            · replace H := ite_yes h161 H
              refine q_mv (v := Value.int .i64 y108) rfl ?_ (hw := guard_yes rfl rfl rfl (bval_yes h161))
              refine q_eql rfl rfl ?_ (hw := guard_yes rfl rfl rfl (bval_yes h161))
              refine q_pick true (v := Value.bool (decide (y108 = 1))) (bval_yes h161) rfl ?_
              refine wpq_nil ?_
              cases H
              exact ⟨rfl, _, rfl, (Gh.le_refl _), ⟨rfl, rfl, rfl, rfl, rfl, rfl, rfl, trivial⟩, hI152, trivial⟩
            · replace H := ite_no h161 H
              refine wpq_no (guard_no rfl rfl rfl (bval_no h161) rfl) ?_
              refine wpq_no (guard_no rfl rfl rfl (bval_no h161) rfl) ?_
              refine q_pick false (v := Value.bool false) (bval_no h161) rfl ?_
              refine wpq_nil ?_
              cases H
              exact ⟨rfl, _, rfl, (Gh.le_refl _), ⟨rfl, rfl, rfl, rfl, rfl, rfl, rfl, trivial⟩, hI152, trivial⟩
          · clear hC
            rintro e r ds wd158 ⟨rfl, G156, rfl, hG157, hHas, hI159, _⟩
            rw [hHas.eq]; clear hHas
            refine q_mv (v := Value.bool v155) rfl ?_
            obtain ⟨v162, hC, H⟩ := bind_some H
            refine wpq_split 4 (K := fun e r ds w => e = .normal ∧ ∃ (G163 : Gh), ds = [] ∧ G156 ≤ G163 ∧ Has [(1, Value.pointer (some ⟨g14, 0, none⟩)), (2, Value.slice A27 y26.length c28), (4, Value.slice A42 y41.length c43), (8, Value.slice A72 y71.length c73), (10, Value.slice A87 y86.length c88), (73, Value.bool v162)] r ∧ Hp G163 (bx g14 [Value.int .i64 2, Value.int .i64 2, Value.slice (some ⟨g6, 0, none⟩) ([(⟨#[99, 107]⟩ : ByteArray)] : List ByteArray).length 1] 24 :: tk (Value.slice A102 y101.length c103) 2 37 :: tk (Value.slice A87 y86.length c88) 1 9 :: tk (Value.slice A72 y71.length c73) 2 37 :: tk (Value.slice A57 y56.length c58) 2 37 :: tk (Value.slice A42 y41.length c43) 2 37 :: tk (Value.slice A27 y26.length c28) 2 37 :: tk (Value.slice (some ⟨g6, 0, none⟩) ([(⟨#[99, 107]⟩ : ByteArray)] : List ByteArray).length 1) 1 9 :: L) w ∧ True) ?_ ?_
            · replace H := hC
              by_cases h168 : v155 = true
              · replace H := ite_yes h168 H
                refine q_mv (v := Value.slice A57 y56.length c58) rfl ?_ (hw := guard_yes rfl rfl rfl (bval_yes h168))
                refine q_len so26 rfl ?_ (hw := guard_yes rfl rfl rfl (bval_yes h168))
                refine q_eql rfl rfl ?_ (hw := guard_yes rfl rfl rfl (bval_yes h168))
                refine q_pick true (v := Value.bool (decide ((y56.length : Int) = 0))) (bval_yes h168) rfl ?_
                refine wpq_nil ?_
                cases H
                exact ⟨rfl, _, rfl, (Gh.le_refl _), ⟨rfl, rfl, rfl, rfl, rfl, rfl, trivial⟩, hI159, trivial⟩
              · replace H := ite_no h168 H
                refine wpq_no (guard_no rfl rfl rfl (bval_no h168) rfl) ?_
                refine wpq_no (guard_no rfl rfl rfl (bval_no h168) rfl) ?_
                refine wpq_no (guard_no rfl rfl rfl (bval_no h168) rfl) ?_
                refine q_pick false (v := Value.bool false) (bval_no h168) rfl ?_
                refine wpq_nil ?_
                cases H
                exact ⟨rfl, _, rfl, (Gh.le_refl _), ⟨rfl, rfl, rfl, rfl, rfl, rfl, trivial⟩, hI159, trivial⟩
            · clear hC
              rintro e r ds wd165 ⟨rfl, G163, rfl, hG164, hHas, hI166, _⟩
              rw [hHas.eq]; clear hHas
              refine q_mv (v := Value.bool v162) rfl ?_
              obtain ⟨v169, hC, H⟩ := bind_some H
              refine wpq_split 4 (K := fun e r ds w => e = .normal ∧ ∃ (G170 : Gh), ds = [] ∧ G163 ≤ G170 ∧ Has [(1, Value.pointer (some ⟨g14, 0, none⟩)), (2, Value.slice A27 y26.length c28), (4, Value.slice A42 y41.length c43), (10, Value.slice A87 y86.length c88), (78, Value.bool v169)] r ∧ Hp G170 (bx g14 [Value.int .i64 2, Value.int .i64 2, Value.slice (some ⟨g6, 0, none⟩) ([(⟨#[99, 107]⟩ : ByteArray)] : List ByteArray).length 1] 24 :: tk (Value.slice A102 y101.length c103) 2 37 :: tk (Value.slice A87 y86.length c88) 1 9 :: tk (Value.slice A72 y71.length c73) 2 37 :: tk (Value.slice A57 y56.length c58) 2 37 :: tk (Value.slice A42 y41.length c43) 2 37 :: tk (Value.slice A27 y26.length c28) 2 37 :: tk (Value.slice (some ⟨g6, 0, none⟩) ([(⟨#[99, 107]⟩ : ByteArray)] : List ByteArray).length 1) 1 9 :: L) w ∧ True) ?_ ?_
              · replace H := hC
                by_cases h175 : v162 = true
                · replace H := ite_yes h175 H
                  refine q_mv (v := Value.slice A72 y71.length c73) rfl ?_ (hw := guard_yes rfl rfl rfl (bval_yes h175))
                  refine q_len so26 rfl ?_ (hw := guard_yes rfl rfl rfl (bval_yes h175))
                  refine q_eql rfl rfl ?_ (hw := guard_yes rfl rfl rfl (bval_yes h175))
                  refine q_pick true (v := Value.bool (decide ((y71.length : Int) = 0))) (bval_yes h175) rfl ?_
                  refine wpq_nil ?_
                  cases H
                  exact ⟨rfl, _, rfl, (Gh.le_refl _), ⟨rfl, rfl, rfl, rfl, rfl, trivial⟩, hI166, trivial⟩
                · replace H := ite_no h175 H
                  refine wpq_no (guard_no rfl rfl rfl (bval_no h175) rfl) ?_
                  refine wpq_no (guard_no rfl rfl rfl (bval_no h175) rfl) ?_
                  refine wpq_no (guard_no rfl rfl rfl (bval_no h175) rfl) ?_
                  refine q_pick false (v := Value.bool false) (bval_no h175) rfl ?_
                  refine wpq_nil ?_
                  cases H
                  exact ⟨rfl, _, rfl, (Gh.le_refl _), ⟨rfl, rfl, rfl, rfl, rfl, trivial⟩, hI166, trivial⟩
              · clear hC
                rintro e r ds wd172 ⟨rfl, G170, rfl, hG171, hHas, hI173, _⟩
                rw [hHas.eq]; clear hHas
                refine q_as (v := Value.bool v169) rfl ?_
                refine wpq_nil ?_
                refine hK110 _ _ _ ?_
                refine wpc_seq_k fun K176 hK177 => ?_
                refine wpc_region ?_
                refine q_mv (v := Value.bool v169) rfl ?_
                refine q_mv (v := Value.bool v169) rfl ?_
                obtain ⟨v178, hC, H⟩ := bind_some H
                refine wpq_split 6 (K := fun e r ds w => e = .normal ∧ ∃ (G179 : Gh), ds = [] ∧ G170 ≤ G179 ∧ Has [(1, Value.pointer (some ⟨g14, 0, none⟩)), (4, Value.slice A42 y41.length c43), (10, Value.slice A87 y86.length c88), (86, Value.bool v178)] r ∧ Hp G179 (bx g14 [Value.int .i64 2, Value.int .i64 2, Value.slice (some ⟨g6, 0, none⟩) ([(⟨#[99, 107]⟩ : ByteArray)] : List ByteArray).length 1] 24 :: tk (Value.slice A102 y101.length c103) 2 37 :: tk (Value.slice A87 y86.length c88) 1 9 :: tk (Value.slice A72 y71.length c73) 2 37 :: tk (Value.slice A57 y56.length c58) 2 37 :: tk (Value.slice A42 y41.length c43) 2 37 :: tk (Value.slice A27 y26.length c28) 2 37 :: tk (Value.slice (some ⟨g6, 0, none⟩) ([(⟨#[99, 107]⟩ : ByteArray)] : List ByteArray).length 1) 1 9 :: L) w ∧ True) ?_ ?_
                · replace H := hC
                  by_cases h184 : v169 = true
                  · replace H := ite_yes h184 H
                    refine q_mv (v := Value.slice A27 y26.length c28) rfl ?_ (hw := guard_yes rfl rfl rfl (bval_yes h184))
                    refine q_build (vs := [(0, Value.int .i64 3)]) (cs := [Value.int .i64 3, Value.bool false]) ze37 pl37 rfl rfl ?_ (hw := guard_yes rfl rfl rfl (bval_yes h184))
                    refine q_build (vs := [(0, Value.int .i64 6)]) (cs := [Value.int .i64 6, Value.bool false]) ze37 pl37 rfl rfl ?_ (hw := guard_yes rfl rfl rfl (bval_yes h184))
                    refine q_bs hI173 (vs := [(0, Value.agg [Value.int .i64 3, Value.bool false].toArray), (1, Value.agg [Value.int .i64 6, Value.bool false].toArray)]) (cs := [Value.int .i64 3, Value.bool false, Value.int .i64 6, Value.bool false]) el26 ze37 rfl (by decide) rfl rfl (fun g186 wd187 hI188 => ?_) (hw := guard_yes rfl rfl rfl (bval_yes h184))
                    obtain ⟨G189, hG190, hI192, hD191⟩ := Hp.publish (xs := ([(⟨3, false⟩ : api_Break), (⟨6, false⟩ : api_Break)] : List api_Break)) (n := 2) k_api_Break hI188 ⟨[Value.int .i64 3, Value.bool false], _, rfl, (mk_api_Break (x := (⟨3, false⟩ : api_Break))), ⟨[Value.int .i64 6, Value.bool false], _, rfl, (mk_api_Break (x := (⟨6, false⟩ : api_Break))), rfl⟩⟩ rfl
                    obtain ⟨y198, hy193, H⟩ := bind_some H
                    refine q_cv (vs := [Value.slice A27 y26.length c28, Value.slice (some ⟨g186, 0, none⟩) ([(⟨3, false⟩ : api_Break), (⟨6, false⟩ : api_Break)] : List api_Break).length 2]) bo14 rfl rfl (formeref08_Same_spec (a1 := y26) (a6 := ([(⟨3, false⟩ : api_Break), (⟨6, false⟩ : api_Break)] : List api_Break)) hI192 hl29 (Dat.mono (Gh.le_trans (Gh.le_trans (Gh.le_trans (Gh.le_trans (Gh.le_trans (Gh.le_trans (Gh.le_trans (Gh.le_trans (Gh.le_trans (Gh.le_trans (Gh.le_trans (Gh.le_trans hG38 hG53) hG68) hG83) hG98) hG113) hG136) hG143) hG150) hG157) hG164) hG171) hG190) hD30) (show ([(⟨3, false⟩ : api_Break), (⟨6, false⟩ : api_Break)] : List api_Break).length ≤ 2 from Nat.le_of_ble_eq_true rfl) hD191 hy193) ?_ (hw := guard_yes rfl rfl rfl (bval_yes h184))
                    rintro _ wd196 ⟨G194, hG195, hI197, rfl⟩
                    refine ⟨_, rfl, ?_⟩
                    refine q_pick true (v := Value.bool y198) (bval_yes h184) rfl ?_
                    refine wpq_nil ?_
                    have hI199 := Hp.front hI197 8 rfl
                    have hI200 := Hp.front hI199 8 rfl
                    have hI201 := Hp.front hI200 8 rfl
                    have hI202 := Hp.front hI201 8 rfl
                    have hI203 := Hp.front hI202 8 rfl
                    have hI204 := Hp.front hI203 8 rfl
                    have hI205 := Hp.front hI204 8 rfl
                    have hI206 := Hp.front hI205 8 rfl
                    have hI207 := Hp.sub (L := bx g14 [Value.int .i64 2, Value.int .i64 2, Value.slice (some ⟨g6, 0, none⟩) ([(⟨#[99, 107]⟩ : ByteArray)] : List ByteArray).length 1] 24 :: tk (Value.slice A102 y101.length c103) 2 37 :: tk (Value.slice A87 y86.length c88) 1 9 :: tk (Value.slice A72 y71.length c73) 2 37 :: tk (Value.slice A57 y56.length c58) 2 37 :: tk (Value.slice A42 y41.length c43) 2 37 :: tk (Value.slice A27 y26.length c28) 2 37 :: tk (Value.slice (some ⟨g6, 0, none⟩) ([(⟨#[99, 107]⟩ : ByteArray)] : List ByteArray).length 1) 1 9 :: tk (Value.slice (some ⟨g186, 0, none⟩) ([(⟨3, false⟩ : api_Break), (⟨6, false⟩ : api_Break)] : List api_Break).length 2) 2 37 :: L) (L' := bx g14 [Value.int .i64 2, Value.int .i64 2, Value.slice (some ⟨g6, 0, none⟩) ([(⟨#[99, 107]⟩ : ByteArray)] : List ByteArray).length 1] 24 :: tk (Value.slice A102 y101.length c103) 2 37 :: tk (Value.slice A87 y86.length c88) 1 9 :: tk (Value.slice A72 y71.length c73) 2 37 :: tk (Value.slice A57 y56.length c58) 2 37 :: tk (Value.slice A42 y41.length c43) 2 37 :: tk (Value.slice A27 y26.length c28) 2 37 :: tk (Value.slice (some ⟨g6, 0, none⟩) ([(⟨#[99, 107]⟩ : ByteArray)] : List ByteArray).length 1) 1 9 :: L) hI206 (List.Sublist.cons_cons _ (List.Sublist.cons_cons _ (List.Sublist.cons_cons _ (List.Sublist.cons_cons _ (List.Sublist.cons_cons _ (List.Sublist.cons_cons _ (List.Sublist.cons_cons _ (List.Sublist.cons_cons _ (List.Sublist.cons _ (List.Sublist.refl _))))))))))
                    cases H
                    exact ⟨rfl, _, rfl, (Gh.le_trans hG190 hG195), ⟨rfl, rfl, rfl, rfl, trivial⟩, hI207, trivial⟩
                  · replace H := ite_no h184 H
                    refine wpq_no (guard_no rfl rfl rfl (bval_no h184) rfl) ?_
                    refine wpq_no (guard_no rfl rfl rfl (bval_no h184) rfl) ?_
                    refine wpq_no (guard_no rfl rfl rfl (bval_no h184) rfl) ?_
                    refine wpq_no (guard_no rfl rfl rfl (bval_no h184) rfl) ?_
                    refine wpq_no (guard_no rfl rfl rfl (bval_no h184) rfl) ?_
                    refine q_pick false (v := Value.bool false) (bval_no h184) rfl ?_
                    refine wpq_nil ?_
                    cases H
                    exact ⟨rfl, _, rfl, (Gh.le_refl _), ⟨rfl, rfl, rfl, rfl, trivial⟩, hI173, trivial⟩
                · clear hC
                  rintro e r ds wd181 ⟨rfl, G179, rfl, hG180, hHas, hI182, _⟩
                  rw [hHas.eq]; clear hHas
                  refine q_mv (v := Value.bool v178) rfl ?_
                  obtain ⟨v208, hC, H⟩ := bind_some H
                  refine wpq_split 5 (K := fun e r ds w => e = .normal ∧ ∃ (G209 : Gh), ds = [] ∧ G179 ≤ G209 ∧ Has [(1, Value.pointer (some ⟨g14, 0, none⟩)), (10, Value.slice A87 y86.length c88), (92, Value.bool v208)] r ∧ Hp G209 (bx g14 [Value.int .i64 2, Value.int .i64 2, Value.slice (some ⟨g6, 0, none⟩) ([(⟨#[99, 107]⟩ : ByteArray)] : List ByteArray).length 1] 24 :: tk (Value.slice A102 y101.length c103) 2 37 :: tk (Value.slice A87 y86.length c88) 1 9 :: tk (Value.slice A72 y71.length c73) 2 37 :: tk (Value.slice A57 y56.length c58) 2 37 :: tk (Value.slice A42 y41.length c43) 2 37 :: tk (Value.slice A27 y26.length c28) 2 37 :: tk (Value.slice (some ⟨g6, 0, none⟩) ([(⟨#[99, 107]⟩ : ByteArray)] : List ByteArray).length 1) 1 9 :: L) w ∧ True) ?_ ?_
                  · replace H := hC
                    by_cases h214 : v178 = true
                    · replace H := ite_yes h214 H
                      refine q_mv (v := Value.slice A42 y41.length c43) rfl ?_ (hw := guard_yes rfl rfl rfl (bval_yes h214))
                      refine q_build (vs := [(0, Value.int .i64 3), (1, Value.bool true)]) (cs := [Value.int .i64 3, Value.bool true]) ze37 pl37 rfl rfl ?_ (hw := guard_yes rfl rfl rfl (bval_yes h214))
                      refine q_bs hI182 (vs := [(0, Value.agg [Value.int .i64 3, Value.bool true].toArray)]) (cs := [Value.int .i64 3, Value.bool true]) el26 ze37 rfl (by decide) rfl rfl (fun g216 wd217 hI218 => ?_) (hw := guard_yes rfl rfl rfl (bval_yes h214))
                      obtain ⟨G219, hG220, hI222, hD221⟩ := Hp.publish (xs := ([(⟨3, true⟩ : api_Break)] : List api_Break)) (n := 1) k_api_Break hI218 ⟨[Value.int .i64 3, Value.bool true], _, rfl, (mk_api_Break (x := (⟨3, true⟩ : api_Break))), rfl⟩ rfl
                      obtain ⟨y228, hy223, H⟩ := bind_some H
                      refine q_cv (vs := [Value.slice A42 y41.length c43, Value.slice (some ⟨g216, 0, none⟩) ([(⟨3, true⟩ : api_Break)] : List api_Break).length 1]) bo14 rfl rfl (formeref08_Same_spec (a1 := y41) (a6 := ([(⟨3, true⟩ : api_Break)] : List api_Break)) hI222 hl44 (Dat.mono (Gh.le_trans (Gh.le_trans (Gh.le_trans (Gh.le_trans (Gh.le_trans (Gh.le_trans (Gh.le_trans (Gh.le_trans (Gh.le_trans (Gh.le_trans (Gh.le_trans (Gh.le_trans hG53 hG68) hG83) hG98) hG113) hG136) hG143) hG150) hG157) hG164) hG171) hG180) hG220) hD45) (show ([(⟨3, true⟩ : api_Break)] : List api_Break).length ≤ 1 from Nat.le_of_ble_eq_true rfl) hD221 hy223) ?_ (hw := guard_yes rfl rfl rfl (bval_yes h214))
                      rintro _ wd226 ⟨G224, hG225, hI227, rfl⟩
                      refine ⟨_, rfl, ?_⟩
                      refine q_pick true (v := Value.bool y228) (bval_yes h214) rfl ?_
                      refine wpq_nil ?_
                      have hI229 := Hp.front hI227 8 rfl
                      have hI230 := Hp.front hI229 8 rfl
                      have hI231 := Hp.front hI230 8 rfl
                      have hI232 := Hp.front hI231 8 rfl
                      have hI233 := Hp.front hI232 8 rfl
                      have hI234 := Hp.front hI233 8 rfl
                      have hI235 := Hp.front hI234 8 rfl
                      have hI236 := Hp.front hI235 8 rfl
                      have hI237 := Hp.sub (L := bx g14 [Value.int .i64 2, Value.int .i64 2, Value.slice (some ⟨g6, 0, none⟩) ([(⟨#[99, 107]⟩ : ByteArray)] : List ByteArray).length 1] 24 :: tk (Value.slice A102 y101.length c103) 2 37 :: tk (Value.slice A87 y86.length c88) 1 9 :: tk (Value.slice A72 y71.length c73) 2 37 :: tk (Value.slice A57 y56.length c58) 2 37 :: tk (Value.slice A42 y41.length c43) 2 37 :: tk (Value.slice A27 y26.length c28) 2 37 :: tk (Value.slice (some ⟨g6, 0, none⟩) ([(⟨#[99, 107]⟩ : ByteArray)] : List ByteArray).length 1) 1 9 :: tk (Value.slice (some ⟨g216, 0, none⟩) ([(⟨3, true⟩ : api_Break)] : List api_Break).length 1) 2 37 :: L) (L' := bx g14 [Value.int .i64 2, Value.int .i64 2, Value.slice (some ⟨g6, 0, none⟩) ([(⟨#[99, 107]⟩ : ByteArray)] : List ByteArray).length 1] 24 :: tk (Value.slice A102 y101.length c103) 2 37 :: tk (Value.slice A87 y86.length c88) 1 9 :: tk (Value.slice A72 y71.length c73) 2 37 :: tk (Value.slice A57 y56.length c58) 2 37 :: tk (Value.slice A42 y41.length c43) 2 37 :: tk (Value.slice A27 y26.length c28) 2 37 :: tk (Value.slice (some ⟨g6, 0, none⟩) ([(⟨#[99, 107]⟩ : ByteArray)] : List ByteArray).length 1) 1 9 :: L) hI236 (List.Sublist.cons_cons _ (List.Sublist.cons_cons _ (List.Sublist.cons_cons _ (List.Sublist.cons_cons _ (List.Sublist.cons_cons _ (List.Sublist.cons_cons _ (List.Sublist.cons_cons _ (List.Sublist.cons_cons _ (List.Sublist.cons _ (List.Sublist.refl _))))))))))
                      cases H
                      exact ⟨rfl, _, rfl, (Gh.le_trans hG220 hG225), ⟨rfl, rfl, rfl, trivial⟩, hI237, trivial⟩
                    · replace H := ite_no h214 H
                      refine wpq_no (guard_no rfl rfl rfl (bval_no h214) rfl) ?_
                      refine wpq_no (guard_no rfl rfl rfl (bval_no h214) rfl) ?_
                      refine wpq_no (guard_no rfl rfl rfl (bval_no h214) rfl) ?_
                      refine wpq_no (guard_no rfl rfl rfl (bval_no h214) rfl) ?_
                      refine q_pick false (v := Value.bool false) (bval_no h214) rfl ?_
                      refine wpq_nil ?_
                      cases H
                      exact ⟨rfl, _, rfl, (Gh.le_refl _), ⟨rfl, rfl, rfl, trivial⟩, hI182, trivial⟩
                  · clear hC
                    rintro e r ds wd211 ⟨rfl, G209, rfl, hG210, hHas, hI212, _⟩
                    rw [hHas.eq]; clear hHas
                    refine q_as (v := Value.bool v208) rfl ?_
                    refine wpq_nil ?_
                    refine hK177 _ _ _ ?_
                    refine wpc_seq_k fun K238 hK239 => ?_
                    refine wpc_region ?_
                    refine q_mv (v := Value.bool v208) rfl ?_
                    refine q_mv (v := Value.bool v208) rfl ?_
                    obtain ⟨v240, hC, H⟩ := bind_some H
                    refine wpq_split 4 (K := fun e r ds w => e = .normal ∧ ∃ (G241 : Gh), ds = [] ∧ G209 ≤ G241 ∧ Has [(1, Value.pointer (some ⟨g14, 0, none⟩)), (98, Value.bool v240)] r ∧ Hp G241 (bx g14 [Value.int .i64 2, Value.int .i64 2, Value.slice (some ⟨g6, 0, none⟩) ([(⟨#[99, 107]⟩ : ByteArray)] : List ByteArray).length 1] 24 :: tk (Value.slice A102 y101.length c103) 2 37 :: tk (Value.slice A87 y86.length c88) 1 9 :: tk (Value.slice A72 y71.length c73) 2 37 :: tk (Value.slice A57 y56.length c58) 2 37 :: tk (Value.slice A42 y41.length c43) 2 37 :: tk (Value.slice A27 y26.length c28) 2 37 :: tk (Value.slice (some ⟨g6, 0, none⟩) ([(⟨#[99, 107]⟩ : ByteArray)] : List ByteArray).length 1) 1 9 :: L) w ∧ True) ?_ ?_
                    · replace H := hC
                      by_cases h246 : v208 = true
                      · replace H := ite_yes h246 H
                        refine q_mv (v := Value.slice A87 y86.length c88) rfl ?_ (hw := guard_yes rfl rfl rfl (bval_yes h246))
                        refine q_bs hI212 (vs := [(0, Value.string (⟨#[97, 98, 45]⟩ : ByteArray)), (1, Value.string (⟨#[99, 100]⟩ : ByteArray)), (2, Value.string (⟨#[101, 102]⟩ : ByteArray))]) (cs := [Value.string (⟨#[97, 98, 45]⟩ : ByteArray), Value.string (⟨#[99, 100]⟩ : ByteArray), Value.string (⟨#[101, 102]⟩ : ByteArray)]) el22 ze9 rfl (by decide) rfl rfl (fun g248 wd249 hI250 => ?_) (hw := guard_yes rfl rfl rfl (bval_yes h246))
                        obtain ⟨G251, hG252, hI254, hD253⟩ := Hp.publish (xs := ([(⟨#[97, 98, 45]⟩ : ByteArray), (⟨#[99, 100]⟩ : ByteArray), (⟨#[101, 102]⟩ : ByteArray)] : List ByteArray)) (n := 3) Kd.str hI250 ⟨[Value.string (⟨#[97, 98, 45]⟩ : ByteArray)], _, rfl, rfl, ⟨[Value.string (⟨#[99, 100]⟩ : ByteArray)], _, rfl, rfl, ⟨[Value.string (⟨#[101, 102]⟩ : ByteArray)], _, rfl, rfl, rfl⟩⟩⟩ rfl
                        obtain ⟨y260, hy255, H⟩ := bind_some H
                        refine q_cv (vs := [Value.slice A87 y86.length c88, Value.slice (some ⟨g248, 0, none⟩) ([(⟨#[97, 98, 45]⟩ : ByteArray), (⟨#[99, 100]⟩ : ByteArray), (⟨#[101, 102]⟩ : ByteArray)] : List ByteArray).length 3]) bo17 rfl rfl (formeref08_SameTexts_spec (a1 := y86) (a6 := ([(⟨#[97, 98, 45]⟩ : ByteArray), (⟨#[99, 100]⟩ : ByteArray), (⟨#[101, 102]⟩ : ByteArray)] : List ByteArray)) hI254 hl89 (Dat.mono (Gh.le_trans (Gh.le_trans (Gh.le_trans (Gh.le_trans (Gh.le_trans (Gh.le_trans (Gh.le_trans (Gh.le_trans (Gh.le_trans (Gh.le_trans hG98 hG113) hG136) hG143) hG150) hG157) hG164) hG171) hG180) hG210) hG252) hD90) (show ([(⟨#[97, 98, 45]⟩ : ByteArray), (⟨#[99, 100]⟩ : ByteArray), (⟨#[101, 102]⟩ : ByteArray)] : List ByteArray).length ≤ 3 from Nat.le_of_ble_eq_true rfl) hD253 hy255) ?_ (hw := guard_yes rfl rfl rfl (bval_yes h246))
                        rintro _ wd258 ⟨G256, hG257, hI259, rfl⟩
                        refine ⟨_, rfl, ?_⟩
                        refine q_pick true (v := Value.bool y260) (bval_yes h246) rfl ?_
                        refine wpq_nil ?_
                        have hI261 := Hp.front hI259 8 rfl
                        have hI262 := Hp.front hI261 8 rfl
                        have hI263 := Hp.front hI262 8 rfl
                        have hI264 := Hp.front hI263 8 rfl
                        have hI265 := Hp.front hI264 8 rfl
                        have hI266 := Hp.front hI265 8 rfl
                        have hI267 := Hp.front hI266 8 rfl
                        have hI268 := Hp.front hI267 8 rfl
                        have hI269 := Hp.sub (L := bx g14 [Value.int .i64 2, Value.int .i64 2, Value.slice (some ⟨g6, 0, none⟩) ([(⟨#[99, 107]⟩ : ByteArray)] : List ByteArray).length 1] 24 :: tk (Value.slice A102 y101.length c103) 2 37 :: tk (Value.slice A87 y86.length c88) 1 9 :: tk (Value.slice A72 y71.length c73) 2 37 :: tk (Value.slice A57 y56.length c58) 2 37 :: tk (Value.slice A42 y41.length c43) 2 37 :: tk (Value.slice A27 y26.length c28) 2 37 :: tk (Value.slice (some ⟨g6, 0, none⟩) ([(⟨#[99, 107]⟩ : ByteArray)] : List ByteArray).length 1) 1 9 :: tk (Value.slice (some ⟨g248, 0, none⟩) ([(⟨#[97, 98, 45]⟩ : ByteArray), (⟨#[99, 100]⟩ : ByteArray), (⟨#[101, 102]⟩ : ByteArray)] : List ByteArray).length 3) 1 9 :: L) (L' := bx g14 [Value.int .i64 2, Value.int .i64 2, Value.slice (some ⟨g6, 0, none⟩) ([(⟨#[99, 107]⟩ : ByteArray)] : List ByteArray).length 1] 24 :: tk (Value.slice A102 y101.length c103) 2 37 :: tk (Value.slice A87 y86.length c88) 1 9 :: tk (Value.slice A72 y71.length c73) 2 37 :: tk (Value.slice A57 y56.length c58) 2 37 :: tk (Value.slice A42 y41.length c43) 2 37 :: tk (Value.slice A27 y26.length c28) 2 37 :: tk (Value.slice (some ⟨g6, 0, none⟩) ([(⟨#[99, 107]⟩ : ByteArray)] : List ByteArray).length 1) 1 9 :: L) hI268 (List.Sublist.cons_cons _ (List.Sublist.cons_cons _ (List.Sublist.cons_cons _ (List.Sublist.cons_cons _ (List.Sublist.cons_cons _ (List.Sublist.cons_cons _ (List.Sublist.cons_cons _ (List.Sublist.cons_cons _ (List.Sublist.cons _ (List.Sublist.refl _))))))))))
                        cases H
                        exact ⟨rfl, _, rfl, (Gh.le_trans hG252 hG257), ⟨rfl, rfl, trivial⟩, hI269, trivial⟩
                      · replace H := ite_no h246 H
                        refine wpq_no (guard_no rfl rfl rfl (bval_no h246) rfl) ?_
                        refine wpq_no (guard_no rfl rfl rfl (bval_no h246) rfl) ?_
                        refine wpq_no (guard_no rfl rfl rfl (bval_no h246) rfl) ?_
                        refine q_pick false (v := Value.bool false) (bval_no h246) rfl ?_
                        refine wpq_nil ?_
                        cases H
                        exact ⟨rfl, _, rfl, (Gh.le_refl _), ⟨rfl, rfl, trivial⟩, hI212, trivial⟩
                    · clear hC
                      rintro e r ds wd243 ⟨rfl, G241, rfl, hG242, hHas, hI244, _⟩
                      rw [hHas.eq]; clear hHas
                      refine q_mv (v := Value.bool v240) rfl ?_
                      obtain ⟨v270, hC, H⟩ := bind_some H
                      refine wpq_split 3 (K := fun e r ds w => e = .normal ∧ ∃ (G271 : Gh), ds = [] ∧ G241 ≤ G271 ∧ Has [(102, Value.bool v270)] r ∧ Hp G271 (bx g14 [Value.int .i64 2, Value.int .i64 2, Value.slice (some ⟨g6, 0, none⟩) ([(⟨#[99, 107]⟩ : ByteArray)] : List ByteArray).length 1] 24 :: tk (Value.slice A102 y101.length c103) 2 37 :: tk (Value.slice A87 y86.length c88) 1 9 :: tk (Value.slice A72 y71.length c73) 2 37 :: tk (Value.slice A57 y56.length c58) 2 37 :: tk (Value.slice A42 y41.length c43) 2 37 :: tk (Value.slice A27 y26.length c28) 2 37 :: tk (Value.slice (some ⟨g6, 0, none⟩) ([(⟨#[99, 107]⟩ : ByteArray)] : List ByteArray).length 1) 1 9 :: L) w ∧ True) ?_ ?_
                      · replace H := hC
                        by_cases h276 : v240 = true
                        · replace H := ite_yes h276 H
                          refine q_ldA hI244 0 (cs := [Value.int .i64 2, Value.int .i64 2, Value.slice (some ⟨g6, 0, none⟩) ([(⟨#[99, 107]⟩ : ByteArray)] : List ByteArray).length 1]) ag24 rfl rfl rfl rfl ?_ (hw := guard_yes rfl rfl rfl (bval_yes h276))
                          obtain ⟨y282, hy277, H⟩ := bind_some H
                          refine q_cv (vs := [Value.agg [Value.int .i64 2, Value.int .i64 2, Value.slice (some ⟨g6, 0, none⟩) ([(⟨#[99, 107]⟩ : ByteArray)] : List ByteArray).length 1].toArray]) bo12 rfl rfl (breaks_Valid_spec (a1 := (⟨2, 2, ([(⟨#[99, 107]⟩ : ByteArray)] : List ByteArray)⟩ : api_Breaks)) hI244 (show ([(⟨#[99, 107]⟩ : ByteArray)] : List ByteArray).length ≤ 1 from Nat.le_of_ble_eq_true rfl) (Dat.mono (Gh.le_trans (Gh.le_trans (Gh.le_trans (Gh.le_trans (Gh.le_trans (Gh.le_trans (Gh.le_trans (Gh.le_trans (Gh.le_trans (Gh.le_trans (Gh.le_trans (Gh.le_trans (Gh.le_trans (Gh.le_trans (Gh.le_trans hG23 hG38) hG53) hG68) hG83) hG98) hG113) hG136) hG143) hG150) hG157) hG164) hG171) hG180) hG210) hG242) hD11) hy277) ?_ (hw := guard_yes rfl rfl rfl (bval_yes h276))
                          rintro _ wd280 ⟨G278, hG279, hI281, rfl⟩
                          refine ⟨_, rfl, ?_⟩
                          refine q_pick true (v := Value.bool y282) (bval_yes h276) rfl ?_
                          refine wpq_nil ?_
                          cases H
                          exact ⟨rfl, _, rfl, hG279, ⟨rfl, trivial⟩, hI281, trivial⟩
                        · replace H := ite_no h276 H
                          refine wpq_no (guard_no rfl rfl rfl (bval_no h276) rfl) ?_
                          refine wpq_no (guard_no rfl rfl rfl (bval_no h276) rfl) ?_
                          refine q_pick false (v := Value.bool false) (bval_no h276) rfl ?_
                          refine wpq_nil ?_
                          cases H
                          exact ⟨rfl, _, rfl, (Gh.le_refl _), ⟨rfl, trivial⟩, hI244, trivial⟩
                      · clear hC
                        rintro e r ds wd273 ⟨rfl, G271, rfl, hG272, hHas, hI274, _⟩
                        rw [hHas.eq]; clear hHas
                        refine q_as (v := Value.bool v270) rfl ?_
                        refine wpq_nil ?_
                        refine hK239 _ _ _ ?_
                        refine wpc_ret ?_
                        have hI283 := Hp.sub (L := bx g14 [Value.int .i64 2, Value.int .i64 2, Value.slice (some ⟨g6, 0, none⟩) ([(⟨#[99, 107]⟩ : ByteArray)] : List ByteArray).length 1] 24 :: tk (Value.slice A102 y101.length c103) 2 37 :: tk (Value.slice A87 y86.length c88) 1 9 :: tk (Value.slice A72 y71.length c73) 2 37 :: tk (Value.slice A57 y56.length c58) 2 37 :: tk (Value.slice A42 y41.length c43) 2 37 :: tk (Value.slice A27 y26.length c28) 2 37 :: tk (Value.slice (some ⟨g6, 0, none⟩) ([(⟨#[99, 107]⟩ : ByteArray)] : List ByteArray).length 1) 1 9 :: L) (L' := L) hI274 (List.Sublist.cons _ (List.Sublist.cons _ (List.Sublist.cons _ (List.Sublist.cons _ (List.Sublist.cons _ (List.Sublist.cons _ (List.Sublist.cons _ (List.Sublist.cons _ (List.Sublist.refl _)))))))))
                        cases H
                        exact ⟨.inr rfl, rfl, _, ⟨_, _, rfl, rfl, rfl⟩, _, (Gh.le_trans (Gh.le_trans (Gh.le_trans (Gh.le_trans (Gh.le_trans (Gh.le_trans (Gh.le_trans (Gh.le_trans (Gh.le_trans (Gh.le_trans (Gh.le_trans (Gh.le_trans (Gh.le_trans (Gh.le_trans (Gh.le_trans (Gh.le_trans (Gh.le_trans hG10 hG23) hG38) hG53) hG68) hG83) hG98) hG113) hG136) hG143) hG150) hG157) hG164) hG171) hG180) hG210) hG242) hG272), hI283, rfl⟩
set_option maxHeartbeats 1000000 in
theorem formeref08_Valid_spec {a1 : api_Breaks} {A2 : Option Addr} {c3 : Nat} {r1180 : Bool} {G : Gh} {L : List Itm} {w : World} (hI : Hp G (L) w) (hl4 : a1.Keep.length ≤ c3) (hD5 : Dat Kd.str G A2 a1.Keep) (H : formeref08_Valid a1 = some r1180) :
    Calls Tryd.prog 13 [Value.agg [Value.int .i64 a1.Before, Value.int .i64 a1.Behind, Value.slice A2 a1.Keep.length c3].toArray].toArray w fun e w' => ∃ (G' : Gh), G ≤ G' ∧ Hp G' (L) w' ∧ e = .returned (Value.bool r1180) := by
  refine calls_intro (N := 77) Tryd.func13 rfl rfl (Nat.le_of_ble_eq_true rfl) ?_
  unfold formeref08_Valid at H
  refine wpc_seq_k fun K6 hK7 => ?_
  refine wpc_region ?_
  refine q_box hI (v := Value.agg [Value.int .i64 a1.Before, Value.int .i64 a1.Behind, Value.slice A2 a1.Keep.length c3].toArray) (vs := [Value.int .i64 a1.Before, Value.int .i64 a1.Behind, Value.slice A2 a1.Keep.length c3]) rfl rfl (fun g9 wd10 hI11 => ?_)
  refine q_as (v := Value.bool false) rfl ?_
  refine wpq_nil ?_
  refine hK7 _ _ _ ?_
  refine wpc_seq_k fun K12 hK13 => ?_
  refine wpc_seq_k fun K14 hK15 => ?_
  refine wpc_region ?_
  refine q_fa (a' := ⟨g9, 0, none⟩) fl24_0 rfl (add_plain _ _ _) ?_
  refine q_ld hI11 0 (v := Value.int .i64 a1.Before) ag3 rfl rfl rfl ?_
  refine q_lss rfl rfl ?_
  refine q_mv (v := Value.bool (decide (a1.Before < 1))) rfl ?_
  obtain ⟨v16, hC, H⟩ := bind_some H
  refine wpq_split 4 (K := fun e r ds w => e = .normal ∧ ∃ (G17 : Gh), ds = [] ∧ G ≤ G17 ∧ Has [(1, Value.pointer (some ⟨g9, 0, none⟩)), (13, Value.bool v16)] r ∧ Hp G17 (bx g9 [Value.int .i64 a1.Before, Value.int .i64 a1.Behind, Value.slice A2 a1.Keep.length c3] 24 :: L) w ∧ True) ?_ ?_
  · replace H := hC
    by_cases h22 : a1.Before < 1
    · replace H := ite_yes h22 H
      refine wpq_no (guard_no rfl rfl rfl (bool_yes h22) rfl) ?_
      refine wpq_no (guard_no rfl rfl rfl (bool_yes h22) rfl) ?_
      refine wpq_no (guard_no rfl rfl rfl (bool_yes h22) rfl) ?_
      refine q_pick true (v := Value.bool true) (bool_yes h22) rfl ?_
      refine wpq_nil ?_
      cases H
      exact ⟨rfl, _, rfl, (Gh.le_refl _), ⟨rfl, rfl, trivial⟩, hI11, trivial⟩
    · replace H := ite_no h22 H
      refine q_fa (a' := ⟨g9, 0, none⟩) fl24_0 rfl (add_plain _ _ _) ?_ (hw := guard_yes rfl rfl rfl (bool_no h22))
      refine q_ld hI11 0 (v := Value.int .i64 a1.Before) ag3 rfl rfl rfl ?_ (hw := guard_yes rfl rfl rfl (bool_no h22))
      refine q_gtr rfl rfl ?_ (hw := guard_yes rfl rfl rfl (bool_no h22))
      refine q_pick false (v := Value.bool (decide (5 < a1.Before))) (bool_no h22) rfl ?_
      refine wpq_nil ?_
      cases H
      exact ⟨rfl, _, rfl, (Gh.le_refl _), ⟨rfl, rfl, trivial⟩, hI11, trivial⟩
  · clear hC
    rintro e r ds wd19 ⟨rfl, G17, rfl, hG18, hHas, hI20, _⟩
    rw [hHas.eq]; clear hHas
    refine q_mv (v := Value.bool v16) rfl ?_
    obtain ⟨v23, hC, H⟩ := bind_some H
    refine wpq_split 4 (K := fun e r ds w => e = .normal ∧ ∃ (G24 : Gh), ds = [] ∧ G17 ≤ G24 ∧ Has [(1, Value.pointer (some ⟨g9, 0, none⟩)), (18, Value.bool v23)] r ∧ Hp G24 (bx g9 [Value.int .i64 a1.Before, Value.int .i64 a1.Behind, Value.slice A2 a1.Keep.length c3] 24 :: L) w ∧ True) ?_ ?_
    · replace H := hC
      by_cases h29 : v16 = true
      · replace H := ite_yes h29 H
        refine wpq_no (guard_no rfl rfl rfl (bval_yes h29) rfl) ?_
        refine wpq_no (guard_no rfl rfl rfl (bval_yes h29) rfl) ?_
        refine wpq_no (guard_no rfl rfl rfl (bval_yes h29) rfl) ?_
        refine q_pick true (v := Value.bool true) (bval_yes h29) rfl ?_
        refine wpq_nil ?_
        cases H
        exact ⟨rfl, _, rfl, (Gh.le_refl _), ⟨rfl, rfl, trivial⟩, hI20, trivial⟩
      · replace H := ite_no h29 H
        refine q_fa (a' := ⟨g9, 1, none⟩) fl24_1 rfl (add_plain _ _ _) ?_ (hw := guard_yes rfl rfl rfl (bval_no h29))
        refine q_ld hI20 0 (v := Value.int .i64 a1.Behind) ag3 rfl rfl rfl ?_ (hw := guard_yes rfl rfl rfl (bval_no h29))
        refine q_lss rfl rfl ?_ (hw := guard_yes rfl rfl rfl (bval_no h29))
        refine q_pick false (v := Value.bool (decide (a1.Behind < 1))) (bval_no h29) rfl ?_
        refine wpq_nil ?_
        cases H
        exact ⟨rfl, _, rfl, (Gh.le_refl _), ⟨rfl, rfl, trivial⟩, hI20, trivial⟩
    · clear hC
      rintro e r ds wd26 ⟨rfl, G24, rfl, hG25, hHas, hI27, _⟩
      rw [hHas.eq]; clear hHas
      refine q_mv (v := Value.bool v23) rfl ?_
      obtain ⟨v30, hC, H⟩ := bind_some H
      refine wpq_split 4 (K := fun e r ds w => e = .normal ∧ ∃ (G31 : Gh), ds = [] ∧ G24 ≤ G31 ∧ Has [(1, Value.pointer (some ⟨g9, 0, none⟩)), (23, Value.bool v30)] r ∧ Hp G31 (bx g9 [Value.int .i64 a1.Before, Value.int .i64 a1.Behind, Value.slice A2 a1.Keep.length c3] 24 :: L) w ∧ True) ?_ ?_
      · replace H := hC
        by_cases h36 : v23 = true
        · replace H := ite_yes h36 H
          refine wpq_no (guard_no rfl rfl rfl (bval_yes h36) rfl) ?_
          refine wpq_no (guard_no rfl rfl rfl (bval_yes h36) rfl) ?_
          refine wpq_no (guard_no rfl rfl rfl (bval_yes h36) rfl) ?_
          refine q_pick true (v := Value.bool true) (bval_yes h36) rfl ?_
          refine wpq_nil ?_
          cases H
          exact ⟨rfl, _, rfl, (Gh.le_refl _), ⟨rfl, rfl, trivial⟩, hI27, trivial⟩
        · replace H := ite_no h36 H
          refine q_fa (a' := ⟨g9, 1, none⟩) fl24_1 rfl (add_plain _ _ _) ?_ (hw := guard_yes rfl rfl rfl (bval_no h36))
          refine q_ld hI27 0 (v := Value.int .i64 a1.Behind) ag3 rfl rfl rfl ?_ (hw := guard_yes rfl rfl rfl (bval_no h36))
          refine q_gtr rfl rfl ?_ (hw := guard_yes rfl rfl rfl (bval_no h36))
          refine q_pick false (v := Value.bool (decide (5 < a1.Behind))) (bval_no h36) rfl ?_
          refine wpq_nil ?_
          cases H
          exact ⟨rfl, _, rfl, (Gh.le_refl _), ⟨rfl, rfl, trivial⟩, hI27, trivial⟩
      · clear hC
        rintro e r ds wd33 ⟨rfl, G31, rfl, hG32, hHas, hI34, _⟩
        rw [hHas.eq]; clear hHas
        refine q_mv (v := Value.bool v30) rfl ?_
        obtain ⟨v37, hC, H⟩ := bind_some H
        refine wpq_split 5 (K := fun e r ds w => e = .normal ∧ ∃ (G38 : Gh), ds = [] ∧ G31 ≤ G38 ∧ Has [(1, Value.pointer (some ⟨g9, 0, none⟩)), (29, Value.bool v37)] r ∧ Hp G38 (bx g9 [Value.int .i64 a1.Before, Value.int .i64 a1.Behind, Value.slice A2 a1.Keep.length c3] 24 :: L) w ∧ True) ?_ ?_
        · replace H := hC
          by_cases h43 : v30 = true
          · replace H := ite_yes h43 H
            refine wpq_no (guard_no rfl rfl rfl (bval_yes h43) rfl) ?_
            refine wpq_no (guard_no rfl rfl rfl (bval_yes h43) rfl) ?_
            refine wpq_no (guard_no rfl rfl rfl (bval_yes h43) rfl) ?_
            refine wpq_no (guard_no rfl rfl rfl (bval_yes h43) rfl) ?_
            refine q_pick true (v := Value.bool true) (bval_yes h43) rfl ?_
            refine wpq_nil ?_
            cases H
            exact ⟨rfl, _, rfl, (Gh.le_refl _), ⟨rfl, rfl, trivial⟩, hI34, trivial⟩
          · replace H := ite_no h43 H
            refine q_fa (a' := ⟨g9, 2, none⟩) fl24_2 rfl (add_plain _ _ _) ?_ (hw := guard_yes rfl rfl rfl (bval_no h43))
            refine q_ld hI34 0 (v := Value.slice A2 a1.Keep.length c3) ag22 rfl rfl rfl ?_ (hw := guard_yes rfl rfl rfl (bval_no h43))
            refine q_len so22 rfl ?_ (hw := guard_yes rfl rfl rfl (bval_no h43))
            refine q_gtr rfl rfl ?_ (hw := guard_yes rfl rfl rfl (bval_no h43))
            refine q_pick false (v := Value.bool (decide (20 < (a1.Keep.length : Int)))) (bval_no h43) rfl ?_
            refine wpq_nil ?_
            cases H
            exact ⟨rfl, _, rfl, (Gh.le_refl _), ⟨rfl, rfl, trivial⟩, hI34, trivial⟩
        · clear hC
          rintro e r ds wd40 ⟨rfl, G38, rfl, hG39, hHas, hI41, _⟩
          rw [hHas.eq]; clear hHas
          refine wpq_nil ?_
          refine hK15 _ _ _ ?_
          by_cases h44 : v37 = true
          · replace H := ite_yes h44 H
            refine wpc_true (bval_yes h44) ?_
            refine wpc_seq_k fun K45 hK46 => ?_
            refine wpc_region ?_
            refine q_as (v := Value.bool false) rfl ?_
            refine wpq_nil ?_
            refine hK46 _ _ _ ?_
            refine wpc_ret ?_
            have hI47 := Hp.sub (L := bx g9 [Value.int .i64 a1.Before, Value.int .i64 a1.Behind, Value.slice A2 a1.Keep.length c3] 24 :: L) (L' := L) hI41 (List.Sublist.cons _ (List.Sublist.refl _))
            cases H
            exact ⟨.inr rfl, rfl, _, ⟨_, _, rfl, rfl, rfl⟩, _, (Gh.le_trans (Gh.le_trans (Gh.le_trans hG18 hG25) hG32) hG39), hI47, rfl⟩
          · replace H := ite_no h44 H
            refine wpc_false (bval_no h44) ?_
            refine wpc_skip ?_
            refine hK13 _ _ _ ?_
            refine wpc_seq_k fun K48 hK49 => ?_
            refine wpc_seq_k fun K50 hK51 => ?_
            refine wpc_region ?_
            refine q_as (v := Value.int .i64 0) rfl ?_
            refine wpq_nil ?_
            refine hK51 _ _ _ ?_
            refine wpc_block ?_
            obtain ⟨o71, hC, H⟩ := bind_some H
            refine wpc_mono (Q := fun e r ds w => match (generalizing := false) o71 with | (Sum.inl _) => e = .ret ∧ ∃ (G63 : Gh), ds = [] ∧ G38 ≤ G63 ∧ Has [(2, Value.bool false)] r ∧ Hp G63 (bx g9 [Value.int .i64 a1.Before, Value.int .i64 a1.Behind, Value.slice A2 a1.Keep.length c3] 24 :: L) w ∧ True | (Sum.inr _) => e = .exit 0 ∧ ∃ (G67 : Gh), ds = [] ∧ G38 ≤ G67 ∧ Has [] r ∧ Hp G67 (bx g9 [Value.int .i64 a1.Before, Value.int .i64 a1.Behind, Value.slice A2 a1.Keep.length c3] 24 :: L) w ∧ True) ?_ ?_
            · clear H
              refine wpc_loop fun I hLp => ?_
              refine formeref08_Valid_l62.partial_correctness a1 (fun v56 o => ∀ (G72 : Gh) (r : Rg) (w : World), G38 ≤ G72 → Has [(1, Value.pointer (some ⟨g9, 0, none⟩)), (3, Value.int .i64 v56)] r → Hp G72 (bx g9 [Value.int .i64 a1.Before, Value.int .i64 a1.Behind, Value.slice A2 a1.Keep.length c3] 24 :: L) w → o = o71 → I r [] w) ?_ 0 _ hC _ _ _ (Gh.le_refl _) ⟨rfl, rfl, trivial⟩ hI41 rfl
              intro _ ih v56 o H G72 r wd74 hG73 hHas hI75 ho
              rw [ho] at H; clear ho
              rw [hHas.eq]; clear hHas
              refine hLp _ _ _ ?_
              refine wpc_seq_k fun K76 hK77 => ?_
              refine wpc_seq_k fun K78 hK79 => ?_
              refine wpc_region ?_
              refine q_mv (v := Value.int .i64 v56) rfl ?_
              refine q_fa (a' := ⟨g9, 2, none⟩) fl24_2 rfl (add_plain _ _ _) ?_
              refine q_ld hI75 0 (v := Value.slice A2 a1.Keep.length c3) ag22 rfl rfl rfl ?_
              refine q_len so22 rfl ?_
              refine q_lss rfl rfl ?_
              refine wpq_nil ?_
              refine hK79 _ _ _ ?_
              by_cases h80 : v56 < (a1.Keep.length : Int)
              · replace H := ite_yes h80 H
                refine wpc_true (bool_yes h80) ?_
                refine wpc_skip ?_
                refine hK77 _ _ _ ?_
                refine wpc_seq_k fun K81 hK82 => ?_
                refine wpc_block ?_
                refine wpc_seq_k fun K83 hK84 => ?_
                refine wpc_region ?_
                refine q_fa (a' := ⟨g9, 2, none⟩) fl24_2 rfl (add_plain _ _ _) ?_
                refine q_ld hI75 0 (v := Value.slice A2 a1.Keep.length c3) ag22 rfl rfl rfl ?_
                refine q_mv (v := Value.int .i64 v56) rfl ?_
                obtain ⟨⟨h85, h85'⟩, H⟩ := ite_some H
                obtain ⟨ad86, cs87, hA88, hK89, hn90, hc91⟩ := Dat.get (Dat.mono (Gh.le_trans (Gh.le_trans (Gh.le_trans (Gh.le_trans hG18 hG25) hG32) hG39) hG73) hD5) (⟨#[]⟩ : ByteArray) (v56) h85 h85'
                obtain rfl := hK89
                refine q_ia el22 rfl hA88 rfl h85 h85' ?_
                refine q_lf hI75 (v := Value.string (a1.Keep.getD (Int.toNat v56) (⟨#[]⟩ : ByteArray))) ag9 rfl ((Gh.le_refl _).cel _ _ (hc91 0 _ rfl)) ?_
                refine q_as (v := Value.string (a1.Keep.getD (Int.toNat v56) (⟨#[]⟩ : ByteArray))) rfl ?_
                refine wpq_nil ?_
                refine hK84 _ _ _ ?_
                refine wpc_seq_k fun K92 hK93 => ?_
                refine wpc_seq_k fun K94 hK95 => ?_
                refine wpc_region ?_
                refine q_mv (v := Value.string (a1.Keep.getD (Int.toNat v56) (⟨#[]⟩ : ByteArray))) rfl ?_
                refine q_lens so9 rfl ?_
                refine q_neq rfl rfl ?_
                refine q_mv (v := Value.bool (decide (¬ ((a1.Keep.getD (Int.toNat v56) (⟨#[]⟩ : ByteArray)).size : Int) = 2))) rfl ?_
                obtain ⟨v96, hC, H⟩ := bind_some H
                refine wpq_split 4 (K := fun e r ds w => e = .normal ∧ ∃ (G97 : Gh), ds = [] ∧ G72 ≤ G97 ∧ Has [(1, Value.pointer (some ⟨g9, 0, none⟩)), (3, Value.int .i64 v56), (4, Value.string (a1.Keep.getD (Int.toNat v56) (⟨#[]⟩ : ByteArray))), (49, Value.bool v96)] r ∧ Hp G97 (bx g9 [Value.int .i64 a1.Before, Value.int .i64 a1.Behind, Value.slice A2 a1.Keep.length c3] 24 :: L) w ∧ True) ?_ ?_
                · replace H := hC
                  by_cases h102 : ¬ ((a1.Keep.getD (Int.toNat v56) (⟨#[]⟩ : ByteArray)).size : Int) = 2
                  · replace H := ite_yes h102 H
                    refine wpq_no (guard_no rfl rfl rfl (bool_yes h102) rfl) ?_
                    refine wpq_no (guard_no rfl rfl rfl (bool_yes h102) rfl) ?_
                    refine wpq_no (guard_no rfl rfl rfl (bool_yes h102) rfl) ?_
                    refine q_pick true (v := Value.bool true) (bool_yes h102) rfl ?_
                    refine wpq_nil ?_
                    cases H
                    exact ⟨rfl, _, rfl, (Gh.le_refl _), ⟨rfl, rfl, rfl, rfl, trivial⟩, hI75, trivial⟩
                  · replace H := ite_no h102 H
                    refine q_mv (v := Value.string (a1.Keep.getD (Int.toNat v56) (⟨#[]⟩ : ByteArray))) rfl ?_ (hw := guard_yes rfl rfl rfl (bool_no h102))
                    obtain ⟨⟨h103, h103'⟩, H⟩ := ite_some H
                    refine q_is so9 rfl rfl h103 h103' rfl ?_ (hw := guard_yes rfl rfl rfl (bool_no h102))
                    refine q_lss rfl rfl ?_ (hw := guard_yes rfl rfl rfl (bool_no h102))
                    refine q_pick false (v := Value.bool (decide ((bt (a1.Keep.getD (Int.toNat v56) (⟨#[]⟩ : ByteArray)) 0) < 97))) (bool_no h102) rfl ?_
                    refine wpq_nil ?_
                    cases H
                    exact ⟨rfl, _, rfl, (Gh.le_refl _), ⟨rfl, rfl, rfl, rfl, trivial⟩, hI75, trivial⟩
                · clear hC
                  rintro e r ds wd99 ⟨rfl, G97, rfl, hG98, hHas, hI100, _⟩
                  rw [hHas.eq]; clear hHas
                  refine q_mv (v := Value.bool v96) rfl ?_
                  obtain ⟨v104, hC, H⟩ := bind_some H
                  refine wpq_split 4 (K := fun e r ds w => e = .normal ∧ ∃ (G105 : Gh), ds = [] ∧ G97 ≤ G105 ∧ Has [(1, Value.pointer (some ⟨g9, 0, none⟩)), (3, Value.int .i64 v56), (4, Value.string (a1.Keep.getD (Int.toNat v56) (⟨#[]⟩ : ByteArray))), (54, Value.bool v104)] r ∧ Hp G105 (bx g9 [Value.int .i64 a1.Before, Value.int .i64 a1.Behind, Value.slice A2 a1.Keep.length c3] 24 :: L) w ∧ True) ?_ ?_
                  · replace H := hC
                    by_cases h110 : v96 = true
                    · replace H := ite_yes h110 H
                      refine wpq_no (guard_no rfl rfl rfl (bval_yes h110) rfl) ?_
                      refine wpq_no (guard_no rfl rfl rfl (bval_yes h110) rfl) ?_
                      refine wpq_no (guard_no rfl rfl rfl (bval_yes h110) rfl) ?_
                      refine q_pick true (v := Value.bool true) (bval_yes h110) rfl ?_
                      refine wpq_nil ?_
                      cases H
                      exact ⟨rfl, _, rfl, (Gh.le_refl _), ⟨rfl, rfl, rfl, rfl, trivial⟩, hI100, trivial⟩
                    · replace H := ite_no h110 H
                      refine q_mv (v := Value.string (a1.Keep.getD (Int.toNat v56) (⟨#[]⟩ : ByteArray))) rfl ?_ (hw := guard_yes rfl rfl rfl (bval_no h110))
                      obtain ⟨⟨h111, h111'⟩, H⟩ := ite_some H
                      refine q_is so9 rfl rfl h111 h111' rfl ?_ (hw := guard_yes rfl rfl rfl (bval_no h110))
                      refine q_gtr rfl rfl ?_ (hw := guard_yes rfl rfl rfl (bval_no h110))
                      refine q_pick false (v := Value.bool (decide (122 < (bt (a1.Keep.getD (Int.toNat v56) (⟨#[]⟩ : ByteArray)) 0)))) (bval_no h110) rfl ?_
                      refine wpq_nil ?_
                      cases H
                      exact ⟨rfl, _, rfl, (Gh.le_refl _), ⟨rfl, rfl, rfl, rfl, trivial⟩, hI100, trivial⟩
                  · clear hC
                    rintro e r ds wd107 ⟨rfl, G105, rfl, hG106, hHas, hI108, _⟩
                    rw [hHas.eq]; clear hHas
                    refine q_mv (v := Value.bool v104) rfl ?_
                    obtain ⟨v112, hC, H⟩ := bind_some H
                    refine wpq_split 4 (K := fun e r ds w => e = .normal ∧ ∃ (G113 : Gh), ds = [] ∧ G105 ≤ G113 ∧ Has [(1, Value.pointer (some ⟨g9, 0, none⟩)), (3, Value.int .i64 v56), (4, Value.string (a1.Keep.getD (Int.toNat v56) (⟨#[]⟩ : ByteArray))), (59, Value.bool v112)] r ∧ Hp G113 (bx g9 [Value.int .i64 a1.Before, Value.int .i64 a1.Behind, Value.slice A2 a1.Keep.length c3] 24 :: L) w ∧ True) ?_ ?_
                    · replace H := hC
                      by_cases h118 : v104 = true
                      · replace H := ite_yes h118 H
                        refine wpq_no (guard_no rfl rfl rfl (bval_yes h118) rfl) ?_
                        refine wpq_no (guard_no rfl rfl rfl (bval_yes h118) rfl) ?_
                        refine wpq_no (guard_no rfl rfl rfl (bval_yes h118) rfl) ?_
                        refine q_pick true (v := Value.bool true) (bval_yes h118) rfl ?_
                        refine wpq_nil ?_
                        cases H
                        exact ⟨rfl, _, rfl, (Gh.le_refl _), ⟨rfl, rfl, rfl, rfl, trivial⟩, hI108, trivial⟩
                      · replace H := ite_no h118 H
                        refine q_mv (v := Value.string (a1.Keep.getD (Int.toNat v56) (⟨#[]⟩ : ByteArray))) rfl ?_ (hw := guard_yes rfl rfl rfl (bval_no h118))
                        obtain ⟨⟨h119, h119'⟩, H⟩ := ite_some H
                        refine q_is so9 rfl rfl h119 h119' rfl ?_ (hw := guard_yes rfl rfl rfl (bval_no h118))
                        refine q_lss rfl rfl ?_ (hw := guard_yes rfl rfl rfl (bval_no h118))
                        refine q_pick false (v := Value.bool (decide ((bt (a1.Keep.getD (Int.toNat v56) (⟨#[]⟩ : ByteArray)) 1) < 97))) (bval_no h118) rfl ?_
                        refine wpq_nil ?_
                        cases H
                        exact ⟨rfl, _, rfl, (Gh.le_refl _), ⟨rfl, rfl, rfl, rfl, trivial⟩, hI108, trivial⟩
                    · clear hC
                      rintro e r ds wd115 ⟨rfl, G113, rfl, hG114, hHas, hI116, _⟩
                      rw [hHas.eq]; clear hHas
                      refine q_mv (v := Value.bool v112) rfl ?_
                      obtain ⟨v120, hC, H⟩ := bind_some H
                      refine wpq_split 4 (K := fun e r ds w => e = .normal ∧ ∃ (G121 : Gh), ds = [] ∧ G113 ≤ G121 ∧ Has [(1, Value.pointer (some ⟨g9, 0, none⟩)), (3, Value.int .i64 v56), (4, Value.string (a1.Keep.getD (Int.toNat v56) (⟨#[]⟩ : ByteArray))), (64, Value.bool v120)] r ∧ Hp G121 (bx g9 [Value.int .i64 a1.Before, Value.int .i64 a1.Behind, Value.slice A2 a1.Keep.length c3] 24 :: L) w ∧ True) ?_ ?_
                      · replace H := hC
                        by_cases h126 : v112 = true
                        · replace H := ite_yes h126 H
                          refine wpq_no (guard_no rfl rfl rfl (bval_yes h126) rfl) ?_
                          refine wpq_no (guard_no rfl rfl rfl (bval_yes h126) rfl) ?_
                          refine wpq_no (guard_no rfl rfl rfl (bval_yes h126) rfl) ?_
                          refine q_pick true (v := Value.bool true) (bval_yes h126) rfl ?_
                          refine wpq_nil ?_
                          cases H
                          exact ⟨rfl, _, rfl, (Gh.le_refl _), ⟨rfl, rfl, rfl, rfl, trivial⟩, hI116, trivial⟩
                        · replace H := ite_no h126 H
                          refine q_mv (v := Value.string (a1.Keep.getD (Int.toNat v56) (⟨#[]⟩ : ByteArray))) rfl ?_ (hw := guard_yes rfl rfl rfl (bval_no h126))
                          obtain ⟨⟨h127, h127'⟩, H⟩ := ite_some H
                          refine q_is so9 rfl rfl h127 h127' rfl ?_ (hw := guard_yes rfl rfl rfl (bval_no h126))
                          refine q_gtr rfl rfl ?_ (hw := guard_yes rfl rfl rfl (bval_no h126))
                          refine q_pick false (v := Value.bool (decide (122 < (bt (a1.Keep.getD (Int.toNat v56) (⟨#[]⟩ : ByteArray)) 1)))) (bval_no h126) rfl ?_
                          refine wpq_nil ?_
                          cases H
                          exact ⟨rfl, _, rfl, (Gh.le_refl _), ⟨rfl, rfl, rfl, rfl, trivial⟩, hI116, trivial⟩
                      · clear hC
                        rintro e r ds wd123 ⟨rfl, G121, rfl, hG122, hHas, hI124, _⟩
                        rw [hHas.eq]; clear hHas
                        refine wpq_nil ?_
                        refine hK95 _ _ _ ?_
                        by_cases h128 : v120 = true
                        · replace H := ite_yes h128 H
                          refine wpc_true (bval_yes h128) ?_
                          refine wpc_seq_k fun K129 hK130 => ?_
                          refine wpc_region ?_
                          refine q_as (v := Value.bool false) rfl ?_
                          refine wpq_nil ?_
                          refine hK130 _ _ _ ?_
                          refine wpc_ret ?_
                          cases H
                          exact ⟨rfl, _, rfl, (Gh.le_trans (Gh.le_trans (Gh.le_trans (Gh.le_trans hG73 hG98) hG106) hG114) hG122), ⟨rfl, trivial⟩, hI124, trivial⟩
                        · replace H := ite_no h128 H
                          refine wpc_false (bval_no h128) ?_
                          refine wpc_skip ?_
                          refine hK93 _ _ _ ?_
                          refine wpc_seq_k fun K131 hK132 => ?_
                          refine wpc_region ?_
                          refine q_as (v := Value.int .i64 0) rfl ?_
                          refine wpq_nil ?_
                          refine hK132 _ _ _ ?_
                          refine wpc_block ?_
                          obtain ⟨o152, hC, H⟩ := bind_some H
                          refine wpc_mono (Q := fun e r ds w => match (generalizing := false) o152 with | (Sum.inl _) => e = .ret ∧ ∃ (G144 : Gh), ds = [] ∧ G121 ≤ G144 ∧ Has [(2, Value.bool false)] r ∧ Hp G144 (bx g9 [Value.int .i64 a1.Before, Value.int .i64 a1.Behind, Value.slice A2 a1.Keep.length c3] 24 :: L) w ∧ True | (Sum.inr _) => e = .exit 2 ∧ ∃ (G148 : Gh), ds = [] ∧ G121 ≤ G148 ∧ Has [(1, Value.pointer (some ⟨g9, 0, none⟩)), (3, Value.int .i64 v56)] r ∧ Hp G148 (bx g9 [Value.int .i64 a1.Before, Value.int .i64 a1.Behind, Value.slice A2 a1.Keep.length c3] 24 :: L) w ∧ True) ?_ ?_
                          · clear H
                            refine wpc_loop fun I hLp => ?_
                            refine formeref08_Valid_l143.partial_correctness a1 v56 (fun v137 o => ∀ (G153 : Gh) (r : Rg) (w : World), G121 ≤ G153 → Has [(1, Value.pointer (some ⟨g9, 0, none⟩)), (3, Value.int .i64 v56), (4, Value.string (a1.Keep.getD (Int.toNat v56) (⟨#[]⟩ : ByteArray))), (5, Value.int .i64 v137)] r → Hp G153 (bx g9 [Value.int .i64 a1.Before, Value.int .i64 a1.Behind, Value.slice A2 a1.Keep.length c3] 24 :: L) w → o = o152 → I r [] w) ?_ 0 _ hC _ _ _ (Gh.le_refl _) ⟨rfl, rfl, rfl, rfl, trivial⟩ hI124 rfl
                            intro _ ih v137 o H G153 r wd155 hG154 hHas hI156 ho
                            rw [ho] at H; clear ho
                            rw [hHas.eq]; clear hHas
                            refine hLp _ _ _ ?_
                            refine wpc_seq_k fun K157 hK158 => ?_
                            refine wpc_seq_k fun K159 hK160 => ?_
                            refine wpc_region ?_
                            refine q_mv (v := Value.int .i64 v137) rfl ?_
                            refine q_mv (v := Value.int .i64 v56) rfl ?_
                            refine q_lss rfl rfl ?_
                            refine wpq_nil ?_
                            refine hK160 _ _ _ ?_
                            by_cases h161 : v137 < v56
                            · replace H := ite_yes h161 H
                              refine wpc_true (bool_yes h161) ?_
                              refine wpc_skip ?_
                              refine hK158 _ _ _ ?_
                              refine wpc_seq_k fun K162 hK163 => ?_
                              refine wpc_block ?_
                              refine wpc_seq_k fun K164 hK165 => ?_
                              refine wpc_region ?_
                              refine q_fa (a' := ⟨g9, 2, none⟩) fl24_2 rfl (add_plain _ _ _) ?_
                              refine q_ld hI156 0 (v := Value.slice A2 a1.Keep.length c3) ag22 rfl rfl rfl ?_
                              refine q_mv (v := Value.int .i64 v137) rfl ?_
                              obtain ⟨⟨h166, h166'⟩, H⟩ := ite_some H
                              obtain ⟨ad167, cs168, hA169, hK170, hn171, hc172⟩ := Dat.get (Dat.mono (Gh.le_trans (Gh.le_trans (Gh.le_trans (Gh.le_trans (Gh.le_trans (Gh.le_trans (Gh.le_trans (Gh.le_trans (Gh.le_trans hG18 hG25) hG32) hG39) hG73) hG98) hG106) hG114) hG122) hG154) hD5) (⟨#[]⟩ : ByteArray) (v137) h166 h166'
                              obtain rfl := hK170
                              refine q_ia el22 rfl hA169 rfl h166 h166' ?_
                              refine q_lf hI156 (v := Value.string (a1.Keep.getD (Int.toNat v137) (⟨#[]⟩ : ByteArray))) ag9 rfl ((Gh.le_refl _).cel _ _ (hc172 0 _ rfl)) ?_
                              refine q_mv (v := Value.string (a1.Keep.getD (Int.toNat v56) (⟨#[]⟩ : ByteArray))) rfl ?_
                              refine q_str_eql rfl rfl ?_
                              refine wpq_nil ?_
                              refine hK165 _ _ _ ?_
                              by_cases h173 : (a1.Keep.getD (Int.toNat v137) (⟨#[]⟩ : ByteArray)) = (a1.Keep.getD (Int.toNat v56) (⟨#[]⟩ : ByteArray))
                              · replace H := ite_yes h173 H
                                refine wpc_true (bool_yes h173) ?_
                                refine wpc_seq_k fun K174 hK175 => ?_
                                refine wpc_region ?_
                                refine q_as (v := Value.bool false) rfl ?_
                                refine wpq_nil ?_
                                refine hK175 _ _ _ ?_
                                refine wpc_ret ?_
                                cases H
                                exact ⟨rfl, _, rfl, hG154, ⟨rfl, trivial⟩, hI156, trivial⟩
                              · replace H := ite_no h173 H
                                refine wpc_false (bool_no h173) ?_
                                refine wpc_skip ?_
                                refine hK163 _ _ _ ?_
                                refine wpc_region ?_
                                refine q_mv (v := Value.int .i64 v137) rfl ?_
                                refine q_add rfl rfl ?_
                                refine q_as (v := Value.int .i64 (w64 (v137 + 1))) rfl ?_
                                refine wpq_nil ?_
                                exact ih _ _ H _ _ _ hG154 ⟨rfl, rfl, rfl, rfl, trivial⟩ hI156 rfl
                            · replace H := ite_no h161 H
                              refine wpc_false (bool_no h161) ?_
                              refine wpc_exit ?_
                              cases H
                              exact ⟨rfl, _, rfl, hG154, ⟨rfl, rfl, trivial⟩, hI156, trivial⟩
                          · clear hC
                            rcases o152 with _ | _
                            · rintro e r ds wd146 ⟨rfl, G144, rfl, hG145, hHas, hI147, _⟩
                              rw [hHas.eq]; clear hHas
                              cases H
                              exact ⟨rfl, _, rfl, (Gh.le_trans (Gh.le_trans (Gh.le_trans (Gh.le_trans (Gh.le_trans hG73 hG98) hG106) hG114) hG122) hG145), ⟨rfl, trivial⟩, hI147, trivial⟩
                            · rintro e r ds wd150 ⟨rfl, G148, rfl, hG149, hHas, hI151, _⟩
                              rw [hHas.eq]; clear hHas
                              refine hK82 _ _ _ ?_
                              refine wpc_region ?_
                              refine q_mv (v := Value.int .i64 v56) rfl ?_
                              refine q_add rfl rfl ?_
                              refine q_as (v := Value.int .i64 (w64 (v56 + 1))) rfl ?_
                              refine wpq_nil ?_
                              exact ih _ _ H _ _ _ (Gh.le_trans (Gh.le_trans (Gh.le_trans (Gh.le_trans (Gh.le_trans hG73 hG98) hG106) hG114) hG122) hG149) ⟨rfl, rfl, trivial⟩ hI151 rfl
              · replace H := ite_no h80 H
                refine wpc_false (bool_no h80) ?_
                refine wpc_exit ?_
                cases H
                exact ⟨rfl, _, rfl, hG73, trivial, hI75, trivial⟩
            · clear hC
              rcases o71 with _ | _
              · rintro e r ds wd65 ⟨rfl, G63, rfl, hG64, hHas, hI66, _⟩
                rw [hHas.eq]; clear hHas
                have hI176 := Hp.sub (L := bx g9 [Value.int .i64 a1.Before, Value.int .i64 a1.Behind, Value.slice A2 a1.Keep.length c3] 24 :: L) (L' := L) hI66 (List.Sublist.cons _ (List.Sublist.refl _))
                cases H
                exact ⟨.inr rfl, rfl, _, ⟨_, _, rfl, rfl, rfl⟩, _, (Gh.le_trans (Gh.le_trans (Gh.le_trans (Gh.le_trans hG18 hG25) hG32) hG39) hG64), hI176, rfl⟩
              · rintro e r ds wd69 ⟨rfl, G67, rfl, hG68, hHas, hI70, _⟩
                rw [hHas.eq]; clear hHas
                refine hK49 _ _ _ ?_
                refine wpc_seq_k fun K177 hK178 => ?_
                refine wpc_region ?_
                refine q_as (v := Value.bool true) rfl ?_
                refine wpq_nil ?_
                refine hK178 _ _ _ ?_
                refine wpc_ret ?_
                have hI179 := Hp.sub (L := bx g9 [Value.int .i64 a1.Before, Value.int .i64 a1.Behind, Value.slice A2 a1.Keep.length c3] 24 :: L) (L' := L) hI70 (List.Sublist.cons _ (List.Sublist.refl _))
                cases H
                exact ⟨.inr rfl, rfl, _, ⟨_, _, rfl, rfl, rfl⟩, _, (Gh.le_trans (Gh.le_trans (Gh.le_trans (Gh.le_trans hG18 hG25) hG32) hG39) hG68), hI179, rfl⟩
set_option maxHeartbeats 1000000 in
theorem formeref06_Class_spec {a1 : Int} {r1076 : Int} {G : Gh} {L : List Itm} {w : World} (hI : Hp G (L) w) (H : formeref06_Class a1 = some r1076) :
    Calls Tryd.prog 35 [Value.int .u8 a1].toArray w fun e w' => ∃ (G' : Gh), G ≤ G' ∧ Hp G' (L) w' ∧ e = .returned (Value.int .i64 r1076) := by
  refine calls_intro (N := 31) Tryd.func35 rfl rfl (Nat.le_of_ble_eq_true rfl) ?_
  unfold formeref06_Class at H
  refine wpc_seq_k fun K2 hK3 => ?_
  refine wpc_region ?_
  refine q_as (v := Value.int .i64 0) rfl ?_
  refine wpq_nil ?_
  refine hK3 _ _ _ ?_
  refine wpc_seq_k fun K4 hK5 => ?_
  refine wpc_seq_k fun K6 hK7 => ?_
  refine wpc_region ?_
  refine q_mv (v := Value.int .u8 a1) rfl ?_
  refine q_geq rfl rfl ?_
  refine q_mv (v := Value.bool (decide (97 ≤ a1))) rfl ?_
  obtain ⟨v8, hC, H⟩ := bind_some H
  refine wpq_split 3 (K := fun e r ds w => e = .normal ∧ ∃ (G9 : Gh), ds = [] ∧ G ≤ G9 ∧ Has [(0, Value.int .u8 a1), (8, Value.bool v8)] r ∧ Hp G9 (L) w ∧ True) ?_ ?_
  · replace H := hC
    by_cases h14 : 97 ≤ a1
    · replace H := ite_yes h14 H
      refine q_mv (v := Value.int .u8 a1) rfl ?_ (hw := guard_yes rfl rfl rfl (bool_yes h14))
      refine q_leq rfl rfl ?_ (hw := guard_yes rfl rfl rfl (bool_yes h14))
      refine q_pick true (v := Value.bool (decide (a1 ≤ 122))) (bool_yes h14) rfl ?_
      refine wpq_nil ?_
      cases H
      exact ⟨rfl, _, rfl, (Gh.le_refl _), ⟨rfl, rfl, trivial⟩, hI, trivial⟩
    · replace H := ite_no h14 H
      refine wpq_no (guard_no rfl rfl rfl (bool_no h14) rfl) ?_
      refine wpq_no (guard_no rfl rfl rfl (bool_no h14) rfl) ?_
      refine q_pick false (v := Value.bool false) (bool_no h14) rfl ?_
      refine wpq_nil ?_
      cases H
      exact ⟨rfl, _, rfl, (Gh.le_refl _), ⟨rfl, rfl, trivial⟩, hI, trivial⟩
  · clear hC
    rintro e r ds wd11 ⟨rfl, G9, rfl, hG10, hHas, hI12, _⟩
    rw [hHas.eq]; clear hHas
    refine wpq_nil ?_
    refine hK7 _ _ _ ?_
    by_cases h15 : v8 = true
    · replace H := ite_yes h15 H
      refine wpc_true (bval_yes h15) ?_
      refine wpc_seq_k fun K16 hK17 => ?_
      refine wpc_region ?_
      refine q_as (v := Value.int .i64 1) rfl ?_
      refine wpq_nil ?_
      refine hK17 _ _ _ ?_
      refine wpc_ret ?_
      cases H
      exact ⟨.inr rfl, rfl, _, ⟨_, _, rfl, rfl, rfl⟩, _, hG10, hI12, rfl⟩
    · replace H := ite_no h15 H
      refine wpc_false (bval_no h15) ?_
      refine wpc_skip ?_
      refine hK5 _ _ _ ?_
      refine wpc_seq_k fun K18 hK19 => ?_
      refine wpc_seq_k fun K20 hK21 => ?_
      refine wpc_region ?_
      refine q_mv (v := Value.int .u8 a1) rfl ?_
      refine q_geq rfl rfl ?_
      refine q_mv (v := Value.bool (decide (65 ≤ a1))) rfl ?_
      obtain ⟨v22, hC, H⟩ := bind_some H
      refine wpq_split 3 (K := fun e r ds w => e = .normal ∧ ∃ (G23 : Gh), ds = [] ∧ G9 ≤ G23 ∧ Has [(0, Value.int .u8 a1), (14, Value.bool v22)] r ∧ Hp G23 (L) w ∧ True) ?_ ?_
      · replace H := hC
        by_cases h28 : 65 ≤ a1
        · replace H := ite_yes h28 H
          refine q_mv (v := Value.int .u8 a1) rfl ?_ (hw := guard_yes rfl rfl rfl (bool_yes h28))
          refine q_leq rfl rfl ?_ (hw := guard_yes rfl rfl rfl (bool_yes h28))
          refine q_pick true (v := Value.bool (decide (a1 ≤ 90))) (bool_yes h28) rfl ?_
          refine wpq_nil ?_
          cases H
          exact ⟨rfl, _, rfl, (Gh.le_refl _), ⟨rfl, rfl, trivial⟩, hI12, trivial⟩
        · replace H := ite_no h28 H
          refine wpq_no (guard_no rfl rfl rfl (bool_no h28) rfl) ?_
          refine wpq_no (guard_no rfl rfl rfl (bool_no h28) rfl) ?_
          refine q_pick false (v := Value.bool false) (bool_no h28) rfl ?_
          refine wpq_nil ?_
          cases H
          exact ⟨rfl, _, rfl, (Gh.le_refl _), ⟨rfl, rfl, trivial⟩, hI12, trivial⟩
      · clear hC
        rintro e r ds wd25 ⟨rfl, G23, rfl, hG24, hHas, hI26, _⟩
        rw [hHas.eq]; clear hHas
        refine wpq_nil ?_
        refine hK21 _ _ _ ?_
        by_cases h29 : v22 = true
        · replace H := ite_yes h29 H
          refine wpc_true (bval_yes h29) ?_
          refine wpc_seq_k fun K30 hK31 => ?_
          refine wpc_region ?_
          refine q_as (v := Value.int .i64 2) rfl ?_
          refine wpq_nil ?_
          refine hK31 _ _ _ ?_
          refine wpc_ret ?_
          cases H
          exact ⟨.inr rfl, rfl, _, ⟨_, _, rfl, rfl, rfl⟩, _, (Gh.le_trans hG10 hG24), hI26, rfl⟩
        · replace H := ite_no h29 H
          refine wpc_false (bval_no h29) ?_
          refine wpc_skip ?_
          refine hK19 _ _ _ ?_
          refine wpc_seq_k fun K32 hK33 => ?_
          refine wpc_seq_k fun K34 hK35 => ?_
          refine wpc_region ?_
          refine q_mv (v := Value.int .u8 a1) rfl ?_
          refine q_geq rfl rfl ?_
          refine q_mv (v := Value.bool (decide (48 ≤ a1))) rfl ?_
          obtain ⟨v36, hC, H⟩ := bind_some H
          refine wpq_split 3 (K := fun e r ds w => e = .normal ∧ ∃ (G37 : Gh), ds = [] ∧ G23 ≤ G37 ∧ Has [(0, Value.int .u8 a1), (20, Value.bool v36)] r ∧ Hp G37 (L) w ∧ True) ?_ ?_
          · replace H := hC
            by_cases h42 : 48 ≤ a1
            · replace H := ite_yes h42 H
              refine q_mv (v := Value.int .u8 a1) rfl ?_ (hw := guard_yes rfl rfl rfl (bool_yes h42))
              refine q_leq rfl rfl ?_ (hw := guard_yes rfl rfl rfl (bool_yes h42))
              refine q_pick true (v := Value.bool (decide (a1 ≤ 57))) (bool_yes h42) rfl ?_
              refine wpq_nil ?_
              cases H
              exact ⟨rfl, _, rfl, (Gh.le_refl _), ⟨rfl, rfl, trivial⟩, hI26, trivial⟩
            · replace H := ite_no h42 H
              refine wpq_no (guard_no rfl rfl rfl (bool_no h42) rfl) ?_
              refine wpq_no (guard_no rfl rfl rfl (bool_no h42) rfl) ?_
              refine q_pick false (v := Value.bool false) (bool_no h42) rfl ?_
              refine wpq_nil ?_
              cases H
              exact ⟨rfl, _, rfl, (Gh.le_refl _), ⟨rfl, rfl, trivial⟩, hI26, trivial⟩
          · clear hC
            rintro e r ds wd39 ⟨rfl, G37, rfl, hG38, hHas, hI40, _⟩
            rw [hHas.eq]; clear hHas
            refine wpq_nil ?_
            refine hK35 _ _ _ ?_
            by_cases h43 : v36 = true
            · replace H := ite_yes h43 H
              refine wpc_true (bval_yes h43) ?_
              refine wpc_seq_k fun K44 hK45 => ?_
              refine wpc_region ?_
              refine q_as (v := Value.int .i64 3) rfl ?_
              refine wpq_nil ?_
              refine hK45 _ _ _ ?_
              refine wpc_ret ?_
              cases H
              exact ⟨.inr rfl, rfl, _, ⟨_, _, rfl, rfl, rfl⟩, _, (Gh.le_trans (Gh.le_trans hG10 hG24) hG38), hI40, rfl⟩
            · replace H := ite_no h43 H
              refine wpc_false (bval_no h43) ?_
              refine wpc_skip ?_
              refine hK33 _ _ _ ?_
              refine wpc_seq_k fun K46 hK47 => ?_
              refine wpc_seq_k fun K48 hK49 => ?_
              refine wpc_region ?_
              refine q_mv (v := Value.int .u8 a1) rfl ?_
              refine q_eql rfl rfl ?_
              refine wpq_nil ?_
              refine hK49 _ _ _ ?_
              by_cases h50 : a1 = 32
              · replace H := ite_yes h50 H
                refine wpc_true (bool_yes h50) ?_
                refine wpc_seq_k fun K51 hK52 => ?_
                refine wpc_region ?_
                refine q_as (v := Value.int .i64 4) rfl ?_
                refine wpq_nil ?_
                refine hK52 _ _ _ ?_
                refine wpc_ret ?_
                cases H
                exact ⟨.inr rfl, rfl, _, ⟨_, _, rfl, rfl, rfl⟩, _, (Gh.le_trans (Gh.le_trans hG10 hG24) hG38), hI40, rfl⟩
              · replace H := ite_no h50 H
                refine wpc_false (bool_no h50) ?_
                refine wpc_skip ?_
                refine hK47 _ _ _ ?_
                refine wpc_seq_k fun K53 hK54 => ?_
                refine wpc_seq_k fun K55 hK56 => ?_
                refine wpc_region ?_
                refine q_mv (v := Value.int .u8 a1) rfl ?_
                refine q_eql rfl rfl ?_
                refine wpq_nil ?_
                refine hK56 _ _ _ ?_
                by_cases h57 : a1 = 126
                · replace H := ite_yes h57 H
                  refine wpc_true (bool_yes h57) ?_
                  refine wpc_seq_k fun K58 hK59 => ?_
                  refine wpc_region ?_
                  refine q_as (v := Value.int .i64 6) rfl ?_
                  refine wpq_nil ?_
                  refine hK59 _ _ _ ?_
                  refine wpc_ret ?_
                  cases H
                  exact ⟨.inr rfl, rfl, _, ⟨_, _, rfl, rfl, rfl⟩, _, (Gh.le_trans (Gh.le_trans hG10 hG24) hG38), hI40, rfl⟩
                · replace H := ite_no h57 H
                  refine wpc_false (bool_no h57) ?_
                  refine wpc_skip ?_
                  refine hK54 _ _ _ ?_
                  refine wpc_seq_k fun K60 hK61 => ?_
                  refine wpc_seq_k fun K62 hK63 => ?_
                  refine wpc_region ?_
                  refine q_mv (v := Value.int .u8 a1) rfl ?_
                  refine q_gtr rfl rfl ?_
                  refine q_mv (v := Value.bool (decide (32 < a1))) rfl ?_
                  obtain ⟨v64, hC, H⟩ := bind_some H
                  refine wpq_split 3 (K := fun e r ds w => e = .normal ∧ ∃ (G65 : Gh), ds = [] ∧ G37 ≤ G65 ∧ Has [(30, Value.bool v64)] r ∧ Hp G65 (L) w ∧ True) ?_ ?_
                  · replace H := hC
                    by_cases h70 : 32 < a1
                    · replace H := ite_yes h70 H
                      refine q_mv (v := Value.int .u8 a1) rfl ?_ (hw := guard_yes rfl rfl rfl (bool_yes h70))
                      refine q_lss rfl rfl ?_ (hw := guard_yes rfl rfl rfl (bool_yes h70))
                      refine q_pick true (v := Value.bool (decide (a1 < 126))) (bool_yes h70) rfl ?_
                      refine wpq_nil ?_
                      cases H
                      exact ⟨rfl, _, rfl, (Gh.le_refl _), ⟨rfl, trivial⟩, hI40, trivial⟩
                    · replace H := ite_no h70 H
                      refine wpq_no (guard_no rfl rfl rfl (bool_no h70) rfl) ?_
                      refine wpq_no (guard_no rfl rfl rfl (bool_no h70) rfl) ?_
                      refine q_pick false (v := Value.bool false) (bool_no h70) rfl ?_
                      refine wpq_nil ?_
                      cases H
                      exact ⟨rfl, _, rfl, (Gh.le_refl _), ⟨rfl, trivial⟩, hI40, trivial⟩
                  · clear hC
                    rintro e r ds wd67 ⟨rfl, G65, rfl, hG66, hHas, hI68, _⟩
                    rw [hHas.eq]; clear hHas
                    refine wpq_nil ?_
                    refine hK63 _ _ _ ?_
                    by_cases h71 : v64 = true
                    · replace H := ite_yes h71 H
                      refine wpc_true (bval_yes h71) ?_
                      refine wpc_seq_k fun K72 hK73 => ?_
                      refine wpc_region ?_
                      refine q_as (v := Value.int .i64 5) rfl ?_
                      refine wpq_nil ?_
                      refine hK73 _ _ _ ?_
                      refine wpc_ret ?_
                      cases H
                      exact ⟨.inr rfl, rfl, _, ⟨_, _, rfl, rfl, rfl⟩, _, (Gh.le_trans (Gh.le_trans (Gh.le_trans hG10 hG24) hG38) hG66), hI68, rfl⟩
                    · replace H := ite_no h71 H
                      refine wpc_false (bval_no h71) ?_
                      refine wpc_skip ?_
                      refine hK61 _ _ _ ?_
                      refine wpc_seq_k fun K74 hK75 => ?_
                      refine wpc_region ?_
                      refine q_as (v := Value.int .i64 0) rfl ?_
                      refine wpq_nil ?_
                      refine hK75 _ _ _ ?_
                      refine wpc_ret ?_
                      cases H
                      exact ⟨.inr rfl, rfl, _, ⟨_, _, rfl, rfl, rfl⟩, _, (Gh.le_trans (Gh.le_trans (Gh.le_trans hG10 hG24) hG38) hG66), hI68, rfl⟩
set_option maxHeartbeats 1000000 in
theorem formeref06_Valid_spec {a1 : ByteArray} {r1053 : Bool} {G : Gh} {L : List Itm} {w : World} (hI : Hp G (L) w) (H : formeref06_Valid a1 = some r1053) :
    Calls Tryd.prog 22 [Value.string a1].toArray w fun e w' => ∃ (G' : Gh), G ≤ G' ∧ Hp G' (L) w' ∧ e = .returned (Value.bool r1053) := by
  refine calls_intro (N := 18) Tryd.func22 rfl rfl (Nat.le_of_ble_eq_true rfl) ?_
  unfold formeref06_Valid at H
  refine wpc_seq_k fun K2 hK3 => ?_
  refine wpc_region ?_
  refine q_as (v := Value.bool false) rfl ?_
  refine wpq_nil ?_
  refine hK3 _ _ _ ?_
  refine wpc_seq_k fun K4 hK5 => ?_
  refine wpc_seq_k fun K6 hK7 => ?_
  refine wpc_region ?_
  refine q_as (v := Value.int .i64 0) rfl ?_
  refine wpq_nil ?_
  refine hK7 _ _ _ ?_
  refine wpc_block ?_
  obtain ⟨o27, hC, H⟩ := bind_some H
  refine wpc_mono (Q := fun e r ds w => match (generalizing := false) o27 with | (Sum.inl _) => e = .ret ∧ ∃ (G19 : Gh), ds = [] ∧ G ≤ G19 ∧ Has [(2, Value.bool false)] r ∧ Hp G19 (L) w ∧ True | (Sum.inr _) => e = .exit 0 ∧ ∃ (G23 : Gh), ds = [] ∧ G ≤ G23 ∧ Has [(0, Value.string a1)] r ∧ Hp G23 (L) w ∧ True) ?_ ?_
  · clear H
    refine wpc_loop fun I hLp => ?_
    refine formeref06_Valid_l18.partial_correctness a1 (fun v12 o => ∀ (G28 : Gh) (r : Rg) (w : World), G ≤ G28 → Has [(0, Value.string a1), (3, Value.int .i64 v12)] r → Hp G28 (L) w → o = o27 → I r [] w) ?_ 0 _ hC _ _ _ (Gh.le_refl _) ⟨rfl, rfl, trivial⟩ hI rfl
    intro _ ih v12 o H G28 r wd30 hG29 hHas hI31 ho
    rw [ho] at H; clear ho
    rw [hHas.eq]; clear hHas
    refine hLp _ _ _ ?_
    refine wpc_seq_k fun K32 hK33 => ?_
    refine wpc_seq_k fun K34 hK35 => ?_
    refine wpc_region ?_
    refine q_mv (v := Value.int .i64 v12) rfl ?_
    refine q_mv (v := Value.string a1) rfl ?_
    refine q_lens so9 rfl ?_
    refine q_lss rfl rfl ?_
    refine wpq_nil ?_
    refine hK35 _ _ _ ?_
    by_cases h36 : v12 < (a1.size : Int)
    · replace H := ite_yes h36 H
      refine wpc_true (bool_yes h36) ?_
      refine wpc_skip ?_
      refine hK33 _ _ _ ?_
      refine wpc_seq_k fun K37 hK38 => ?_
      refine wpc_block ?_
      refine wpc_seq_k fun K39 hK40 => ?_
      refine wpc_region ?_
      refine q_mv (v := Value.string a1) rfl ?_
      refine q_mv (v := Value.int .i64 v12) rfl ?_
      obtain ⟨⟨h41, h41'⟩, H⟩ := ite_some H
      refine q_is so9 rfl rfl h41 h41' rfl ?_
      obtain ⟨y47, hy42, H⟩ := bind_some H
      refine q_cv (vs := [Value.int .u8 (bt a1 v12)]) bo35 rfl rfl (formeref06_Class_spec (a1 := bt a1 v12) hI31 hy42) ?_
      rintro _ wd45 ⟨G43, hG44, hI46, rfl⟩
      refine ⟨_, rfl, ?_⟩
      refine q_eql rfl rfl ?_
      refine wpq_nil ?_
      refine hK40 _ _ _ ?_
      by_cases h48 : y47 = 0
      · replace H := ite_yes h48 H
        refine wpc_true (bool_yes h48) ?_
        refine wpc_seq_k fun K49 hK50 => ?_
        refine wpc_region ?_
        refine q_as (v := Value.bool false) rfl ?_
        refine wpq_nil ?_
        refine hK50 _ _ _ ?_
        refine wpc_ret ?_
        cases H
        exact ⟨rfl, _, rfl, (Gh.le_trans hG29 hG44), ⟨rfl, trivial⟩, hI46, trivial⟩
      · replace H := ite_no h48 H
        refine wpc_false (bool_no h48) ?_
        refine wpc_skip ?_
        refine hK38 _ _ _ ?_
        refine wpc_region ?_
        refine q_mv (v := Value.int .i64 v12) rfl ?_
        refine q_add rfl rfl ?_
        refine q_as (v := Value.int .i64 (w64 (v12 + 1))) rfl ?_
        refine wpq_nil ?_
        exact ih _ _ H _ _ _ (Gh.le_trans hG29 hG44) ⟨rfl, rfl, trivial⟩ hI46 rfl
    · replace H := ite_no h36 H
      refine wpc_false (bool_no h36) ?_
      refine wpc_exit ?_
      cases H
      exact ⟨rfl, _, rfl, hG29, ⟨rfl, trivial⟩, hI31, trivial⟩
  · clear hC
    rcases o27 with _ | _
    · rintro e r ds wd21 ⟨rfl, G19, rfl, hG20, hHas, hI22, _⟩
      rw [hHas.eq]; clear hHas
      cases H
      exact ⟨.inr rfl, rfl, _, ⟨_, _, rfl, rfl, rfl⟩, _, hG20, hI22, rfl⟩
    · rintro e r ds wd25 ⟨rfl, G23, rfl, hG24, hHas, hI26, _⟩
      rw [hHas.eq]; clear hHas
      refine hK5 _ _ _ ?_
      refine wpc_seq_k fun K51 hK52 => ?_
      refine wpc_region ?_
      refine q_mv (v := Value.string a1) rfl ?_
      refine q_lens so9 rfl ?_
      refine q_leq rfl rfl ?_
      refine q_as (v := Value.bool (decide ((a1.size : Int) ≤ 2000))) rfl ?_
      refine wpq_nil ?_
      refine hK52 _ _ _ ?_
      refine wpc_ret ?_
      cases H
      exact ⟨.inr rfl, rfl, _, ⟨_, _, rfl, rfl, rfl⟩, _, hG24, hI26, rfl⟩
set_option maxHeartbeats 1000000 in
theorem formeref08_some_spec {a1 : ByteArray} {a2 : Int} {r1048 : Bool} {G : Gh} {L : List Itm} {w : World} (hI : Hp G (L) w) (H : formeref08_some a1 a2 = some r1048) :
    Calls Tryd.prog 36 [Value.string a1, Value.int .i64 a2].toArray w fun e w' => ∃ (G' : Gh), G ≤ G' ∧ Hp G' (L) w' ∧ e = .returned (Value.bool r1048) := by
  refine calls_intro (N := 15) Tryd.func36 rfl rfl (Nat.le_of_ble_eq_true rfl) ?_
  unfold formeref08_some at H
  refine wpc_seq_k fun K3 hK4 => ?_
  refine wpc_region ?_
  refine q_as (v := Value.bool false) rfl ?_
  refine wpq_nil ?_
  refine hK4 _ _ _ ?_
  refine wpc_seq_k fun K5 hK6 => ?_
  refine wpc_seq_k fun K7 hK8 => ?_
  refine wpc_region ?_
  refine q_as (v := Value.int .i64 0) rfl ?_
  refine wpq_nil ?_
  refine hK8 _ _ _ ?_
  refine wpc_block ?_
  obtain ⟨o28, hC, H⟩ := bind_some H
  refine wpc_mono (Q := fun e r ds w => match (generalizing := false) o28 with | (Sum.inl _) => e = .ret ∧ ∃ (G20 : Gh), ds = [] ∧ G ≤ G20 ∧ Has [(4, Value.bool true)] r ∧ Hp G20 (L) w ∧ True | (Sum.inr _) => e = .exit 0 ∧ ∃ (G24 : Gh), ds = [] ∧ G ≤ G24 ∧ Has [] r ∧ Hp G24 (L) w ∧ True) ?_ ?_
  · clear H
    refine wpc_loop fun I hLp => ?_
    refine formeref08_some_l19.partial_correctness a1 a2 (fun v13 o => ∀ (G29 : Gh) (r : Rg) (w : World), G ≤ G29 → Has [(0, Value.string a1), (1, Value.int .i64 a2), (5, Value.int .i64 v13)] r → Hp G29 (L) w → o = o28 → I r [] w) ?_ 0 _ hC _ _ _ (Gh.le_refl _) ⟨rfl, rfl, rfl, trivial⟩ hI rfl
    intro _ ih v13 o H G29 r wd31 hG30 hHas hI32 ho
    rw [ho] at H; clear ho
    rw [hHas.eq]; clear hHas
    refine hLp _ _ _ ?_
    refine wpc_seq_k fun K33 hK34 => ?_
    refine wpc_seq_k fun K35 hK36 => ?_
    refine wpc_region ?_
    refine q_mv (v := Value.int .i64 v13) rfl ?_
    refine q_mv (v := Value.int .i64 a2) rfl ?_
    refine q_lss rfl rfl ?_
    refine wpq_nil ?_
    refine hK36 _ _ _ ?_
    by_cases h37 : v13 < a2
    · replace H := ite_yes h37 H
      refine wpc_true (bool_yes h37) ?_
      refine wpc_skip ?_
      refine hK34 _ _ _ ?_
      refine wpc_seq_k fun K38 hK39 => ?_
      refine wpc_block ?_
      refine wpc_seq_k fun K40 hK41 => ?_
      refine wpc_region ?_
      refine q_mv (v := Value.string a1) rfl ?_
      refine q_mv (v := Value.int .i64 v13) rfl ?_
      obtain ⟨⟨h42, h42'⟩, H⟩ := ite_some H
      refine q_is so9 rfl rfl h42 h42' rfl ?_
      refine q_neq rfl rfl ?_
      refine wpq_nil ?_
      refine hK41 _ _ _ ?_
      by_cases h43 : ¬ (bt a1 v13) = 32
      · replace H := ite_yes h43 H
        refine wpc_true (bool_yes h43) ?_
        refine wpc_seq_k fun K44 hK45 => ?_
        refine wpc_region ?_
        refine q_as (v := Value.bool true) rfl ?_
        refine wpq_nil ?_
        refine hK45 _ _ _ ?_
        refine wpc_ret ?_
        cases H
        exact ⟨rfl, _, rfl, hG30, ⟨rfl, trivial⟩, hI32, trivial⟩
      · replace H := ite_no h43 H
        refine wpc_false (bool_no h43) ?_
        refine wpc_skip ?_
        refine hK39 _ _ _ ?_
        refine wpc_region ?_
        refine q_mv (v := Value.int .i64 v13) rfl ?_
        refine q_add rfl rfl ?_
        refine q_as (v := Value.int .i64 (w64 (v13 + 1))) rfl ?_
        refine wpq_nil ?_
        exact ih _ _ H _ _ _ hG30 ⟨rfl, rfl, rfl, trivial⟩ hI32 rfl
    · replace H := ite_no h37 H
      refine wpc_false (bool_no h37) ?_
      refine wpc_exit ?_
      cases H
      exact ⟨rfl, _, rfl, hG30, trivial, hI32, trivial⟩
  · clear hC
    rcases o28 with _ | _
    · rintro e r ds wd22 ⟨rfl, G20, rfl, hG21, hHas, hI23, _⟩
      rw [hHas.eq]; clear hHas
      cases H
      exact ⟨.inr rfl, rfl, _, ⟨_, _, rfl, rfl, rfl⟩, _, hG21, hI23, rfl⟩
    · rintro e r ds wd26 ⟨rfl, G24, rfl, hG25, hHas, hI27, _⟩
      rw [hHas.eq]; clear hHas
      refine hK6 _ _ _ ?_
      refine wpc_seq_k fun K46 hK47 => ?_
      refine wpc_region ?_
      refine q_as (v := Value.bool false) rfl ?_
      refine wpq_nil ?_
      refine hK47 _ _ _ ?_
      refine wpc_ret ?_
      cases H
      exact ⟨.inr rfl, rfl, _, ⟨_, _, rfl, rfl, rfl⟩, _, hG25, hI27, rfl⟩
set_option maxHeartbeats 1000000 in
theorem formeref08_solid_spec {a1 : Int} {r1021 : Bool} {G : Gh} {L : List Itm} {w : World} (hI : Hp G (L) w) (H : formeref08_solid a1 = some r1021) :
    Calls Tryd.prog 37 [Value.int .u8 a1].toArray w fun e w' => ∃ (G' : Gh), G ≤ G' ∧ Hp G' (L) w' ∧ e = .returned (Value.bool r1021) := by
  refine calls_intro (N := 12) Tryd.func37 rfl rfl (Nat.le_of_ble_eq_true rfl) ?_
  unfold formeref08_solid at H
  refine wpc_seq_k fun K2 hK3 => ?_
  refine wpc_region ?_
  refine q_as (v := Value.bool false) rfl ?_
  refine wpq_nil ?_
  refine hK3 _ _ _ ?_
  refine wpc_seq_k fun K4 hK5 => ?_
  refine wpc_region ?_
  refine q_mv (v := Value.int .u8 a1) rfl ?_
  obtain ⟨y11, hy6, H⟩ := bind_some H
  refine q_cv (vs := [Value.int .u8 a1]) bo35 rfl rfl (formeref06_Class_spec (a1 := a1) hI hy6) ?_
  rintro _ wd9 ⟨G7, hG8, hI10, rfl⟩
  refine ⟨_, rfl, ?_⟩
  refine q_as (v := Value.int .i64 y11) rfl ?_
  refine wpq_nil ?_
  refine hK5 _ _ _ ?_
  refine wpc_seq_k fun K12 hK13 => ?_
  refine wpc_region ?_
  refine q_mv (v := Value.int .i64 y11) rfl ?_
  refine q_geq rfl rfl ?_
  refine q_mv (v := Value.bool (decide (1 ≤ y11))) rfl ?_
  obtain ⟨v14, hC, H⟩ := bind_some H
  refine wpq_split 3 (K := fun e r ds w => e = .normal ∧ ∃ (G15 : Gh), ds = [] ∧ G7 ≤ G15 ∧ Has [(11, Value.bool v14)] r ∧ Hp G15 (L) w ∧ True) ?_ ?_
  · replace H := hC
    by_cases h20 : 1 ≤ y11
    · replace H := ite_yes h20 H
      refine q_mv (v := Value.int .i64 y11) rfl ?_ (hw := guard_yes rfl rfl rfl (bool_yes h20))
      refine q_leq rfl rfl ?_ (hw := guard_yes rfl rfl rfl (bool_yes h20))
      refine q_pick true (v := Value.bool (decide (y11 ≤ 3))) (bool_yes h20) rfl ?_
      refine wpq_nil ?_
      cases H
      exact ⟨rfl, _, rfl, (Gh.le_refl _), ⟨rfl, trivial⟩, hI10, trivial⟩
    · replace H := ite_no h20 H
      refine wpq_no (guard_no rfl rfl rfl (bool_no h20) rfl) ?_
      refine wpq_no (guard_no rfl rfl rfl (bool_no h20) rfl) ?_
      refine q_pick false (v := Value.bool false) (bool_no h20) rfl ?_
      refine wpq_nil ?_
      cases H
      exact ⟨rfl, _, rfl, (Gh.le_refl _), ⟨rfl, trivial⟩, hI10, trivial⟩
  · clear hC
    rintro e r ds wd17 ⟨rfl, G15, rfl, hG16, hHas, hI18, _⟩
    rw [hHas.eq]; clear hHas
    refine q_as (v := Value.bool v14) rfl ?_
    refine wpq_nil ?_
    refine hK13 _ _ _ ?_
    refine wpc_ret ?_
    cases H
    exact ⟨.inr rfl, rfl, _, ⟨_, _, rfl, rfl, rfl⟩, _, (Gh.le_trans hG8 hG16), hI18, rfl⟩
set_option maxHeartbeats 1000000 in
theorem formeref08_letter_spec {a1 : Int} {r1021 : Bool} {G : Gh} {L : List Itm} {w : World} (hI : Hp G (L) w) (H : formeref08_letter a1 = some r1021) :
    Calls Tryd.prog 38 [Value.int .u8 a1].toArray w fun e w' => ∃ (G' : Gh), G ≤ G' ∧ Hp G' (L) w' ∧ e = .returned (Value.bool r1021) := by
  refine calls_intro (N := 12) Tryd.func38 rfl rfl (Nat.le_of_ble_eq_true rfl) ?_
  unfold formeref08_letter at H
  refine wpc_seq_k fun K2 hK3 => ?_
  refine wpc_region ?_
  refine q_as (v := Value.bool false) rfl ?_
  refine wpq_nil ?_
  refine hK3 _ _ _ ?_
  refine wpc_seq_k fun K4 hK5 => ?_
  refine wpc_region ?_
  refine q_mv (v := Value.int .u8 a1) rfl ?_
  obtain ⟨y11, hy6, H⟩ := bind_some H
  refine q_cv (vs := [Value.int .u8 a1]) bo35 rfl rfl (formeref06_Class_spec (a1 := a1) hI hy6) ?_
  rintro _ wd9 ⟨G7, hG8, hI10, rfl⟩
  refine ⟨_, rfl, ?_⟩
  refine q_as (v := Value.int .i64 y11) rfl ?_
  refine wpq_nil ?_
  refine hK5 _ _ _ ?_
  refine wpc_seq_k fun K12 hK13 => ?_
  refine wpc_region ?_
  refine q_mv (v := Value.int .i64 y11) rfl ?_
  refine q_eql rfl rfl ?_
  refine q_mv (v := Value.bool (decide (y11 = 1))) rfl ?_
  obtain ⟨v14, hC, H⟩ := bind_some H
  refine wpq_split 3 (K := fun e r ds w => e = .normal ∧ ∃ (G15 : Gh), ds = [] ∧ G7 ≤ G15 ∧ Has [(11, Value.bool v14)] r ∧ Hp G15 (L) w ∧ True) ?_ ?_
  · replace H := hC
    by_cases h20 : y11 = 1
    · replace H := ite_yes h20 H
      refine wpq_no (guard_no rfl rfl rfl (bool_yes h20) rfl) ?_
      refine wpq_no (guard_no rfl rfl rfl (bool_yes h20) rfl) ?_
      refine q_pick true (v := Value.bool true) (bool_yes h20) rfl ?_
      refine wpq_nil ?_
      cases H
      exact ⟨rfl, _, rfl, (Gh.le_refl _), ⟨rfl, trivial⟩, hI10, trivial⟩
    · replace H := ite_no h20 H
      refine q_mv (v := Value.int .i64 y11) rfl ?_ (hw := guard_yes rfl rfl rfl (bool_no h20))
      refine q_eql rfl rfl ?_ (hw := guard_yes rfl rfl rfl (bool_no h20))
      refine q_pick false (v := Value.bool (decide (y11 = 2))) (bool_no h20) rfl ?_
      refine wpq_nil ?_
      cases H
      exact ⟨rfl, _, rfl, (Gh.le_refl _), ⟨rfl, trivial⟩, hI10, trivial⟩
  · clear hC
    rintro e r ds wd17 ⟨rfl, G15, rfl, hG16, hHas, hI18, _⟩
    rw [hHas.eq]; clear hHas
    refine q_as (v := Value.bool v14) rfl ?_
    refine wpq_nil ?_
    refine hK13 _ _ _ ?_
    refine wpc_ret ?_
    cases H
    exact ⟨.inr rfl, rfl, _, ⟨_, _, rfl, rfl, rfl⟩, _, (Gh.le_trans hG8 hG16), hI18, rfl⟩
set_option maxHeartbeats 1000000 in
theorem formeref08_run_spec {a1 : ByteArray} {a2 : Int} {a3 : Int} {r1085 : Int} {r1086 : Int} {G : Gh} {L : List Itm} {w : World} (hI : Hp G (L) w) (H : formeref08_run a1 a2 a3 = some (r1085, r1086)) :
    Calls Tryd.prog 39 [Value.string a1, Value.int .i64 a2, Value.int .i64 a3].toArray w fun e w' => ∃ (G' : Gh), G ≤ G' ∧ Hp G' (L) w' ∧ e = .returned (Value.tuple [Value.int .i64 r1085, Value.int .u8 r1086].toArray) := by
  refine calls_intro (N := 44) Tryd.func39 rfl rfl (Nat.le_of_ble_eq_true rfl) ?_
  unfold formeref08_run at H
  refine wpc_seq_k fun K4 hK5 => ?_
  refine wpc_region ?_
  refine q_as (v := Value.int .i64 0) rfl ?_
  refine q_as (v := Value.int .u8 0) rfl ?_
  refine wpq_nil ?_
  refine hK5 _ _ _ ?_
  refine wpc_seq_k fun K6 hK7 => ?_
  refine wpc_region ?_
  refine q_as (v := Value.int .i64 0) rfl ?_
  refine wpq_nil ?_
  refine hK7 _ _ _ ?_
  refine wpc_seq_k fun K8 hK9 => ?_
  refine wpc_region ?_
  refine q_as (v := Value.int .u8 0) rfl ?_
  refine wpq_nil ?_
  refine hK9 _ _ _ ?_
  refine wpc_seq_k fun K10 hK11 => ?_
  refine wpc_block ?_
  obtain ⟨⟨v27, v28⟩, hC, H⟩ := bind_some H
  refine wpc_mono (Q := fun e r ds w => e = .exit 0 ∧ ∃ (G29 : Gh), ds = [] ∧ G ≤ G29 ∧ Has [(8, Value.int .i64 v27), (9, Value.int .u8 v28)] r ∧ Hp G29 (L) w ∧ True) ?_ ?_
  · clear H
    refine wpc_loop fun I hLp => ?_
    refine formeref08_run_l26.partial_correctness a1 a3 (fun v16 v17 v18 o => ∀ (G34 : Gh) (r : Rg) (w : World), G ≤ G34 → Has [(0, Value.string a1), (1, Value.int .i64 v16), (2, Value.int .i64 a3), (8, Value.int .i64 v17), (9, Value.int .u8 v18)] r → Hp G34 (L) w → o = (v27, v28) → I r [] w) ?_ a2 0 0 _ hC _ _ _ (Gh.le_refl _) ⟨rfl, rfl, rfl, rfl, rfl, trivial⟩ hI rfl
    intro _ ih v16 v17 v18 o H G34 r wd36 hG35 hHas hI37 ho
    rw [ho] at H; clear ho
    rw [hHas.eq]; clear hHas
    refine hLp _ _ _ ?_
    refine wpc_seq_k fun K38 hK39 => ?_
    refine wpc_seq_k fun K40 hK41 => ?_
    refine wpc_region ?_
    refine q_mv (v := Value.int .i64 v16) rfl ?_
    refine q_geq rfl rfl ?_
    refine q_mv (v := Value.bool (decide (0 ≤ v16))) rfl ?_
    obtain ⟨v42, hC, H⟩ := bind_some H
    refine wpq_split 5 (K := fun e r ds w => e = .normal ∧ ∃ (G43 : Gh), ds = [] ∧ G34 ≤ G43 ∧ Has [(0, Value.string a1), (1, Value.int .i64 v16), (2, Value.int .i64 a3), (8, Value.int .i64 v17), (9, Value.int .u8 v18), (18, Value.bool v42)] r ∧ Hp G43 (L) w ∧ True) ?_ ?_
    · replace H := hC
      by_cases h48 : 0 ≤ v16
      · replace H := ite_yes h48 H
        refine q_mv (v := Value.int .i64 v16) rfl ?_ (hw := guard_yes rfl rfl rfl (bool_yes h48))
        refine q_mv (v := Value.string a1) rfl ?_ (hw := guard_yes rfl rfl rfl (bool_yes h48))
        refine q_lens so9 rfl ?_ (hw := guard_yes rfl rfl rfl (bool_yes h48))
        refine q_lss rfl rfl ?_ (hw := guard_yes rfl rfl rfl (bool_yes h48))
        refine q_pick true (v := Value.bool (decide (v16 < (a1.size : Int)))) (bool_yes h48) rfl ?_
        refine wpq_nil ?_
        cases H
        exact ⟨rfl, _, rfl, (Gh.le_refl _), ⟨rfl, rfl, rfl, rfl, rfl, rfl, trivial⟩, hI37, trivial⟩
      · replace H := ite_no h48 H
        refine wpq_no (guard_no rfl rfl rfl (bool_no h48) rfl) ?_
        refine wpq_no (guard_no rfl rfl rfl (bool_no h48) rfl) ?_
        refine wpq_no (guard_no rfl rfl rfl (bool_no h48) rfl) ?_
        refine wpq_no (guard_no rfl rfl rfl (bool_no h48) rfl) ?_
        refine q_pick false (v := Value.bool false) (bool_no h48) rfl ?_
        refine wpq_nil ?_
        cases H
        exact ⟨rfl, _, rfl, (Gh.le_refl _), ⟨rfl, rfl, rfl, rfl, rfl, rfl, trivial⟩, hI37, trivial⟩
    · clear hC
      rintro e r ds wd45 ⟨rfl, G43, rfl, hG44, hHas, hI46, _⟩
      rw [hHas.eq]; clear hHas
      refine wpq_nil ?_
      refine hK41 _ _ _ ?_
      by_cases h49 : v42 = true
      · replace H := ite_yes h49 H
        refine wpc_true (bval_yes h49) ?_
        refine wpc_skip ?_
        refine hK39 _ _ _ ?_
        refine wpc_block ?_
        refine wpc_seq_k fun K50 hK51 => ?_
        refine wpc_region ?_
        refine q_mv (v := Value.string a1) rfl ?_
        refine q_mv (v := Value.int .i64 v16) rfl ?_
        obtain ⟨⟨h52, h52'⟩, H⟩ := ite_some H
        refine q_is so9 rfl rfl h52 h52' rfl ?_
        obtain ⟨y58, hy53, H⟩ := bind_some H
        refine q_cv (vs := [Value.int .u8 (bt a1 v16)]) bo38 rfl rfl (formeref08_letter_spec (a1 := bt a1 v16) hI46 hy53) ?_
        rintro _ wd56 ⟨G54, hG55, hI57, rfl⟩
        refine ⟨_, rfl, ?_⟩
        refine q_as (v := Value.bool y58) rfl ?_
        refine wpq_nil ?_
        refine hK51 _ _ _ ?_
        refine wpc_seq_k fun K59 hK60 => ?_
        refine wpc_seq_k fun K61 hK62 => ?_
        refine wpc_region ?_
        refine q_mv (v := Value.bool y58) rfl ?_
        refine q_not rfl ?_
        refine q_mv (v := Value.bool (!y58)) rfl ?_
        obtain ⟨v63, hC, H⟩ := bind_some H
        refine wpq_split 5 (K := fun e r ds w => e = .normal ∧ ∃ (G64 : Gh), ds = [] ∧ G54 ≤ G64 ∧ Has [(0, Value.string a1), (1, Value.int .i64 v16), (2, Value.int .i64 a3), (8, Value.int .i64 v17), (9, Value.int .u8 v18), (10, Value.bool y58), (30, Value.bool v63)] r ∧ Hp G64 (L) w ∧ True) ?_ ?_
        · replace H := hC
          by_cases h69 : (!y58) = true
          · replace H := ite_yes h69 H
            refine q_mv (v := Value.string a1) rfl ?_ (hw := guard_yes rfl rfl rfl (bval_yes h69))
            refine q_mv (v := Value.int .i64 v16) rfl ?_ (hw := guard_yes rfl rfl rfl (bval_yes h69))
            obtain ⟨⟨h70, h70'⟩, H⟩ := ite_some H
            refine q_is so9 rfl rfl h70 h70' rfl ?_ (hw := guard_yes rfl rfl rfl (bval_yes h69))
            refine q_neq rfl rfl ?_ (hw := guard_yes rfl rfl rfl (bval_yes h69))
            refine q_pick true (v := Value.bool (decide (¬ (bt a1 v16) = 126))) (bval_yes h69) rfl ?_
            refine wpq_nil ?_
            cases H
            exact ⟨rfl, _, rfl, (Gh.le_refl _), ⟨rfl, rfl, rfl, rfl, rfl, rfl, rfl, trivial⟩, hI57, trivial⟩
          · replace H := ite_no h69 H
            refine wpq_no (guard_no rfl rfl rfl (bval_no h69) rfl) ?_
            refine wpq_no (guard_no rfl rfl rfl (bval_no h69) rfl) ?_
            refine wpq_no (guard_no rfl rfl rfl (bval_no h69) rfl) ?_
            refine wpq_no (guard_no rfl rfl rfl (bval_no h69) rfl) ?_
            refine q_pick false (v := Value.bool false) (bval_no h69) rfl ?_
            refine wpq_nil ?_
            cases H
            exact ⟨rfl, _, rfl, (Gh.le_refl _), ⟨rfl, rfl, rfl, rfl, rfl, rfl, rfl, trivial⟩, hI57, trivial⟩
        · clear hC
          rintro e r ds wd66 ⟨rfl, G64, rfl, hG65, hHas, hI67, _⟩
          rw [hHas.eq]; clear hHas
          refine wpq_nil ?_
          refine hK62 _ _ _ ?_
          by_cases h71 : v63 = true
          · replace H := ite_yes h71 H
            refine wpc_true (bval_yes h71) ?_
            refine wpc_exit ?_
            cases H
            exact ⟨rfl, _, rfl, (Gh.le_trans (Gh.le_trans (Gh.le_trans hG35 hG44) hG55) hG65), ⟨rfl, rfl, trivial⟩, hI67, trivial⟩
          · replace H := ite_no h71 H
            refine wpc_false (bval_no h71) ?_
            refine wpc_skip ?_
            refine hK60 _ _ _ ?_
            refine wpc_seq_k fun K72 hK73 => ?_
            refine wpc_seq_k fun K74 hK75 => ?_
            refine wpc_region ?_
            refine q_mv (v := Value.bool y58) rfl ?_
            refine wpq_nil ?_
            refine hK75 _ _ _ ?_
            by_cases h76 : y58 = true
            · replace H := ite_yes h76 H
              refine wpc_true (bval_yes h76) ?_
              refine wpc_seq_k fun K77 hK78 => ?_
              refine wpc_seq_k fun K79 hK80 => ?_
              refine wpc_region ?_
              refine q_mv (v := Value.int .i64 v17) rfl ?_
              refine q_eql rfl rfl ?_
              refine wpq_nil ?_
              refine hK80 _ _ _ ?_
              by_cases h81 : v17 = 0
              · replace H := ite_yes h81 H
                refine wpc_true (bool_yes h81) ?_
                refine wpc_region ?_
                refine q_mv (v := Value.string a1) rfl ?_
                refine q_mv (v := Value.int .i64 v16) rfl ?_
                obtain ⟨⟨h82, h82'⟩, H⟩ := ite_some H
                refine q_is so9 rfl rfl h82 h82' rfl ?_
                refine q_as (v := Value.int .u8 (bt a1 v16)) rfl ?_
                refine wpq_nil ?_
                refine hK78 _ _ _ ?_
                refine wpc_region ?_
                refine q_mv (v := Value.int .i64 v17) rfl ?_
                refine q_add rfl rfl ?_
                refine q_as (v := Value.int .i64 (w64 (v17 + 1))) rfl ?_
                refine wpq_nil ?_
                refine hK73 _ _ _ ?_
                refine wpc_region ?_
                refine q_mv (v := Value.int .i64 v16) rfl ?_
                refine q_mv (v := Value.int .i64 a3) rfl ?_
                refine q_add rfl rfl ?_
                refine q_as (v := Value.int .i64 (w64 (v16 + a3))) rfl ?_
                refine wpq_nil ?_
                exact ih _ _ _ _ H _ _ _ (Gh.le_trans (Gh.le_trans (Gh.le_trans hG35 hG44) hG55) hG65) ⟨rfl, rfl, rfl, rfl, rfl, trivial⟩ hI67 rfl
              · replace H := ite_no h81 H
                refine wpc_false (bool_no h81) ?_
                refine wpc_skip ?_
                refine hK78 _ _ _ ?_
                refine wpc_region ?_
                refine q_mv (v := Value.int .i64 v17) rfl ?_
                refine q_add rfl rfl ?_
                refine q_as (v := Value.int .i64 (w64 (v17 + 1))) rfl ?_
                refine wpq_nil ?_
                refine hK73 _ _ _ ?_
                refine wpc_region ?_
                refine q_mv (v := Value.int .i64 v16) rfl ?_
                refine q_mv (v := Value.int .i64 a3) rfl ?_
                refine q_add rfl rfl ?_
                refine q_as (v := Value.int .i64 (w64 (v16 + a3))) rfl ?_
                refine wpq_nil ?_
                exact ih _ _ _ _ H _ _ _ (Gh.le_trans (Gh.le_trans (Gh.le_trans hG35 hG44) hG55) hG65) ⟨rfl, rfl, rfl, rfl, rfl, trivial⟩ hI67 rfl
            · replace H := ite_no h76 H
              refine wpc_false (bval_no h76) ?_
              refine wpc_skip ?_
              refine hK73 _ _ _ ?_
              refine wpc_region ?_
              refine q_mv (v := Value.int .i64 v16) rfl ?_
              refine q_mv (v := Value.int .i64 a3) rfl ?_
              refine q_add rfl rfl ?_
              refine q_as (v := Value.int .i64 (w64 (v16 + a3))) rfl ?_
              refine wpq_nil ?_
              exact ih _ _ _ _ H _ _ _ (Gh.le_trans (Gh.le_trans (Gh.le_trans hG35 hG44) hG55) hG65) ⟨rfl, rfl, rfl, rfl, rfl, trivial⟩ hI67 rfl
      · replace H := ite_no h49 H
        refine wpc_false (bval_no h49) ?_
        refine wpc_exit ?_
        cases H
        exact ⟨rfl, _, rfl, (Gh.le_trans hG35 hG44), ⟨rfl, rfl, trivial⟩, hI46, trivial⟩
  · clear hC
    rintro e r ds wd31 ⟨rfl, G29, rfl, hG30, hHas, hI32, _⟩
    rw [hHas.eq]; clear hHas
    refine hK11 _ _ _ ?_
    refine wpc_seq_k fun K83 hK84 => ?_
    refine wpc_region ?_
    refine q_mv (v := Value.int .i64 v27) rfl ?_
    refine q_mv (v := Value.int .u8 v28) rfl ?_
    refine q_as (v := Value.int .i64 v27) rfl ?_
    refine q_as (v := Value.int .u8 v28) rfl ?_
    refine wpq_nil ?_
    refine hK84 _ _ _ ?_
    refine wpc_ret ?_
    cases H
    exact ⟨.inr rfl, rfl, _, ⟨_, _, rfl, rfl, ⟨_, _, rfl, rfl, rfl⟩⟩, _, hG30, hI32, rfl⟩
set_option maxHeartbeats 1000000 in
theorem formeref08_kept_spec {a1 : api_Breaks} {a6 : Int} {a7 : Int} {A2 : Option Addr} {c3 : Nat} {r1081 : Bool} {G : Gh} {L : List Itm} {w : World} (hI : Hp G (L) w) (hl4 : a1.Keep.length ≤ c3) (hD5 : Dat Kd.str G A2 a1.Keep) (H : formeref08_kept a1 a6 a7 = some r1081) :
    Calls Tryd.prog 40 [Value.agg [Value.int .i64 a1.Before, Value.int .i64 a1.Behind, Value.slice A2 a1.Keep.length c3].toArray, Value.int .u8 a6, Value.int .u8 a7].toArray w fun e w' => ∃ (G' : Gh), G ≤ G' ∧ Hp G' (L) w' ∧ e = .returned (Value.bool r1081) := by
  refine calls_intro (N := 33) Tryd.func40 rfl rfl (Nat.le_of_ble_eq_true rfl) ?_
  unfold formeref08_kept at H
  refine wpc_seq_k fun K8 hK9 => ?_
  refine wpc_region ?_
  refine q_box hI (v := Value.agg [Value.int .i64 a1.Before, Value.int .i64 a1.Behind, Value.slice A2 a1.Keep.length c3].toArray) (vs := [Value.int .i64 a1.Before, Value.int .i64 a1.Behind, Value.slice A2 a1.Keep.length c3]) rfl rfl (fun g11 wd12 hI13 => ?_)
  refine q_as (v := Value.bool false) rfl ?_
  refine wpq_nil ?_
  refine hK9 _ _ _ ?_
  refine wpc_seq_k fun K14 hK15 => ?_
  refine wpc_seq_k fun K16 hK17 => ?_
  refine wpc_region ?_
  refine q_as (v := Value.int .i64 0) rfl ?_
  refine wpq_nil ?_
  refine hK17 _ _ _ ?_
  refine wpc_block ?_
  obtain ⟨o37, hC, H⟩ := bind_some H
  refine wpc_mono (Q := fun e r ds w => match (generalizing := false) o37 with | (Sum.inl _) => e = .ret ∧ ∃ (G29 : Gh), ds = [] ∧ G ≤ G29 ∧ Has [(6, Value.bool true)] r ∧ Hp G29 (bx g11 [Value.int .i64 a1.Before, Value.int .i64 a1.Behind, Value.slice A2 a1.Keep.length c3] 24 :: L) w ∧ True | (Sum.inr _) => e = .exit 0 ∧ ∃ (G33 : Gh), ds = [] ∧ G ≤ G33 ∧ Has [] r ∧ Hp G33 (bx g11 [Value.int .i64 a1.Before, Value.int .i64 a1.Behind, Value.slice A2 a1.Keep.length c3] 24 :: L) w ∧ True) ?_ ?_
  · clear H
    refine wpc_loop fun I hLp => ?_
    refine formeref08_kept_l28.partial_correctness a1 a6 a7 (fun v22 o => ∀ (G38 : Gh) (r : Rg) (w : World), G ≤ G38 → Has [(1, Value.int .u8 a6), (2, Value.int .u8 a7), (3, Value.pointer (some ⟨g11, 0, none⟩)), (7, Value.int .i64 v22)] r → Hp G38 (bx g11 [Value.int .i64 a1.Before, Value.int .i64 a1.Behind, Value.slice A2 a1.Keep.length c3] 24 :: L) w → o = o37 → I r [] w) ?_ 0 _ hC _ _ _ (Gh.le_refl _) ⟨rfl, rfl, rfl, rfl, trivial⟩ hI13 rfl
    intro _ ih v22 o H G38 r wd40 hG39 hHas hI41 ho
    rw [ho] at H; clear ho
    rw [hHas.eq]; clear hHas
    refine hLp _ _ _ ?_
    refine wpc_seq_k fun K42 hK43 => ?_
    refine wpc_seq_k fun K44 hK45 => ?_
    refine wpc_region ?_
    refine q_mv (v := Value.int .i64 v22) rfl ?_
    refine q_fa (a' := ⟨g11, 2, none⟩) fl24_2 rfl (add_plain _ _ _) ?_
    refine q_ld hI41 0 (v := Value.slice A2 a1.Keep.length c3) ag22 rfl rfl rfl ?_
    refine q_len so22 rfl ?_
    refine q_lss rfl rfl ?_
    refine wpq_nil ?_
    refine hK45 _ _ _ ?_
    by_cases h46 : v22 < (a1.Keep.length : Int)
    · replace H := ite_yes h46 H
      refine wpc_true (bool_yes h46) ?_
      refine wpc_skip ?_
      refine hK43 _ _ _ ?_
      refine wpc_seq_k fun K47 hK48 => ?_
      refine wpc_block ?_
      refine wpc_seq_k fun K49 hK50 => ?_
      refine wpc_region ?_
      refine q_fa (a' := ⟨g11, 2, none⟩) fl24_2 rfl (add_plain _ _ _) ?_
      refine q_ld hI41 0 (v := Value.slice A2 a1.Keep.length c3) ag22 rfl rfl rfl ?_
      refine q_mv (v := Value.int .i64 v22) rfl ?_
      obtain ⟨⟨h51, h51'⟩, H⟩ := ite_some H
      obtain ⟨ad52, cs53, hA54, hK55, hn56, hc57⟩ := Dat.get (Dat.mono hG39 hD5) (⟨#[]⟩ : ByteArray) (v22) h51 h51'
      obtain rfl := hK55
      refine q_ia el22 rfl hA54 rfl h51 h51' ?_
      refine q_lf hI41 (v := Value.string (a1.Keep.getD (Int.toNat v22) (⟨#[]⟩ : ByteArray))) ag9 rfl ((Gh.le_refl _).cel _ _ (hc57 0 _ rfl)) ?_
      obtain ⟨⟨h58, h58'⟩, H⟩ := ite_some H
      refine q_is so9 rfl rfl h58 h58' rfl ?_
      refine q_mv (v := Value.int .u8 a6) rfl ?_
      refine q_eql rfl rfl ?_
      refine q_mv (v := Value.bool (decide ((bt (a1.Keep.getD (Int.toNat v22) (⟨#[]⟩ : ByteArray)) 0) = a6))) rfl ?_
      obtain ⟨v59, hC, H⟩ := bind_some H
      refine wpq_split 9 (K := fun e r ds w => e = .normal ∧ ∃ (G60 : Gh), ds = [] ∧ G38 ≤ G60 ∧ Has [(1, Value.int .u8 a6), (2, Value.int .u8 a7), (3, Value.pointer (some ⟨g11, 0, none⟩)), (7, Value.int .i64 v22), (32, Value.bool v59)] r ∧ Hp G60 (bx g11 [Value.int .i64 a1.Before, Value.int .i64 a1.Behind, Value.slice A2 a1.Keep.length c3] 24 :: L) w ∧ True) ?_ ?_
      · replace H := hC
        by_cases h65 : (bt (a1.Keep.getD (Int.toNat v22) (⟨#[]⟩ : ByteArray)) 0) = a6
        · replace H := ite_yes h65 H
          refine q_fa (a' := ⟨g11, 2, none⟩) fl24_2 rfl (add_plain _ _ _) ?_ (hw := guard_yes rfl rfl rfl (bool_yes h65))
          refine q_ld hI41 0 (v := Value.slice A2 a1.Keep.length c3) ag22 rfl rfl rfl ?_ (hw := guard_yes rfl rfl rfl (bool_yes h65))
          refine q_mv (v := Value.int .i64 v22) rfl ?_ (hw := guard_yes rfl rfl rfl (bool_yes h65))
          obtain ⟨⟨h66, h66'⟩, H⟩ := ite_some H
          obtain ⟨ad67, cs68, hA69, hK70, hn71, hc72⟩ := Dat.get (Dat.mono hG39 hD5) (⟨#[]⟩ : ByteArray) (v22) h66 h66'
          obtain rfl := hK70
          refine q_ia el22 rfl hA69 rfl h66 h66' ?_ (hw := guard_yes rfl rfl rfl (bool_yes h65))
          refine q_lf hI41 (v := Value.string (a1.Keep.getD (Int.toNat v22) (⟨#[]⟩ : ByteArray))) ag9 rfl ((Gh.le_refl _).cel _ _ (hc72 0 _ rfl)) ?_ (hw := guard_yes rfl rfl rfl (bool_yes h65))
          obtain ⟨⟨h73, h73'⟩, H⟩ := ite_some H
          refine q_is so9 rfl rfl h73 h73' rfl ?_ (hw := guard_yes rfl rfl rfl (bool_yes h65))
          refine q_mv (v := Value.int .u8 a7) rfl ?_ (hw := guard_yes rfl rfl rfl (bool_yes h65))
          refine q_eql rfl rfl ?_ (hw := guard_yes rfl rfl rfl (bool_yes h65))
          refine q_pick true (v := Value.bool (decide ((bt (a1.Keep.getD (Int.toNat v22) (⟨#[]⟩ : ByteArray)) 1) = a7))) (bool_yes h65) rfl ?_
          refine wpq_nil ?_
          cases H
          exact ⟨rfl, _, rfl, (Gh.le_refl _), ⟨rfl, rfl, rfl, rfl, rfl, trivial⟩, hI41, trivial⟩
        · replace H := ite_no h65 H
          refine wpq_no (guard_no rfl rfl rfl (bool_no h65) rfl) ?_
          refine wpq_no (guard_no rfl rfl rfl (bool_no h65) rfl) ?_
          refine wpq_no (guard_no rfl rfl rfl (bool_no h65) rfl) ?_
          refine wpq_no (guard_no rfl rfl rfl (bool_no h65) rfl) ?_
          refine wpq_no (guard_no rfl rfl rfl (bool_no h65) rfl) ?_
          refine wpq_no (guard_no rfl rfl rfl (bool_no h65) rfl) ?_
          refine wpq_no (guard_no rfl rfl rfl (bool_no h65) rfl) ?_
          refine wpq_no (guard_no rfl rfl rfl (bool_no h65) rfl) ?_
          refine q_pick false (v := Value.bool false) (bool_no h65) rfl ?_
          refine wpq_nil ?_
          cases H
          exact ⟨rfl, _, rfl, (Gh.le_refl _), ⟨rfl, rfl, rfl, rfl, rfl, trivial⟩, hI41, trivial⟩
      · clear hC
        rintro e r ds wd62 ⟨rfl, G60, rfl, hG61, hHas, hI63, _⟩
        rw [hHas.eq]; clear hHas
        refine wpq_nil ?_
        refine hK50 _ _ _ ?_
        by_cases h74 : v59 = true
        · replace H := ite_yes h74 H
          refine wpc_true (bval_yes h74) ?_
          refine wpc_seq_k fun K75 hK76 => ?_
          refine wpc_region ?_
          refine q_as (v := Value.bool true) rfl ?_
          refine wpq_nil ?_
          refine hK76 _ _ _ ?_
          refine wpc_ret ?_
          cases H
          exact ⟨rfl, _, rfl, (Gh.le_trans hG39 hG61), ⟨rfl, trivial⟩, hI63, trivial⟩
        · replace H := ite_no h74 H
          refine wpc_false (bval_no h74) ?_
          refine wpc_skip ?_
          refine hK48 _ _ _ ?_
          refine wpc_region ?_
          refine q_mv (v := Value.int .i64 v22) rfl ?_
          refine q_add rfl rfl ?_
          refine q_as (v := Value.int .i64 (w64 (v22 + 1))) rfl ?_
          refine wpq_nil ?_
          exact ih _ _ H _ _ _ (Gh.le_trans hG39 hG61) ⟨rfl, rfl, rfl, rfl, trivial⟩ hI63 rfl
    · replace H := ite_no h46 H
      refine wpc_false (bool_no h46) ?_
      refine wpc_exit ?_
      cases H
      exact ⟨rfl, _, rfl, hG39, trivial, hI41, trivial⟩
  · clear hC
    rcases o37 with _ | _
    · rintro e r ds wd31 ⟨rfl, G29, rfl, hG30, hHas, hI32, _⟩
      rw [hHas.eq]; clear hHas
      have hI77 := Hp.sub (L := bx g11 [Value.int .i64 a1.Before, Value.int .i64 a1.Behind, Value.slice A2 a1.Keep.length c3] 24 :: L) (L' := L) hI32 (List.Sublist.cons _ (List.Sublist.refl _))
      cases H
      exact ⟨.inr rfl, rfl, _, ⟨_, _, rfl, rfl, rfl⟩, _, hG30, hI77, rfl⟩
    · rintro e r ds wd35 ⟨rfl, G33, rfl, hG34, hHas, hI36, _⟩
      rw [hHas.eq]; clear hHas
      refine hK15 _ _ _ ?_
      refine wpc_seq_k fun K78 hK79 => ?_
      refine wpc_region ?_
      refine q_as (v := Value.bool false) rfl ?_
      refine wpq_nil ?_
      refine hK79 _ _ _ ?_
      refine wpc_ret ?_
      have hI80 := Hp.sub (L := bx g11 [Value.int .i64 a1.Before, Value.int .i64 a1.Behind, Value.slice A2 a1.Keep.length c3] 24 :: L) (L' := L) hI36 (List.Sublist.cons _ (List.Sublist.refl _))
      cases H
      exact ⟨.inr rfl, rfl, _, ⟨_, _, rfl, rfl, rfl⟩, _, hG34, hI80, rfl⟩
end Go.Proofs.YtiahgcidgbalkaaDoor.LG
