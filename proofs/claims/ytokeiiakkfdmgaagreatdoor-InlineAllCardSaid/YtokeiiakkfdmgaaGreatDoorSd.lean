/-
  The walks: each function computes its plain function: printed by a program out of the translation.
-/
import Derived.Test.YtokeiiakkfdmgaaGreatDoorSc
set_option linter.unusedVariables false
set_option linter.unusedSimpArgs false
set_option maxRecDepth 100000
namespace Go.Proofs.YtokeiiakkfdmgaaGreatDoor.LG
open Go Go.LG Go.RowKit Go.Value
open Go.Lib Go.Shelf Go.Proofs
set_option maxHeartbeats 1000000 in
theorem bidi_runs_int_k1_spec {a1 : List Int} {a8 : List Int} {a15 : Int} {A2 : Option Addr} {c3 : Nat} {g7 : Nat} {A9 : Option Addr} {c10 : Nat} {g14 : Nat} {r1034 : List Int} {G : Gh} {L : List Itm} {w : World} (hI : Hp G (bx g7 [slice A9 a8.length c10] 29 :: bx g14 [int .i64 a15] 3 :: L) w) (hl4 : a1.length ≤ c3) (hD5 : Dat (Kd.int .i64) G A2 a1) (hl11 : a8.length ≤ c10) (hD12 : Dat (Kd.int .i64) G A9 a8) (H : bidi_runs_int_k1 a1 a8 a15 = some r1034) :
    Calls Tryz.prog 130 [slice A2 a1.length c3, func (.func 129) [].toArray [pointer (some ⟨g7, 0, none⟩), pointer (some ⟨g14, 0, none⟩)].toArray].toArray w fun e w' => ∃ (g1033 : Nat) (A1035 : Option Addr) (c1036 : Nat) (g1040 : Nat) (G' : Gh), G ≤ G' ∧ Hp G' (bx g1033 [slice A1035 r1034.length c1036] 29 :: bx g1040 [func (.func 129) [].toArray [pointer (some ⟨g7, 0, none⟩), pointer (some ⟨g14, 0, none⟩)].toArray] 72 :: bx g7 [slice A9 a8.length c10] 29 :: bx g14 [int .i64 a15] 3 :: L) w' ∧ r1034.length ≤ c1036 ∧ Dat (Kd.int .i64) G' A1035 r1034 ∧ e = .returned (func (.func 148) [].toArray [pointer (some ⟨g1033, 0, none⟩), pointer (some ⟨g1040, 0, none⟩)].toArray) := by
 refine calls_intro (N := 6) Tryz.func130 rfl rfl (Nat.le_of_ble_eq_true rfl) ?_
 unfold bidi_runs_int_k1 at H
 refine sr fun K16 hK17 => ?_
 refine q_box hI (v := slice A2 a1.length c3) (vs := [slice A2 a1.length c3]) rfl rfl (fun g19 wd20 hI21 => ?_)
 refine q_box hI21 (v := func (.func 129) [].toArray [pointer (some ⟨g7, 0, none⟩), pointer (some ⟨g14, 0, none⟩)].toArray) (vs := [func (.func 129) [].toArray [pointer (some ⟨g7, 0, none⟩), pointer (some ⟨g14, 0, none⟩)].toArray]) rfl rfl (fun g23 wd24 hI25 => ?_)
 refine q_as (v := Value.nilFunc) rfl ?_
 refine nl ?_
 refine hK17 _ _ _ ?_
 refine sr fun K26 hK27 => ?_
 refine q_fn (vs := []) (us := [pointer (some ⟨g19, 0, none⟩), pointer (some ⟨g23, 0, none⟩)]) rfl rfl ?_
 refine q_as (v := func (.func 148) [].toArray [pointer (some ⟨g19, 0, none⟩), pointer (some ⟨g23, 0, none⟩)].toArray) rfl ?_
 refine nl ?_
 refine hK27 _ _ _ ?_
 refine wpc_ret ?_
 have hI28 := Hp.front hI25 3 rfl
 have hI29 := Hp.front hI28 3 rfl
 have hI30 := Hp.front hI29 2 rfl
 have hI31 := Hp.front hI30 3 rfl
 cases H
 exact ⟨.inr rfl, rfl, _, ⟨_, _, rfl, rfl, rfl⟩, g19, A2, c3, g23, _, gR, hI31, hl4, hD5, rfl⟩
set_option maxHeartbeats 1000000 in
theorem bidi_turn_1_k1_spec {a1 : Int} {a4 : List Int} {a11 : Int} {g3 : Nat} {A5 : Option Addr} {c6 : Nat} {g10 : Nat} {r1024 : Bool} {G : Gh} {L : List Itm} {w : World} (hI : Hp G (bx g3 [slice A5 a4.length c6] 29 :: bx g10 [int .i64 a11] 3 :: L) w) (hl7 : a4.length ≤ c6) (hD8 : Dat (Kd.int .i64) G A5 a4) (H : bidi_turn_1_k1 a1 a4 a11 = some r1024) :
    Calls Tryz.prog 129 [int .i64 a1, pointer (some ⟨g3, 0, none⟩), pointer (some ⟨g10, 0, none⟩)].toArray w fun e w' => ∃ (G' : Gh), G ≤ G' ∧ Hp G' (bx g3 [slice A5 a4.length c6] 29 :: bx g10 [int .i64 a11] 3 :: L) w' ∧ e = .returned (bool r1024) := by
 refine calls_intro (N := 11) Tryz.func129 rfl rfl (Nat.le_of_ble_eq_true rfl) ?_
 unfold bidi_turn_1_k1 at H
 refine sr fun K12 hK13 => ?_
 refine q_as (v := bool false) rfl ?_
 refine nl ?_
 refine hK13 _ _ _ ?_
 refine sQ fun K14 hK15 => ?_
 refine wpc_quiet mixo (by kernel_rfl) ?_
 have hI16 := hI.drew
 refine wq (q_ld hI16 0 (v := slice A5 a4.length c6) ag29 rfl rfl rfl wqd) rfl ?_
 refine wq (q_mv (v := int .i64 a1) rfl wqd) rfl ?_
 obtain ⟨⟨h17, h17'⟩, H⟩ := iS H
 obtain ⟨ad18, cs19, hA20, hK21, hn22, hc23⟩ := Dat.get hD8 (0 : Int) (a1) h17 h17'
 obtain rfl := hK21
 refine wq (q_ia el29 rfl hA20 rfl h17 h17' wqd) rfl ?_
 refine wq (q_lf hI16 (v := int .i64 (a4.getD (Int.toNat a1) (0 : Int))) ag3 rfl (gR.cel _ _ (hc23 0 _ rfl)) wqd) rfl ?_
 refine wq (q_ld hI16 1 (v := int .i64 a11) ag3 rfl rfl rfl wqd) rfl ?_
 refine wq (q_geq rfl rfl wqd) rfl ?_
 refine wq (q_as (v := bool (decide (a11 ≤ (a4.getD (Int.toNat a1) (0 : Int))))) rfl wqd) rfl ?_
 refine wqq_nil ?_
 refine hK15 _ _ _ ?_
 refine wpc_ret ?_
 cases H
 exact ⟨.inr rfl, rfl, _, ⟨_, _, rfl, rfl, rfl⟩, _, gR, hI16, rfl⟩
set_option maxHeartbeats 1000000 in
theorem bidi_runs_1_int_k1_spec {σ : Type} {St : σ → Gh → List Itm → Prop} {yl : Nat} {φ : σ → (Int × Int) → Option (σ × Bool)} {sy : σ} {a3 : List Int} {a12 : List Int} {a19 : Int} {g2 : Nat} {A4 : Option Addr} {c5 : Nat} {g9 : Nat} {g11 : Nat} {A13 : Option Addr} {c14 : Nat} {g18 : Nat} {ry : σ} {G : Gh} {T : List Itm} {w : World} (hI : Hp G (bx g2 [slice A4 a3.length c5] 29 :: bx g9 [func (.func 129) [].toArray [pointer (some ⟨g11, 0, none⟩), pointer (some ⟨g18, 0, none⟩)].toArray] 72 :: bx g11 [slice A13 a12.length c14] 29 :: bx g18 [int .i64 a19] 3 :: T) w) (hl6 : a3.length ≤ c5) (hD7 : Dat (Kd.int .i64) G A4 a3) (hl15 : a12.length ≤ c14) (hD16 : Dat (Kd.int .i64) G A13 a12) (hy : Yl Tryz.prog φ (encP (enc1 (Kd.int .i64)) (enc1 (Kd.int .i64))) St yl) (hS : St sy G T) (H : bidi_runs_1_int_k1 φ sy a3 a12 a19 = some ry) :
    Calls Tryz.prog 148 [func (.yield yl) #[] #[], pointer (some ⟨g2, 0, none⟩), pointer (some ⟨g9, 0, none⟩)].toArray w fun e w' => ∃ (T' : List Itm) (G' : Gh), G ≤ G' ∧ Hp G' (bx g2 [slice A4 a3.length c5] 29 :: bx g9 [func (.func 129) [].toArray [pointer (some ⟨g11, 0, none⟩), pointer (some ⟨g18, 0, none⟩)].toArray] 72 :: bx g11 [slice A13 a12.length c14] 29 :: bx g18 [int .i64 a19] 3 :: T') w' ∧ St ry G' T' ∧ e = .returned (tuple [].toArray) := by
 refine calls_intro (N := 40) Tryz.func148 rfl rfl (Nat.le_of_ble_eq_true rfl) ?_
 unfold bidi_runs_1_int_k1 at H
 refine sr fun K20 hK21 => ?_
 refine q_as (v := int .i64 0) rfl ?_
 refine nl ?_
 refine hK21 _ _ _ ?_
 refine wpc_block ?_
 obtain ⟨o53, hC, H⟩ := bS H
 refine wpc_mono (Q := fun e r ds w => match (generalizing := false) o53 with | (Sum.inl v40) => e = .ret ∧ ∃ (T39 : List Itm) (G45 : Gh), ds = [] ∧ G ≤ G45 ∧ Has [] r ∧ Hp G45 (bx g2 [slice A4 a3.length c5] 29 :: bx g9 [func (.func 129) [].toArray [pointer (some ⟨g11, 0, none⟩), pointer (some ⟨g18, 0, none⟩)].toArray] 72 :: bx g11 [slice A13 a12.length c14] 29 :: bx g18 [int .i64 a19] 3 :: T39) w ∧ St v40 G45 T39 ∧ True | (Sum.inr v43) => e = .exit 0 ∧ ∃ (T42 : List Itm) (G49 : Gh), ds = [] ∧ G ≤ G49 ∧ Has [] r ∧ Hp G49 (bx g2 [slice A4 a3.length c5] 29 :: bx g9 [func (.func 129) [].toArray [pointer (some ⟨g11, 0, none⟩), pointer (some ⟨g18, 0, none⟩)].toArray] 72 :: bx g11 [slice A13 a12.length c14] 29 :: bx g18 [int .i64 a19] 3 :: T42) w ∧ St v43 G49 T42 ∧ True) ?_ ?_
 clear H
 refine wpc_loop fun I hLp => ?_
 refine bidi_runs_1_int_k1_l38.partial_correctness φ a3 a12 a19 (fun v26 v28 o => ∀ (T27 : List Itm) (G54 : Gh) (r : Rg) (w : World), G ≤ G54 → Has [(0, func (.yield yl) #[] #[]), (1, pointer (some ⟨g2, 0, none⟩)), (2, pointer (some ⟨g9, 0, none⟩)), (4, int .i64 v26)] r → Hp G54 (bx g2 [slice A4 a3.length c5] 29 :: bx g9 [func (.func 129) [].toArray [pointer (some ⟨g11, 0, none⟩), pointer (some ⟨g18, 0, none⟩)].toArray] 72 :: bx g11 [slice A13 a12.length c14] 29 :: bx g18 [int .i64 a19] 3 :: T27) w → St v28 G54 T27 → o = o53 → I r [] w) ?_ 0 sy _ hC T _ _ _ gR ⟨rfl, rfl, rfl, rfl, trivial⟩ hI hS rfl
 intro _ ih v26 v28 o H T27 G54 r wd56 hG55 hHas hI57 hS29 ho
 rw [ho] at H; clear ho
 rw [hHas.eq]; clear hHas
 refine hLp _ _ _ ?_
 refine sQ fun K58 hK59 => ?_
 refine sr fun K60 hK61 => ?_
 refine q_mv (v := int .i64 v26) rfl ?_
 refine q_ld hI57 0 (v := slice A4 a3.length c5) ag29 rfl rfl rfl ?_
 refine q_len so29 rfl ?_
 refine q_lss rfl rfl ?_
 refine nl ?_
 refine hK61 _ _ _ ?_
 by_cases h62 : v26 < (a3.length : Int)
 replace H := iY h62 H
 refine wpc_true (bool_yes h62) ?_
 refine wpc_skip ?_
 refine hK59 _ _ _ ?_
 refine sQ fun K63 hK64 => ?_
 refine wpc_block ?_
 refine sr fun K65 hK66 => ?_
 refine q_mv (v := int .i64 v26) rfl ?_
 refine q_as (v := int .i64 v26) rfl ?_
 refine nl ?_
 refine hK66 _ _ _ ?_
 refine sQ fun K67 hK68 => ?_
 refine wpc_block ?_
 obtain ⟨v80, hC, H⟩ := bS H
 refine wpc_mono (Q := fun e r ds w => e = .exit 2 ∧ ∃ (G81 : Gh), ds = [] ∧ G54 ≤ G81 ∧ Has [(0, func (.yield yl) #[] #[]), (1, pointer (some ⟨g2, 0, none⟩)), (2, pointer (some ⟨g9, 0, none⟩)), (4, int .i64 v26), (5, int .i64 v80)] r ∧ Hp G81 (bx g2 [slice A4 a3.length c5] 29 :: bx g9 [func (.func 129) [].toArray [pointer (some ⟨g11, 0, none⟩), pointer (some ⟨g18, 0, none⟩)].toArray] 72 :: bx g11 [slice A13 a12.length c14] 29 :: bx g18 [int .i64 a19] 3 :: T27) w ∧ True) ?_ ?_
 clear H
 refine wpc_loop fun I hLp => ?_
 refine bidi_runs_1_int_k1_l79.partial_correctness a3 a12 a19 (fun v73 o => ∀ (G86 : Gh) (r : Rg) (w : World), G54 ≤ G86 → Has [(0, func (.yield yl) #[] #[]), (1, pointer (some ⟨g2, 0, none⟩)), (2, pointer (some ⟨g9, 0, none⟩)), (4, int .i64 v26), (5, int .i64 v73)] r → Hp G86 (bx g2 [slice A4 a3.length c5] 29 :: bx g9 [func (.func 129) [].toArray [pointer (some ⟨g11, 0, none⟩), pointer (some ⟨g18, 0, none⟩)].toArray] 72 :: bx g11 [slice A13 a12.length c14] 29 :: bx g18 [int .i64 a19] 3 :: T27) w → o = v80 → I r [] w) ?_ v26 _ hC _ _ _ gR ⟨rfl, rfl, rfl, rfl, rfl, trivial⟩ hI57 rfl
 intro _ ih v73 o H G86 r wd88 hG87 hHas hI89 ho
 rw [ho] at H; clear ho
 rw [hHas.eq]; clear hHas
 refine hLp _ _ _ ?_
 refine sQ fun K90 hK91 => ?_
 refine sQ fun K92 hK93 => ?_
 obtain ⟨v113, hC, H⟩ := bS H
 refine wpc_mono (Q := fun e r ds w => e = .normal ∧ ∃ (G114 : Gh), ds = [] ∧ G86 ≤ G114 ∧ Has [(0, func (.yield yl) #[] #[]), (1, pointer (some ⟨g2, 0, none⟩)), (2, pointer (some ⟨g9, 0, none⟩)), (4, int .i64 v26), (5, int .i64 v73), (24, bool v113)] r ∧ Hp G114 (bx g2 [slice A4 a3.length c5] 29 :: bx g9 [func (.func 129) [].toArray [pointer (some ⟨g11, 0, none⟩), pointer (some ⟨g18, 0, none⟩)].toArray] 72 :: bx g11 [slice A13 a12.length c14] 29 :: bx g18 [int .i64 a19] 3 :: T27) w ∧ True) ?_ ?_
 replace H := hC
 by_cases h119 : v73 < (a3.length : Int)
 replace H := iY h119 H
 obtain ⟨⟨h120, h120'⟩, H⟩ := iS H
 obtain ⟨ad121, cs122, hA123, hK124, hn125, hc126⟩ := Dat.get (Dat.mono (gT hG55 hG87) hD7) (0 : Int) (v73) h120 h120'
 obtain rfl := hK124
 obtain ⟨y131, hy316, H⟩ := bS H
 refine wpc_drawL [0, 0, 2, 7, 15, 31, 31, 31, 223, 479, 1023, 2047] (fun D r w => (D 10 = false ∧ ∃ (G' : Gh), G86 ≤ G' ∧ Regs [(0, func (.yield yl) #[] #[]), (1, pointer (some ⟨g2, 0, none⟩)), (2, pointer (some ⟨g9, 0, none⟩)), (4, int .i64 v26), (5, int .i64 v73)] [] [(0, 13, int .i64 v73), (1, 14, slice A4 a3.length c5), (2, 15, int .i64 (a3.length : Int)), (3, 16, bool (decide (v73 < (a3.length : Int)))), (4, 17, bool (decide (v73 < (a3.length : Int)))), (5, 18, func (.func 129) [].toArray [pointer (some ⟨g11, 0, none⟩), pointer (some ⟨g18, 0, none⟩)].toArray), (6, 19, slice A4 a3.length c5), (7, 20, int .i64 v73), (8, 21, pointer (some (ad121.add (Int.toNat v73 * 1)))), (9, 22, int .i64 (a3.getD (Int.toNat v73) (0 : Int)))] D r ∧ Hp G' (bx g2 [slice A4 a3.length c5] 29 :: bx g9 [func (.func 129) [].toArray [pointer (some ⟨g11, 0, none⟩), pointer (some ⟨g18, 0, none⟩)].toArray] 72 :: bx g11 [slice A13 a12.length c14] 29 :: bx g18 [int .i64 a19] 3 :: T27) w) ∨ (D 10 = true ∧ ∃ (G' : Gh), G86 ≤ G' ∧ Regs [(0, func (.yield yl) #[] #[]), (1, pointer (some ⟨g2, 0, none⟩)), (2, pointer (some ⟨g9, 0, none⟩)), (4, int .i64 v26), (5, int .i64 v73)] [] [(0, 13, int .i64 v73), (1, 14, slice A4 a3.length c5), (2, 15, int .i64 (a3.length : Int)), (3, 16, bool (decide (v73 < (a3.length : Int)))), (4, 17, bool (decide (v73 < (a3.length : Int)))), (5, 18, func (.func 129) [].toArray [pointer (some ⟨g11, 0, none⟩), pointer (some ⟨g18, 0, none⟩)].toArray), (6, 19, slice A4 a3.length c5), (7, 20, int .i64 v73), (8, 21, pointer (some (ad121.add (Int.toNat v73 * 1)))), (9, 22, int .i64 (a3.getD (Int.toNat v73) (0 : Int))), (10, 23, bool y131), (11, 24, bool y131)] D r ∧ Hp G' (bx g11 [slice A13 a12.length c14] 29 :: bx g18 [int .i64 a19] 3 :: bx g2 [slice A4 a3.length c5] 29 :: bx g9 [func (.func 129) [].toArray [pointer (some ⟨g11, 0, none⟩), pointer (some ⟨g18, 0, none⟩)].toArray] 72 :: T27) w)) mixo rfl rfl ?_ ?_ ?_
 exact (.inl ⟨rfl, _, Gh.le_refl _, Regs.start ⟨rfl, rfl, rfl, rfl, rfl, trivial⟩ trivial, hI89.drew⟩)
 refine ⟨?_, ?_, ?_, ?_, ?_, ?_, ?_, ?_, ?_, ?_, ?_, ?_, trivial⟩
 rintro D r wd335 (⟨hd2, G331, hG332, hReg334, hI333⟩ | ⟨hd1, G331, hG332, hReg334, hI333⟩) hDi hpre hpost
 obtain ⟨r0, rfl⟩ := Has.ex (cC (hReg334.ins.get 4 rfl) cN)
 refine q_mv (v := int .i64 v73) rfl ?_
 exact nl ⟨rfl, (.inl ⟨hd2, _, hG332, (Regs.step hReg334 hDi rfl rfl rfl rfl), hI333⟩)⟩
 cases (hpost 10 rfl).symm.trans hd1
 rintro D r wd335 (⟨hd2, G331, hG332, hReg334, hI333⟩ | ⟨hd1, G331, hG332, hReg334, hI333⟩) hDi hpre hpost
 obtain ⟨r0, rfl⟩ := Has.ex (cC (hReg334.ins.get 1 rfl) cN)
 refine q_ld hI333 0 (v := slice A4 a3.length c5) ag29 rfl rfl rfl ?_
 exact nl ⟨rfl, (.inl ⟨hd2, _, hG332, (Regs.step hReg334 hDi rfl rfl rfl rfl), hI333⟩)⟩
 cases (hpost 10 rfl).symm.trans hd1
 rintro D r wd335 (⟨hd2, G331, hG332, hReg334, hI333⟩ | ⟨hd1, G331, hG332, hReg334, hI333⟩) hDi hpre hpost
 obtain ⟨r0, rfl⟩ := Has.ex (cC (hReg334.get 1 rfl (hpre 1 rfl)) cN)
 refine q_len so29 rfl ?_
 exact nl ⟨rfl, (.inl ⟨hd2, _, hG332, (Regs.step hReg334 hDi rfl rfl rfl rfl), hI333⟩)⟩
 cases (hpost 10 rfl).symm.trans hd1
 rintro D r wd335 (⟨hd2, G331, hG332, hReg334, hI333⟩ | ⟨hd1, G331, hG332, hReg334, hI333⟩) hDi hpre hpost
 obtain ⟨r0, rfl⟩ := Has.ex (cC (hReg334.get 0 rfl (hpre 0 rfl)) (cC (hReg334.get 2 rfl (hpre 2 rfl)) cN))
 refine q_lss rfl rfl ?_
 exact nl ⟨rfl, (.inl ⟨hd2, _, hG332, (Regs.step hReg334 hDi rfl rfl rfl rfl), hI333⟩)⟩
 cases (hpost 10 rfl).symm.trans hd1
 rintro D r wd335 (⟨hd2, G331, hG332, hReg334, hI333⟩ | ⟨hd1, G331, hG332, hReg334, hI333⟩) hDi hpre hpost
 obtain ⟨r0, rfl⟩ := Has.ex (cC (hReg334.get 3 rfl (hpre 3 rfl)) cN)
 refine q_mv (v := bool (decide (v73 < (a3.length : Int)))) rfl ?_
 exact nl ⟨rfl, (.inl ⟨hd2, _, hG332, (Regs.step hReg334 hDi rfl rfl rfl rfl), hI333⟩)⟩
 cases (hpost 10 rfl).symm.trans hd1
 rintro D r wd335 (⟨hd2, G331, hG332, hReg334, hI333⟩ | ⟨hd1, G331, hG332, hReg334, hI333⟩) hDi hpre hpost
 obtain ⟨r0, rfl⟩ := Has.ex (cC (hReg334.ins.get 2 rfl) (cC (hReg334.get 4 rfl (hpre 4 rfl)) cN))
 refine q_ld hI333 1 (v := func (.func 129) [].toArray [pointer (some ⟨g11, 0, none⟩), pointer (some ⟨g18, 0, none⟩)].toArray) ag72 rfl rfl rfl ?_ (hw := gY rfl rfl rfl (bool_yes h119))
 exact nl ⟨rfl, (.inl ⟨hd2, _, hG332, (Regs.step hReg334 hDi rfl rfl rfl rfl), hI333⟩)⟩
 cases (hpost 10 rfl).symm.trans hd1
 rintro D r wd335 (⟨hd2, G331, hG332, hReg334, hI333⟩ | ⟨hd1, G331, hG332, hReg334, hI333⟩) hDi hpre hpost
 obtain ⟨r0, rfl⟩ := Has.ex (cC (hReg334.ins.get 1 rfl) (cC (hReg334.get 4 rfl (hpre 4 rfl)) cN))
 refine q_ld hI333 0 (v := slice A4 a3.length c5) ag29 rfl rfl rfl ?_ (hw := gY rfl rfl rfl (bool_yes h119))
 exact nl ⟨rfl, (.inl ⟨hd2, _, hG332, (Regs.step hReg334 hDi rfl rfl rfl rfl), hI333⟩)⟩
 cases (hpost 10 rfl).symm.trans hd1
 rintro D r wd335 (⟨hd2, G331, hG332, hReg334, hI333⟩ | ⟨hd1, G331, hG332, hReg334, hI333⟩) hDi hpre hpost
 obtain ⟨r0, rfl⟩ := Has.ex (cC (hReg334.ins.get 4 rfl) (cC (hReg334.get 4 rfl (hpre 4 rfl)) cN))
 refine q_mv (v := int .i64 v73) rfl ?_ (hw := gY rfl rfl rfl (bool_yes h119))
 exact nl ⟨rfl, (.inl ⟨hd2, _, hG332, (Regs.step hReg334 hDi rfl rfl rfl rfl), hI333⟩)⟩
 cases (hpost 10 rfl).symm.trans hd1
 rintro D r wd335 (⟨hd2, G331, hG332, hReg334, hI333⟩ | ⟨hd1, G331, hG332, hReg334, hI333⟩) hDi hpre hpost
 obtain ⟨r0, rfl⟩ := Has.ex (cC (hReg334.get 4 rfl (hpre 4 rfl)) (cC (hReg334.get 6 rfl (hpre 6 rfl)) (cC (hReg334.get 7 rfl (hpre 7 rfl)) cN)))
 refine q_ia el29 rfl hA123 rfl h120 h120' ?_ (hw := gY rfl rfl rfl (bool_yes h119))
 exact nl ⟨rfl, (.inl ⟨hd2, _, hG332, (Regs.step hReg334 hDi rfl rfl rfl rfl), hI333⟩)⟩
 cases (hpost 10 rfl).symm.trans hd1
 rintro D r wd335 (⟨hd2, G331, hG332, hReg334, hI333⟩ | ⟨hd1, G331, hG332, hReg334, hI333⟩) hDi hpre hpost
 obtain ⟨r0, rfl⟩ := Has.ex (cC (hReg334.get 4 rfl (hpre 4 rfl)) (cC (hReg334.get 8 rfl (hpre 8 rfl)) cN))
 refine q_lf hI333 (v := int .i64 (a3.getD (Int.toNat v73) (0 : Int))) ag3 rfl (hG332.cel _ _ (hc126 0 _ rfl)) ?_ (hw := gY rfl rfl rfl (bool_yes h119))
 exact nl ⟨rfl, (.inl ⟨hd2, _, hG332, (Regs.step hReg334 hDi rfl rfl rfl rfl), hI333⟩)⟩
 cases (hpost 10 rfl).symm.trans hd1
 rintro D r wd335 (⟨hd2, G331, hG332, hReg334, hI333⟩ | ⟨hd1, G331, hG332, hReg334, hI333⟩) hDi hpre hpost
 obtain ⟨r0, rfl⟩ := Has.ex (cC (hReg334.get 4 rfl (hpre 4 rfl)) (cC (hReg334.get 5 rfl (hpre 5 rfl)) (cC (hReg334.get 9 rfl (hpre 9 rfl)) cN)))
 have hI327 := Hp.front hI333 1 rfl
 have hI328 := Hp.front hI327 1 rfl
 have hI329 := Hp.front hI328 3 rfl
 have hI330 := Hp.front hI329 3 rfl
 refine q_cv (vs := [int .i64 (a3.getD (Int.toNat v73) (0 : Int)), pointer (some ⟨g11, 0, none⟩), pointer (some ⟨g18, 0, none⟩)]) bo129 rfl rfl (bidi_turn_1_k1_spec (a1 := a3.getD (Int.toNat v73) (0 : Int)) (a4 := a12) (a11 := a19) hI330 hl15 (Dat.mono (gT (gT hG55 hG87) hG332) hD16) hy316) ?_ (hw := gY rfl rfl rfl (bool_yes h119))
 rintro _ wd129 ⟨G127, hG128, hI130, rfl⟩
 refine ⟨_, rfl, ?_⟩
 exact nl ⟨rfl, (.inr ⟨rfl, _, (gT hG332 hG128), (Regs.step (Regs.more (new := [(10, 23, bool y131), (11, 24, bool y131)]) hReg334 (List.forall_mem_cons.2 ⟨hDi, (List.forall_mem_cons.2 ⟨hpost 11 rfl, (fun _ h => nomatch h)⟩)⟩)) hDi rfl rfl rfl rfl), hI130⟩)⟩
 cases hDi.symm.trans hd1
 rintro D r wd335 (⟨hd2, G331, hG332, hReg334, hI333⟩ | ⟨hd1, G331, hG332, hReg334, hI333⟩) hDi hpre hpost
 cases (hpre 10 rfl).symm.trans hd2
 obtain ⟨r0, rfl⟩ := Has.ex (cC (hReg334.get 4 rfl (hpre 4 rfl)) (cC (hReg334.get 10 rfl (hpre 10 rfl)) cN))
 refine q_pick true (v := bool y131) (bool_yes h119) rfl ?_
 exact nl ⟨rfl, (.inr ⟨hd1, _, hG332, (Regs.step hReg334 hDi rfl rfl rfl rfl), hI333⟩)⟩
 intro D r wd335 hall hR
 rcases hR with ⟨hd2, G331, hG332, hReg334, hI333⟩ | ⟨hd1, G331, hG332, hReg334, hI333⟩
 cases (hall 10 (Nat.le_of_ble_eq_true rfl)).symm.trans hd2
 obtain ⟨r0, rfl⟩ := Has.ex (cC (hReg334.ins.get 0 rfl) (cC (hReg334.ins.get 1 rfl) (cC (hReg334.ins.get 2 rfl) (cC (hReg334.ins.get 3 rfl) (cC (hReg334.ins.get 4 rfl) (cC (hReg334.get 5 rfl (hall 5 (Nat.le_of_ble_eq_true rfl))) (cC (hReg334.get 6 rfl (hall 6 (Nat.le_of_ble_eq_true rfl))) (cC (hReg334.get 7 rfl (hall 7 (Nat.le_of_ble_eq_true rfl))) (cC (hReg334.get 8 rfl (hall 8 (Nat.le_of_ble_eq_true rfl))) (cC (hReg334.get 9 rfl (hall 9 (Nat.le_of_ble_eq_true rfl))) (cC (hReg334.get 10 rfl (hall 10 (Nat.le_of_ble_eq_true rfl))) (cC (hReg334.get 11 rfl (hall 11 (Nat.le_of_ble_eq_true rfl))) cN))))))))))))
 have hI336 := Hp.front hI333 1 rfl
 have hI337 := Hp.front hI336 1 rfl
 have hI338 := Hp.front hI337 3 rfl
 have hI339 := Hp.front hI338 3 rfl
 cases H
 exact ⟨rfl, _, rfl, hG332, ⟨rfl, rfl, rfl, rfl, rfl, rfl, trivial⟩, hI339, trivial⟩
 replace H := iN h119 H
 refine wpc_drawL [0, 0, 2, 7, 15, 31, 31, 31, 223, 479, 1023, 2047] (fun D r w => (∃ (G' : Gh), G86 ≤ G' ∧ Regs [(0, func (.yield yl) #[] #[]), (1, pointer (some ⟨g2, 0, none⟩)), (2, pointer (some ⟨g9, 0, none⟩)), (4, int .i64 v26), (5, int .i64 v73)] [] [(0, 13, int .i64 v73), (1, 14, slice A4 a3.length c5), (2, 15, int .i64 (a3.length : Int)), (3, 16, bool (decide (v73 < (a3.length : Int)))), (4, 17, bool (decide (v73 < (a3.length : Int)))), (5, 18, undef), (6, 19, undef), (7, 20, undef), (8, 21, undef), (9, 22, undef), (10, 23, undef), (11, 24, bool false)] D r ∧ Hp G' (bx g2 [slice A4 a3.length c5] 29 :: bx g9 [func (.func 129) [].toArray [pointer (some ⟨g11, 0, none⟩), pointer (some ⟨g18, 0, none⟩)].toArray] 72 :: bx g11 [slice A13 a12.length c14] 29 :: bx g18 [int .i64 a19] 3 :: T27) w)) mixo rfl rfl ?_ ?_ ?_
 exact ⟨_, Gh.le_refl _, Regs.start ⟨rfl, rfl, rfl, rfl, rfl, trivial⟩ trivial, hI89.drew⟩
 refine ⟨?_, ?_, ?_, ?_, ?_, ?_, ?_, ?_, ?_, ?_, ?_, ?_, trivial⟩
 rintro D r wd344 ⟨G340, hG341, hReg343, hI342⟩ hDi hpre hpost
 obtain ⟨r0, rfl⟩ := Has.ex (cC (hReg343.ins.get 4 rfl) cN)
 refine q_mv (v := int .i64 v73) rfl ?_
 exact nl ⟨rfl, ⟨_, hG341, (Regs.step hReg343 hDi rfl rfl rfl rfl), hI342⟩⟩
 rintro D r wd344 ⟨G340, hG341, hReg343, hI342⟩ hDi hpre hpost
 obtain ⟨r0, rfl⟩ := Has.ex (cC (hReg343.ins.get 1 rfl) cN)
 refine q_ld hI342 0 (v := slice A4 a3.length c5) ag29 rfl rfl rfl ?_
 exact nl ⟨rfl, ⟨_, hG341, (Regs.step hReg343 hDi rfl rfl rfl rfl), hI342⟩⟩
 rintro D r wd344 ⟨G340, hG341, hReg343, hI342⟩ hDi hpre hpost
 obtain ⟨r0, rfl⟩ := Has.ex (cC (hReg343.get 1 rfl (hpre 1 rfl)) cN)
 refine q_len so29 rfl ?_
 exact nl ⟨rfl, ⟨_, hG341, (Regs.step hReg343 hDi rfl rfl rfl rfl), hI342⟩⟩
 rintro D r wd344 ⟨G340, hG341, hReg343, hI342⟩ hDi hpre hpost
 obtain ⟨r0, rfl⟩ := Has.ex (cC (hReg343.get 0 rfl (hpre 0 rfl)) (cC (hReg343.get 2 rfl (hpre 2 rfl)) cN))
 refine q_lss rfl rfl ?_
 exact nl ⟨rfl, ⟨_, hG341, (Regs.step hReg343 hDi rfl rfl rfl rfl), hI342⟩⟩
 rintro D r wd344 ⟨G340, hG341, hReg343, hI342⟩ hDi hpre hpost
 obtain ⟨r0, rfl⟩ := Has.ex (cC (hReg343.get 3 rfl (hpre 3 rfl)) cN)
 refine q_mv (v := bool (decide (v73 < (a3.length : Int)))) rfl ?_
 exact nl ⟨rfl, ⟨_, hG341, (Regs.step hReg343 hDi rfl rfl rfl rfl), hI342⟩⟩
 rintro D r wd344 ⟨G340, hG341, hReg343, hI342⟩ hDi hpre hpost
 obtain ⟨r0, rfl⟩ := Has.ex (cC (hReg343.get 4 rfl (hpre 4 rfl)) cN)
 refine wN (gN rfl rfl rfl (bool_no h119) rfl) ?_
 exact nl ⟨rfl, ⟨_, hG341, (Regs.step hReg343 hDi rfl rfl rfl rfl), hI342⟩⟩
 rintro D r wd344 ⟨G340, hG341, hReg343, hI342⟩ hDi hpre hpost
 obtain ⟨r0, rfl⟩ := Has.ex (cC (hReg343.get 4 rfl (hpre 4 rfl)) cN)
 refine wN (gN rfl rfl rfl (bool_no h119) rfl) ?_
 exact nl ⟨rfl, ⟨_, hG341, (Regs.step hReg343 hDi rfl rfl rfl rfl), hI342⟩⟩
 rintro D r wd344 ⟨G340, hG341, hReg343, hI342⟩ hDi hpre hpost
 obtain ⟨r0, rfl⟩ := Has.ex (cC (hReg343.get 4 rfl (hpre 4 rfl)) cN)
 refine wN (gN rfl rfl rfl (bool_no h119) rfl) ?_
 exact nl ⟨rfl, ⟨_, hG341, (Regs.step hReg343 hDi rfl rfl rfl rfl), hI342⟩⟩
 rintro D r wd344 ⟨G340, hG341, hReg343, hI342⟩ hDi hpre hpost
 obtain ⟨r0, rfl⟩ := Has.ex (cC (hReg343.get 4 rfl (hpre 4 rfl)) cN)
 refine wN (gN rfl rfl rfl (bool_no h119) rfl) ?_
 exact nl ⟨rfl, ⟨_, hG341, (Regs.step hReg343 hDi rfl rfl rfl rfl), hI342⟩⟩
 rintro D r wd344 ⟨G340, hG341, hReg343, hI342⟩ hDi hpre hpost
 obtain ⟨r0, rfl⟩ := Has.ex (cC (hReg343.get 4 rfl (hpre 4 rfl)) cN)
 refine wN (gN rfl rfl rfl (bool_no h119) rfl) ?_
 exact nl ⟨rfl, ⟨_, hG341, (Regs.step hReg343 hDi rfl rfl rfl rfl), hI342⟩⟩
 rintro D r wd344 ⟨G340, hG341, hReg343, hI342⟩ hDi hpre hpost
 obtain ⟨r0, rfl⟩ := Has.ex (cC (hReg343.get 4 rfl (hpre 4 rfl)) cN)
 refine wN (gN rfl rfl rfl (bool_no h119) rfl) ?_
 exact nl ⟨rfl, ⟨_, hG341, (Regs.step hReg343 hDi rfl rfl rfl rfl), hI342⟩⟩
 rintro D r wd344 ⟨G340, hG341, hReg343, hI342⟩ hDi hpre hpost
 obtain ⟨r0, rfl⟩ := Has.ex (cC (hReg343.get 4 rfl (hpre 4 rfl)) (cC (hReg343.get 10 rfl (hpre 10 rfl)) cN))
 refine q_pick false (v := bool false) (bool_no h119) rfl ?_
 exact nl ⟨rfl, ⟨_, hG341, (Regs.step hReg343 hDi rfl rfl rfl rfl), hI342⟩⟩
 intro D r wd344 hall hR
 obtain ⟨G340, hG341, hReg343, hI342⟩ := hR
 obtain ⟨r0, rfl⟩ := Has.ex (cC (hReg343.ins.get 0 rfl) (cC (hReg343.ins.get 1 rfl) (cC (hReg343.ins.get 2 rfl) (cC (hReg343.ins.get 3 rfl) (cC (hReg343.ins.get 4 rfl) (cC (hReg343.get 11 rfl (hall 11 (Nat.le_of_ble_eq_true rfl))) cN))))))
 cases H
 exact ⟨rfl, _, rfl, hG341, ⟨rfl, rfl, rfl, rfl, rfl, rfl, trivial⟩, hI342, trivial⟩
 clear hC
 rintro e r ds wd116 ⟨rfl, G114, rfl, hG115, hHas, hI117, _⟩
 rw [hHas.eq]; clear hHas
 refine hK93 _ _ _ ?_
 by_cases h345 : v113 = true
 replace H := iY h345 H
 refine wpc_true (bval_yes h345) ?_
 refine wpc_skip ?_
 refine hK91 _ _ _ ?_
 refine wpc_block ?_
 refine wpc_region ?_
 refine q_mv (v := int .i64 v73) rfl ?_
 refine q_add rfl rfl ?_
 refine q_as (v := int .i64 (w64 (v73 + 1))) rfl ?_
 refine nl ?_
 exact ih _ _ H _ _ _ (gT hG87 hG115) ⟨rfl, rfl, rfl, rfl, rfl, trivial⟩ hI117 rfl
 replace H := iN h345 H
 refine wpc_false (bval_no h345) ?_
 refine wpc_exit ?_
 cases H
 exact ⟨rfl, _, rfl, (gT hG87 hG115), ⟨rfl, rfl, rfl, rfl, rfl, trivial⟩, hI117, trivial⟩
 clear hC
 rintro e r ds wd83 ⟨rfl, G81, rfl, hG82, hHas, hI84, _⟩
 rw [hHas.eq]; clear hHas
 refine hK68 _ _ _ ?_
 refine sQ fun K346 hK347 => ?_
 refine sr fun K348 hK349 => ?_
 refine q_mv (v := int .i64 v80) rfl ?_
 refine q_mv (v := int .i64 v26) rfl ?_
 refine q_gtr rfl rfl ?_
 refine q_mv (v := bool (decide (v26 < v80))) rfl ?_
 obtain ⟨⟨v350, v352⟩, hC, H⟩ := bS H
 refine wpq_split 6 (K := fun e r ds w => e = .normal ∧ ∃ (T351 : List Itm) (G354 : Gh), ds = [] ∧ G81 ≤ G354 ∧ Has [(0, func (.yield yl) #[] #[]), (1, pointer (some ⟨g2, 0, none⟩)), (2, pointer (some ⟨g9, 0, none⟩)), (4, int .i64 v26), (5, int .i64 v80), (36, bool v350)] r ∧ Hp G354 (bx g2 [slice A4 a3.length c5] 29 :: bx g9 [func (.func 129) [].toArray [pointer (some ⟨g11, 0, none⟩), pointer (some ⟨g18, 0, none⟩)].toArray] 72 :: bx g11 [slice A13 a12.length c14] 29 :: bx g18 [int .i64 a19] 3 :: T351) w ∧ St v352 G354 T351 ∧ True) ?_ ?_
 replace H := hC
 by_cases h359 : v26 < v80
 replace H := iY h359 H
 refine q_mv (v := func (.yield yl) #[] #[]) rfl ?_ (hw := gY rfl rfl rfl (bool_yes h359))
 refine q_mv (v := int .i64 v26) rfl ?_ (hw := gY rfl rfl rfl (bool_yes h359))
 refine q_mv (v := int .i64 v80) rfl ?_ (hw := gY rfl rfl rfl (bool_yes h359))
 obtain ⟨⟨s360, b361⟩, hx362, H⟩ := bS H
 refine q_yl hy [bx g2 [slice A4 a3.length c5] 29, bx g9 [func (.func 129) [].toArray [pointer (some ⟨g11, 0, none⟩), pointer (some ⟨g18, 0, none⟩)].toArray] 72, bx g11 [slice A13 a12.length c14] 29, bx g18 [int .i64 a19] 3] hI84 (hy.mono hG82 hS29) rfl rfl ⟨_, _, rfl, ⟨_, rfl, rfl⟩, ⟨_, rfl, rfl⟩⟩ hx362 (fun wd363 G364 T365 hG366 hS367 hI368 => ?_) (hw := gY rfl rfl rfl (bool_yes h359))
 refine q_not rfl ?_ (hw := gY rfl rfl rfl (bool_yes h359))
 refine q_pick true (v := bool (!b361)) (bool_yes h359) rfl ?_
 refine nl ?_
 cases H
 exact ⟨rfl, T365, _, rfl, hG366, ⟨rfl, rfl, rfl, rfl, rfl, rfl, trivial⟩, hI368, hS367, trivial⟩
 replace H := iN h359 H
 refine wN (gN rfl rfl rfl (bool_no h359) rfl) ?_
 refine wN (gN rfl rfl rfl (bool_no h359) rfl) ?_
 refine wN (gN rfl rfl rfl (bool_no h359) rfl) ?_
 refine wN (gN rfl rfl rfl (bool_no h359) rfl) ?_
 refine wN (gN rfl rfl rfl (bool_no h359) rfl) ?_
 refine q_pick false (v := bool false) (bool_no h359) rfl ?_
 refine nl ?_
 cases H
 exact ⟨rfl, T27, _, rfl, gR, ⟨rfl, rfl, rfl, rfl, rfl, rfl, trivial⟩, hI84, (hy.mono hG82 hS29), trivial⟩
 clear hC
 rintro e r ds wd356 ⟨rfl, T351, G354, rfl, hG355, hHas, hI357, hS353, _⟩
 rw [hHas.eq]; clear hHas
 refine nl ?_
 refine hK349 _ _ _ ?_
 by_cases h369 : v350 = true
 replace H := iY h369 H
 refine wpc_true (bval_yes h369) ?_
 refine wpc_ret ?_
 cases H
 exact ⟨rfl, T351, _, rfl, (gT (gT hG55 hG82) hG355), trivial, hI357, hS353, trivial⟩
 replace H := iN h369 H
 refine wpc_false (bval_no h369) ?_
 refine wpc_skip ?_
 refine hK347 _ _ _ ?_
 refine wpc_region ?_
 refine q_mv (v := int .i64 v26) rfl ?_
 refine q_mv (v := int .i64 v80) rfl ?_
 refine q_max rfl rfl ?_
 refine q_as (v := int .i64 (max v26 v80)) rfl ?_
 refine nl ?_
 refine hK64 _ _ _ ?_
 refine wpc_region ?_
 refine q_mv (v := int .i64 (max v26 v80)) rfl ?_
 refine q_add rfl rfl ?_
 refine q_as (v := int .i64 (w64 ((max v26 v80) + 1))) rfl ?_
 refine nl ?_
 exact ih _ _ _ H T351 _ _ _ (gT (gT hG55 hG82) hG355) ⟨rfl, rfl, rfl, rfl, trivial⟩ hI357 hS353 rfl
 replace H := iN h62 H
 refine wpc_false (bool_no h62) ?_
 refine wpc_exit ?_
 cases H
 exact ⟨rfl, T27, _, rfl, hG55, trivial, hI57, hS29, trivial⟩
 clear hC
 rcases o53 with v40 | v43
 rintro e r ds wd47 ⟨rfl, T39, G45, rfl, hG46, hHas, hI48, hS41, _⟩
 rw [hHas.eq]; clear hHas
 cases H
 exact ⟨.inr rfl, rfl, _, rfl, T39, _, hG46, hI48, hS41, rfl⟩
 rintro e r ds wd51 ⟨rfl, T42, G49, rfl, hG50, hHas, hI52, hS44, _⟩
 rw [hHas.eq]; clear hHas
 cases H
 exact ⟨.inl rfl, rfl, _, rfl, T42, _, hG50, hI52, hS44, rfl⟩
set_option maxHeartbeats 1000000 in
theorem slices_Clone_int_k1_spec {a1 : List Int} {A2 : Option Addr} {pre3 : List Int} {post4 : List Int} {A5 : Option Addr} {n6 : Nat} {c7 : Nat} {lim8 : Nat} {r1047 : List Int} {q1054 : List Int} {G : Gh} {L : List Itm} {w : World} (hI : Hp G (rwI G (Kd.int .i64) A2 pre3 a1 post4 lim8 3 :: L) w) (hn9 : a1.length = n6) (hM10 : Mw A2 A5 pre3.length n6 c7 lim8 1) (H : slices_Clone_int_k1 a1 = some (r1047, q1054)) :
    Calls Tryz.prog 131 [slice A5 n6 c7].toArray w fun e w' => ∃ (A1048 : Option Addr) (c1049 : Nat) (G' : Gh), G ≤ G' ∧ Hp G' (tk (slice A1048 r1047.length c1049) 1 3 :: rwI G' (Kd.int .i64) A2 pre3 q1054 post4 lim8 3 :: L) w' ∧ r1047.length ≤ c1049 ∧ Dat (Kd.int .i64) G' A1048 r1047 ∧ Own A1048 c1049 ∧ q1054.length = n6 ∧ e = .returned (slice A1048 r1047.length c1049) := by
 refine calls_intro (N := 8) Tryz.func131 rfl rfl (Nat.le_of_ble_eq_true rfl) ?_
 unfold slices_Clone_int_k1 at H
 refine sr fun K12 hK13 => ?_
 refine q_as (v := slice none 0 0) rfl ?_
 refine nl ?_
 refine hK13 _ _ _ ?_
 refine sQ fun K14 hK15 => ?_
 refine sr fun K16 hK17 => ?_
 refine q_mv (v := slice A5 n6 c7) rfl ?_
 rcases A5 with _ | a18
 obtain rfl : a1 = [] := Mw.nil hM10 hn9
 rw [show (if ([] : List Int).length + ([] : List Int).length ≤ 17592186044416 then some (([] : List Int) ++ ([] : List Int), ([] : List Int)) else none) = some (([] : List Int), ([] : List Int)) from by simp] at H
 refine q_slnil_eql_y so29 rfl rfl ?_
 refine nl ?_
 refine hK17 _ _ _ ?_
 refine wpc_true rfl ?_
 refine sr fun K19 hK20 => ?_
 refine q_as (v := slice none 0 0) rfl ?_
 refine nl ?_
 refine hK20 _ _ _ ?_
 refine wpc_ret ?_
 have hI21 := Hp.emp hI
 cases H
 exact ⟨.inr rfl, rfl, _, ⟨_, _, rfl, rfl, rfl⟩, none, 0, _, gR, hI21, (show ([] : List Int).length ≤ 0 from Nat.le_refl 0), (Dat.nil _ _ _), Own.nil, hn9, rfl⟩
 refine q_slnil_eql_n so29 rfl rfl ?_
 refine nl ?_
 refine hK17 _ _ _ ?_
 refine wpc_false rfl ?_
 refine wpc_skip ?_
 refine hK15 _ _ _ ?_
 refine sr fun K23 hK24 => ?_
 refine q_bs hI (vs := []) (cs := []) el29 ze3 rfl (by decide) rfl rfl (fun g26 wd27 hI28 => ?_)
 obtain ⟨G29, hG30, hI32, hD31⟩ := Hp.publish (xs := ([] : List Int)) (n := 0) (Kd.int .i64) hI28 rfl rfl
 refine q_mv (v := slice (some a18) n6 c7) rfl ?_
 obtain ⟨nw43, hs44, hf45⟩ := src_rw (u := 29) hI32 1 so29 rfl hM10 hn9
 obtain ⟨h42, H⟩ := iS H
 refine q_app (xs := ([] : List Int)) (ys := a1) (Kd.int .i64) hI32 0 el29 ze3 rfl rfl rfl rfl (Own.mk _ _ _) (show ([] : List Int).length ≤ 0 from Nat.le_of_ble_eq_true rfl) hD31 hs44 (Flat.mono hG30 hf45) (Eq.symm hn9) (by simp only [List.length_cons, List.length_nil] at *; omega) (by simp only [List.length_cons, List.length_nil] at *; omega) (fun A33 c34 G35 wd36 hG37 ho38 hl39 hD40 hI41 => ?_)
 refine q_as (v := slice A33 (([] : List Int) ++ a1).length c34) rfl ?_
 refine nl ?_
 refine hK24 _ _ _ ?_
 refine wpc_ret ?_
 have hI46 := Hp.rwUp hI41 1 rfl (gT hG30 hG37)
 cases H
 exact ⟨.inr rfl, rfl, _, ⟨_, _, rfl, rfl, rfl⟩, A33, c34, _, (gT hG30 hG37), hI46, hl39, hD40, ho38, hn9, rfl⟩
set_option maxHeartbeats 1000000 in
theorem slices_Reverse_int_k1_spec {a1 : List Int} {A2 : Option Addr} {pre3 : List Int} {post4 : List Int} {A5 : Option Addr} {n6 : Nat} {c7 : Nat} {lim8 : Nat} {q1106 : List Int} {G : Gh} {L : List Itm} {w : World} (hI : Hp G (rwI G (Kd.int .i64) A2 pre3 a1 post4 lim8 3 :: L) w) (hn9 : a1.length = n6) (hM10 : Mw A2 A5 pre3.length n6 c7 lim8 1) (H : slices_Reverse_int_k1 a1 = some q1106) :
    Calls Tryz.prog 132 [slice A5 n6 c7].toArray w fun e w' => ∃ (G' : Gh), G ≤ G' ∧ Hp G' (rwI G' (Kd.int .i64) A2 pre3 q1106 post4 lim8 3 :: L) w' ∧ q1106.length = n6 ∧ e = .returned (tuple [].toArray) := by
 refine calls_intro (N := 28) Tryz.func132 rfl rfl (Nat.le_of_ble_eq_true rfl) ?_
 unfold slices_Reverse_int_k1 at H
 refine sr fun K12 hK13 => ?_
 refine q_mv (v := slice A5 n6 c7) rfl ?_
 refine q_lenm so29 rfl hn9 ?_
 refine q_sub rfl rfl ?_
 refine q_as (v := int .i64 0) rfl ?_
 refine q_as (v := int .i64 (w64 ((a1.length : Int) - 1))) rfl ?_
 refine nl ?_
 refine hK13 _ _ _ ?_
 refine wpc_block ?_
 obtain ⟨v35, hC, H⟩ := bS H
 refine wpc_mono (Q := fun e r ds w => e = .exit 0 ∧ ∃ (Gr37 : Gh) (G39 : Gh), ds = [] ∧ G ≤ G39 ∧ Has [] r ∧ Hp G39 (rwI Gr37 (Kd.int .i64) A2 pre3 v35 post4 lim8 3 :: L) w ∧ v35.length = n6 ∧ Gr37 ≤ G39 ∧ True) ?_ ?_
 clear H
 refine wpc_loop fun I hLp => ?_
 refine slices_Reverse_int_k1_l34.partial_correctness a1 (fun v18 v20 v21 o => ∀ (Gr22 : Gh) (G44 : Gh) (r : Rg) (w : World), G ≤ G44 → Has [(0, slice A5 n6 c7), (2, int .i64 v20), (3, int .i64 v21)] r → Hp G44 (rwI Gr22 (Kd.int .i64) A2 pre3 v18 post4 lim8 3 :: L) w → v18.length = n6 → Gr22 ≤ G44 → o = v35 → I r [] w) ?_ a1 0 (w64 ((a1.length : Int) - 1)) _ hC G _ _ _ gR ⟨rfl, rfl, rfl, trivial⟩ hI hn9 gR rfl
 intro _ ih v18 v20 v21 o H Gr22 G44 r wd46 hG45 hHas hI47 hn19 hGr23 ho
 rw [ho] at H; clear ho
 rw [hHas.eq]; clear hHas
 refine hLp _ _ _ ?_
 refine sQ fun K48 hK49 => ?_
 refine sr fun K50 hK51 => ?_
 refine q_mv (v := int .i64 v20) rfl ?_
 refine q_mv (v := int .i64 v21) rfl ?_
 refine q_lss rfl rfl ?_
 refine nl ?_
 refine hK51 _ _ _ ?_
 by_cases h52 : v20 < v21
 replace H := iY h52 H
 refine wpc_true (bool_yes h52) ?_
 refine wpc_skip ?_
 refine hK49 _ _ _ ?_
 refine sQ fun K53 hK54 => ?_
 refine wpc_block ?_
 obtain ⟨⟨h74, h74'⟩, H⟩ := iS H
 have hb75 := lt_n hn9 h74'
 obtain ⟨ad76, hA77⟩ := Mw.ad hM10 h74 hb75
 obtain ⟨⟨h80, h80'⟩, H⟩ := iS H
 have hb81 := lt_n hn9 h80'
 obtain ⟨ad82, hA83⟩ := Mw.ad hM10 h80 hb81
 obtain ⟨⟨h86, h86'⟩, H⟩ := iS H
 have hb87 := lt_n hn9 h86'
 obtain ⟨ad88, hA89⟩ := Mw.ad hM10 h86 hb87
 obtain ⟨⟨h92, h92'⟩, H⟩ := iS H
 have hb93 := lt_n hn9 h92'
 obtain ⟨ad94, hA95⟩ := Mw.ad hM10 h92 hb93
 refine wpc_drawL [0, 0, 0, 0, 0, 0, 48, 112, 0, 0, 768, 1792, 4083, 8179, 16383, 32767] (fun D r w => (D 13 = false ∧ ∃ (G' : Gh), G44 ≤ G' ∧ Regs [(0, slice A5 n6 c7), (2, int .i64 v20), (3, int .i64 v21)] [] [(0, 14, slice A5 n6 c7), (1, 15, int .i64 v20), (2, 16, slice A5 n6 c7), (3, 17, int .i64 v21), (4, 18, slice A5 n6 c7), (5, 19, int .i64 v21), (6, 20, pointer (some (ad76.add (Int.toNat v21 * 1)))), (7, 21, int .i64 (v18.getD (Int.toNat v21) (0 : Int))), (8, 22, slice A5 n6 c7), (9, 23, int .i64 v20), (10, 24, pointer (some (ad82.add (Int.toNat v20 * 1)))), (11, 25, int .i64 (v18.getD (Int.toNat v20) (0 : Int))), (12, 26, pointer (some (ad88.add (Int.toNat v20 * 1))))] D r ∧ Hp G' (rwI Gr22 (Kd.int .i64) A2 pre3 v18 post4 lim8 3 :: L) w) ∨ (D 13 = true ∧ D 15 = false ∧ ∃ (G' : Gh), G44 ≤ G' ∧ Regs [(0, slice A5 n6 c7), (2, int .i64 v20), (3, int .i64 v21)] [] [(0, 14, slice A5 n6 c7), (1, 15, int .i64 v20), (2, 16, slice A5 n6 c7), (3, 17, int .i64 v21), (4, 18, slice A5 n6 c7), (5, 19, int .i64 v21), (6, 20, pointer (some (ad76.add (Int.toNat v21 * 1)))), (7, 21, int .i64 (v18.getD (Int.toNat v21) (0 : Int))), (8, 22, slice A5 n6 c7), (9, 23, int .i64 v20), (10, 24, pointer (some (ad82.add (Int.toNat v20 * 1)))), (11, 25, int .i64 (v18.getD (Int.toNat v20) (0 : Int))), (12, 26, pointer (some (ad88.add (Int.toNat v20 * 1)))), (14, 27, pointer (some (ad94.add (Int.toNat v21 * 1))))] D r ∧ Hp G' (rwI Gr22 (Kd.int .i64) A2 pre3 (List.set v18 (Int.toNat v20) (v18.getD (Int.toNat v21) (0 : Int))) post4 lim8 3 :: L) w) ∨ (D 15 = true ∧ ∃ (G' : Gh), G44 ≤ G' ∧ Regs [(0, slice A5 n6 c7), (2, int .i64 v20), (3, int .i64 v21)] [] [(0, 14, slice A5 n6 c7), (1, 15, int .i64 v20), (2, 16, slice A5 n6 c7), (3, 17, int .i64 v21), (4, 18, slice A5 n6 c7), (5, 19, int .i64 v21), (6, 20, pointer (some (ad76.add (Int.toNat v21 * 1)))), (7, 21, int .i64 (v18.getD (Int.toNat v21) (0 : Int))), (8, 22, slice A5 n6 c7), (9, 23, int .i64 v20), (10, 24, pointer (some (ad82.add (Int.toNat v20 * 1)))), (11, 25, int .i64 (v18.getD (Int.toNat v20) (0 : Int))), (12, 26, pointer (some (ad88.add (Int.toNat v20 * 1)))), (14, 27, pointer (some (ad94.add (Int.toNat v21 * 1))))] D r ∧ Hp G' (rwI Gr22 (Kd.int .i64) A2 pre3 (List.set (List.set v18 (Int.toNat v20) (v18.getD (Int.toNat v21) (0 : Int))) (Int.toNat v21) (v18.getD (Int.toNat v20) (0 : Int))) post4 lim8 3 :: L) w)) mixo rfl rfl ?_ ?_ ?_
 exact (.inl ⟨rfl, _, Gh.le_refl _, Regs.start ⟨rfl, rfl, rfl, trivial⟩ trivial, hI47.drew⟩)
 refine ⟨?_, ?_, ?_, ?_, ?_, ?_, ?_, ?_, ?_, ?_, ?_, ?_, ?_, ?_, ?_, ?_, trivial⟩
 rintro D r wd102 (⟨hd2, G98, hG99, hReg101, hI100⟩ | ⟨hd1, hd2, G98, hG99, hReg101, hI100⟩ | ⟨hd1, G98, hG99, hReg101, hI100⟩) hDi hpre hpost
 obtain ⟨r0, rfl⟩ := Has.ex (cC (hReg101.ins.get 0 rfl) cN)
 refine q_mv (v := slice A5 n6 c7) rfl ?_
 exact nl ⟨rfl, (.inl ⟨hd2, _, hG99, (Regs.step hReg101 hDi rfl rfl rfl rfl), hI100⟩)⟩
 cases (hpost 13 rfl).symm.trans hd1
 cases (hpost 15 rfl).symm.trans hd1
 rintro D r wd102 (⟨hd2, G98, hG99, hReg101, hI100⟩ | ⟨hd1, hd2, G98, hG99, hReg101, hI100⟩ | ⟨hd1, G98, hG99, hReg101, hI100⟩) hDi hpre hpost
 obtain ⟨r0, rfl⟩ := Has.ex (cC (hReg101.ins.get 1 rfl) cN)
 refine q_mv (v := int .i64 v20) rfl ?_
 exact nl ⟨rfl, (.inl ⟨hd2, _, hG99, (Regs.step hReg101 hDi rfl rfl rfl rfl), hI100⟩)⟩
 cases (hpost 13 rfl).symm.trans hd1
 cases (hpost 15 rfl).symm.trans hd1
 rintro D r wd102 (⟨hd2, G98, hG99, hReg101, hI100⟩ | ⟨hd1, hd2, G98, hG99, hReg101, hI100⟩ | ⟨hd1, G98, hG99, hReg101, hI100⟩) hDi hpre hpost
 obtain ⟨r0, rfl⟩ := Has.ex (cC (hReg101.ins.get 0 rfl) cN)
 refine q_mv (v := slice A5 n6 c7) rfl ?_
 exact nl ⟨rfl, (.inl ⟨hd2, _, hG99, (Regs.step hReg101 hDi rfl rfl rfl rfl), hI100⟩)⟩
 obtain ⟨r0, rfl⟩ := Has.ex (cC (hReg101.ins.get 0 rfl) cN)
 refine q_mv (v := slice A5 n6 c7) rfl ?_
 exact nl ⟨rfl, (.inr (.inl ⟨hd1, hd2, _, hG99, (Regs.step hReg101 hDi rfl rfl rfl rfl), hI100⟩))⟩
 cases (hpost 15 rfl).symm.trans hd1
 rintro D r wd102 (⟨hd2, G98, hG99, hReg101, hI100⟩ | ⟨hd1, hd2, G98, hG99, hReg101, hI100⟩ | ⟨hd1, G98, hG99, hReg101, hI100⟩) hDi hpre hpost
 obtain ⟨r0, rfl⟩ := Has.ex (cC (hReg101.ins.get 2 rfl) cN)
 refine q_mv (v := int .i64 v21) rfl ?_
 exact nl ⟨rfl, (.inl ⟨hd2, _, hG99, (Regs.step hReg101 hDi rfl rfl rfl rfl), hI100⟩)⟩
 obtain ⟨r0, rfl⟩ := Has.ex (cC (hReg101.ins.get 2 rfl) cN)
 refine q_mv (v := int .i64 v21) rfl ?_
 exact nl ⟨rfl, (.inr (.inl ⟨hd1, hd2, _, hG99, (Regs.step hReg101 hDi rfl rfl rfl rfl), hI100⟩))⟩
 cases (hpost 15 rfl).symm.trans hd1
 rintro D r wd102 (⟨hd2, G98, hG99, hReg101, hI100⟩ | ⟨hd1, hd2, G98, hG99, hReg101, hI100⟩ | ⟨hd1, G98, hG99, hReg101, hI100⟩) hDi hpre hpost
 obtain ⟨r0, rfl⟩ := Has.ex (cC (hReg101.ins.get 0 rfl) cN)
 refine q_mv (v := slice A5 n6 c7) rfl ?_
 exact nl ⟨rfl, (.inl ⟨hd2, _, hG99, (Regs.step hReg101 hDi rfl rfl rfl rfl), hI100⟩)⟩
 cases (hpost 13 rfl).symm.trans hd1
 cases (hpost 15 rfl).symm.trans hd1
 rintro D r wd102 (⟨hd2, G98, hG99, hReg101, hI100⟩ | ⟨hd1, hd2, G98, hG99, hReg101, hI100⟩ | ⟨hd1, G98, hG99, hReg101, hI100⟩) hDi hpre hpost
 obtain ⟨r0, rfl⟩ := Has.ex (cC (hReg101.ins.get 2 rfl) cN)
 refine q_mv (v := int .i64 v21) rfl ?_
 exact nl ⟨rfl, (.inl ⟨hd2, _, hG99, (Regs.step hReg101 hDi rfl rfl rfl rfl), hI100⟩)⟩
 cases (hpost 13 rfl).symm.trans hd1
 cases (hpost 15 rfl).symm.trans hd1
 rintro D r wd102 (⟨hd2, G98, hG99, hReg101, hI100⟩ | ⟨hd1, hd2, G98, hG99, hReg101, hI100⟩ | ⟨hd1, G98, hG99, hReg101, hI100⟩) hDi hpre hpost
 obtain ⟨r0, rfl⟩ := Has.ex (cC (hReg101.get 4 rfl (hpre 4 rfl)) (cC (hReg101.get 5 rfl (hpre 5 rfl)) cN))
 refine q_ia el29 rfl hA77 rfl h74 hb75 ?_
 exact nl ⟨rfl, (.inl ⟨hd2, _, hG99, (Regs.step hReg101 hDi rfl rfl rfl rfl), hI100⟩)⟩
 cases (hpost 13 rfl).symm.trans hd1
 cases (hpost 15 rfl).symm.trans hd1
 rintro D r wd102 (⟨hd2, G98, hG99, hReg101, hI100⟩ | ⟨hd1, hd2, G98, hG99, hReg101, hI100⟩ | ⟨hd1, G98, hG99, hReg101, hI100⟩) hDi hpre hpost
 obtain ⟨r0, rfl⟩ := Has.ex (cC (hReg101.get 6 rfl (hpre 6 rfl)) cN)
 obtain ⟨_, rfl, _, hc79⟩ := Hp.rwGet hI100 0 rfl hM10 hn19 hA77 (0 : Int) h74 hb75
 refine q_load1 (v := int .i64 (v18.getD (Int.toNat v21) (0 : Int))) ag3 rfl (cell0 (hc79 0 _ rfl)) ?_
 exact nl ⟨rfl, (.inl ⟨hd2, _, hG99, (Regs.step hReg101 hDi rfl rfl rfl rfl), hI100⟩)⟩
 cases (hpost 13 rfl).symm.trans hd1
 cases (hpost 15 rfl).symm.trans hd1
 rintro D r wd102 (⟨hd2, G98, hG99, hReg101, hI100⟩ | ⟨hd1, hd2, G98, hG99, hReg101, hI100⟩ | ⟨hd1, G98, hG99, hReg101, hI100⟩) hDi hpre hpost
 obtain ⟨r0, rfl⟩ := Has.ex (cC (hReg101.ins.get 0 rfl) cN)
 refine q_mv (v := slice A5 n6 c7) rfl ?_
 exact nl ⟨rfl, (.inl ⟨hd2, _, hG99, (Regs.step hReg101 hDi rfl rfl rfl rfl), hI100⟩)⟩
 cases (hpost 13 rfl).symm.trans hd1
 cases (hpost 15 rfl).symm.trans hd1
 rintro D r wd102 (⟨hd2, G98, hG99, hReg101, hI100⟩ | ⟨hd1, hd2, G98, hG99, hReg101, hI100⟩ | ⟨hd1, G98, hG99, hReg101, hI100⟩) hDi hpre hpost
 obtain ⟨r0, rfl⟩ := Has.ex (cC (hReg101.ins.get 1 rfl) cN)
 refine q_mv (v := int .i64 v20) rfl ?_
 exact nl ⟨rfl, (.inl ⟨hd2, _, hG99, (Regs.step hReg101 hDi rfl rfl rfl rfl), hI100⟩)⟩
 cases (hpost 13 rfl).symm.trans hd1
 cases (hpost 15 rfl).symm.trans hd1
 rintro D r wd102 (⟨hd2, G98, hG99, hReg101, hI100⟩ | ⟨hd1, hd2, G98, hG99, hReg101, hI100⟩ | ⟨hd1, G98, hG99, hReg101, hI100⟩) hDi hpre hpost
 obtain ⟨r0, rfl⟩ := Has.ex (cC (hReg101.get 8 rfl (hpre 8 rfl)) (cC (hReg101.get 9 rfl (hpre 9 rfl)) cN))
 refine q_ia el29 rfl hA83 rfl h80 hb81 ?_
 exact nl ⟨rfl, (.inl ⟨hd2, _, hG99, (Regs.step hReg101 hDi rfl rfl rfl rfl), hI100⟩)⟩
 cases (hpost 13 rfl).symm.trans hd1
 cases (hpost 15 rfl).symm.trans hd1
 rintro D r wd102 (⟨hd2, G98, hG99, hReg101, hI100⟩ | ⟨hd1, hd2, G98, hG99, hReg101, hI100⟩ | ⟨hd1, G98, hG99, hReg101, hI100⟩) hDi hpre hpost
 obtain ⟨r0, rfl⟩ := Has.ex (cC (hReg101.get 10 rfl (hpre 10 rfl)) cN)
 obtain ⟨_, rfl, _, hc85⟩ := Hp.rwGet hI100 0 rfl hM10 hn19 hA83 (0 : Int) h80 hb81
 refine q_load1 (v := int .i64 (v18.getD (Int.toNat v20) (0 : Int))) ag3 rfl (cell0 (hc85 0 _ rfl)) ?_
 exact nl ⟨rfl, (.inl ⟨hd2, _, hG99, (Regs.step hReg101 hDi rfl rfl rfl rfl), hI100⟩)⟩
 cases (hpost 13 rfl).symm.trans hd1
 cases (hpost 15 rfl).symm.trans hd1
 rintro D r wd102 (⟨hd2, G98, hG99, hReg101, hI100⟩ | ⟨hd1, hd2, G98, hG99, hReg101, hI100⟩ | ⟨hd1, G98, hG99, hReg101, hI100⟩) hDi hpre hpost
 obtain ⟨r0, rfl⟩ := Has.ex (cC (hReg101.get 0 rfl (hpre 0 rfl)) (cC (hReg101.get 1 rfl (hpre 1 rfl)) cN))
 refine q_ia el29 rfl hA89 rfl h86 hb87 ?_
 exact nl ⟨rfl, (.inl ⟨hd2, _, hG99, (Regs.step hReg101 hDi rfl rfl rfl rfl), hI100⟩)⟩
 cases (hpost 13 rfl).symm.trans hd1
 cases (hpost 15 rfl).symm.trans hd1
 rintro D r wd102 (⟨hd2, G98, hG99, hReg101, hI100⟩ | ⟨hd1, hd2, G98, hG99, hReg101, hI100⟩ | ⟨hd1, G98, hG99, hReg101, hI100⟩) hDi hpre hpost
 obtain ⟨r0, rfl⟩ := Has.ex (cC (hReg101.get 7 rfl (hpre 7 rfl)) (cC (hReg101.get 12 rfl (hpre 12 rfl)) cN))
 refine q_stm (kd := (Kd.int .i64)) hI100 0 (v := int .i64 (v18.getD (Int.toNat v21) (0 : Int))) (news := [int .i64 (v18.getD (Int.toNat v21) (0 : Int))]) (0 : Int) (v18.getD (Int.toNat v21) (0 : Int)) ag3 rfl hM10 hn19 hA89 h86 hb87 (add_zero' _) rfl rfl rfl rfl rfl (Nat.le_of_ble_eq_true rfl) gR (fun _ ho => setAll_K ho rfl rfl) (fun wd90 hI91 => ?_)
 exact nl ⟨rfl, (.inr (.inl ⟨rfl, (hpost 15 rfl), _, hG99, (Regs.stepN (Regs.more (new := [(14, 27, pointer (some (ad94.add (Int.toNat v21 * 1))))]) hReg101 (List.forall_mem_cons.2 ⟨hpost 14 rfl, (fun _ h => nomatch h)⟩)) rfl rfl), hI91⟩))⟩
 cases hDi.symm.trans hd1
 cases (hpost 15 rfl).symm.trans hd1
 rintro D r wd102 (⟨hd2, G98, hG99, hReg101, hI100⟩ | ⟨hd1, hd2, G98, hG99, hReg101, hI100⟩ | ⟨hd1, G98, hG99, hReg101, hI100⟩) hDi hpre hpost
 cases (hpre 13 rfl).symm.trans hd2
 obtain ⟨r0, rfl⟩ := Has.ex (cC (hReg101.get 2 rfl (hpre 2 rfl)) (cC (hReg101.get 3 rfl (hpre 3 rfl)) cN))
 refine q_ia el29 rfl hA95 rfl h92 hb93 ?_
 exact nl ⟨rfl, (.inr (.inl ⟨hd1, hd2, _, hG99, (Regs.step hReg101 hDi rfl rfl rfl rfl), hI100⟩))⟩
 cases (hpost 15 rfl).symm.trans hd1
 rintro D r wd102 (⟨hd2, G98, hG99, hReg101, hI100⟩ | ⟨hd1, hd2, G98, hG99, hReg101, hI100⟩ | ⟨hd1, G98, hG99, hReg101, hI100⟩) hDi hpre hpost
 cases (hpre 13 rfl).symm.trans hd2
 obtain ⟨r0, rfl⟩ := Has.ex (cC (hReg101.get 11 rfl (hpre 11 rfl)) (cC (hReg101.get 13 rfl (hpre 14 rfl)) cN))
 refine q_stm (kd := (Kd.int .i64)) hI100 0 (v := int .i64 (v18.getD (Int.toNat v20) (0 : Int))) (news := [int .i64 (v18.getD (Int.toNat v20) (0 : Int))]) (0 : Int) (v18.getD (Int.toNat v20) (0 : Int)) ag3 rfl hM10 (set_len hn19) hA95 h92 hb93 (add_zero' _) rfl rfl rfl rfl rfl (Nat.le_of_ble_eq_true rfl) gR (fun _ ho => setAll_K ho rfl rfl) (fun wd96 hI97 => ?_)
 exact nl ⟨rfl, (.inr (.inr ⟨rfl, _, hG99, (Regs.stepN hReg101 rfl rfl), hI97⟩))⟩
 cases hDi.symm.trans hd1
 intro D r wd102 hall hR
 rcases hR with ⟨hd2, G98, hG99, hReg101, hI100⟩ | ⟨hd1, hd2, G98, hG99, hReg101, hI100⟩ | ⟨hd1, G98, hG99, hReg101, hI100⟩
 cases (hall 13 (Nat.le_of_ble_eq_true rfl)).symm.trans hd2
 cases (hall 15 (Nat.le_of_ble_eq_true rfl)).symm.trans hd2
 obtain ⟨r0, rfl⟩ := Has.ex (cC (hReg101.ins.get 0 rfl) (cC (hReg101.ins.get 1 rfl) (cC (hReg101.ins.get 2 rfl) cN)))
 refine hK54 _ _ _ ?_
 refine wpc_region ?_
 refine q_mv (v := int .i64 v20) rfl ?_
 refine q_add rfl rfl ?_
 refine q_mv (v := int .i64 v21) rfl ?_
 refine q_sub rfl rfl ?_
 refine q_as (v := int .i64 (w64 (v20 + 1))) rfl ?_
 refine q_as (v := int .i64 (w64 (v21 - 1))) rfl ?_
 refine nl ?_
 have hI103 := Hp.rwUp hI100 0 rfl (gT hGr23 hG99)
 exact ih _ _ _ _ H G98 _ _ _ (gT hG45 hG99) ⟨rfl, rfl, rfl, trivial⟩ hI103 (set_len (set_len hn19)) gR rfl
 replace H := iN h52 H
 refine wpc_false (bool_no h52) ?_
 refine wpc_exit ?_
 have hI104 := Hp.rwUp hI47 0 rfl hGr23
 cases H
 exact ⟨rfl, G44, _, rfl, hG45, trivial, hI104, hn19, gR, trivial⟩
 clear hC
 rintro e r ds wd41 ⟨rfl, Gr37, G39, rfl, hG40, hHas, hI42, hn36, hGr38, _⟩
 rw [hHas.eq]; clear hHas
 have hI105 := Hp.rwUp hI42 0 rfl hGr38
 cases H
 exact ⟨.inl rfl, rfl, _, rfl, _, hG40, hI105, hn36, rfl⟩
set_option maxHeartbeats 1000000 in
theorem bidi_turn_k3_spec {a1 : List Int} {a12 : List Int} {a17 : List Int} {A2 : Option Addr} {pre3 : List Int} {post4 : List Int} {A5 : Option Addr} {n6 : Nat} {c7 : Nat} {lim8 : Nat} {A13 : Option Addr} {c14 : Nat} {A18 : Option Addr} {c19 : Nat} {q1220 : List Int} {G : Gh} {L : List Itm} {w : World} (hI : Hp G (rwI G (Kd.int .i64) A2 pre3 a1 post4 lim8 3 :: L) w) (hn9 : a1.length = n6) (hM10 : Mw A2 A5 pre3.length n6 c7 lim8 1) (hl15 : a12.length ≤ c14) (hD16 : Dat (Kd.int .i64) G A13 a12) (hl20 : a17.length ≤ c19) (hD21 : Dat (Kd.int .i64) G A18 a17) (H : bidi_turn_k3 a1 a12 a17 = some q1220) :
    Calls Tryz.prog 101 [slice A5 n6 c7, slice A13 a12.length c14, slice A18 a17.length c19].toArray w fun e w' => ∃ (G' : Gh), G ≤ G' ∧ Hp G' (rwI G' (Kd.int .i64) A2 pre3 q1220 post4 lim8 3 :: L) w' ∧ q1220.length = n6 ∧ e = .returned (tuple [].toArray) := by
 refine calls_intro_m (N := 30) Tryz.func101 rfl rfl (Nat.le_of_ble_eq_true rfl) ?_
 unfold bidi_turn_k3 at H
 refine sr fun K22 hK23 => ?_
 refine q_box hI (v := slice A5 n6 c7) (vs := [slice A5 n6 c7]) rfl rfl (fun g25 wd26 hI27 => ?_)
 refine q_box hI27 (v := slice A13 a12.length c14) (vs := [slice A13 a12.length c14]) rfl rfl (fun g29 wd30 hI31 => ?_)
 refine nl ?_
 refine hK23 _ _ _ ?_
 refine sr fun K32 hK33 => ?_
 refine q_mv (v := slice A18 a17.length c19) rfl ?_
 refine q_len so29 rfl ?_
 refine q_mv (v := int .i64 0) rfl ?_
 refine nl ?_
 refine hK33 _ _ _ ?_
 refine wpc_block ?_
 obtain ⟨v55, hC, H⟩ := bS H
 refine wpc_mono (Q := fun e r ds w => e = .exit 0 ∧ ∃ (D59 : List Nat) (Gr57 : Gh) (G60 : Gh), ds = (List.map Go.LG.mark D59) ∧ G ≤ G60 ∧ Has [] r ∧ Hp G60 (bx g29 [slice A13 a12.length c14] 29 :: bx g25 [slice A5 n6 c7] 29 :: rwI Gr57 (Kd.int .i64) A2 pre3 v55 post4 lim8 3 :: (List.map mkI D59 ++ L)) w ∧ v55.length = n6 ∧ Gr57 ≤ G60 ∧ True) ?_ ?_
 clear H
 refine wpc_loop fun I hLp => ?_
 refine bidi_turn_k3_l54.partial_correctness a1 a12 a17 (fun v38 v40 o => ∀ (D43 : List Nat) (Gr41 : Gh) (G65 : Gh) (r : Rg) (w : World), G ≤ G65 → Has [(3, pointer (some ⟨g25, 0, none⟩)), (4, pointer (some ⟨g29, 0, none⟩)), (11, slice A18 a17.length c19), (12, int .i64 (a17.length : Int)), (13, int .i64 v40)] r → Hp G65 (bx g29 [slice A13 a12.length c14] 29 :: bx g25 [slice A5 n6 c7] 29 :: rwI Gr41 (Kd.int .i64) A2 pre3 v38 post4 lim8 3 :: (List.map mkI D43 ++ L)) w → v38.length = n6 → Gr41 ≤ G65 → o = v55 → I r (List.map Go.LG.mark D43) w) ?_ a1 0 _ hC ([] : List Nat) G _ _ _ gR ⟨rfl, rfl, rfl, rfl, rfl, trivial⟩ hI31 hn9 gR rfl
 intro _ ih v38 v40 o H D43 Gr41 G65 r wd67 hG66 hHas hI68 hn39 hGr42 ho
 rw [ho] at H; clear ho
 rw [hHas.eq]; clear hHas
 refine hLp _ _ _ ?_
 refine sr fun K69 hK70 => ?_
 refine q_lss rfl rfl ?_
 refine nl ?_
 refine hK70 _ _ _ ?_
 refine sQ fun K71 hK72 => ?_
 by_cases h73 : v40 < (a17.length : Int)
 replace H := iY h73 H
 refine wpc_true (bool_yes h73) ?_
 refine wpc_skip ?_
 refine hK72 _ _ _ ?_
 refine sQ fun K74 hK75 => ?_
 refine wpc_block ?_
 refine sr fun K76 hK77 => ?_
 obtain ⟨⟨h78, h78'⟩, H⟩ := iS H
 obtain ⟨ad79, cs80, hA81, hK82, hn83, hc84⟩ := Dat.get (Dat.mono hG66 hD21) (0 : Int) (v40) h78 h78'
 obtain rfl := hK82
 refine q_ia el29 rfl hA81 rfl h78 h78' ?_
 refine q_lf hI68 (v := int .i64 (a17.getD (Int.toNat v40) (0 : Int))) ag3 rfl (gR.cel _ _ (hc84 0 _ rfl)) ?_
 refine q_alloc hI68 ze3 (fun g86 wd87 hI88 => ?_)
 refine q_stA hI88 0 (v := int .i64 (a17.getD (Int.toNat v40) (0 : Int))) (cs := [int .i64 (a17.getD (Int.toNat v40) (0 : Int))]) (vs' := [int .i64 (a17.getD (Int.toNat v40) (0 : Int))]) ag3 rfl rfl rfl rfl rfl rfl (Nat.le_of_ble_eq_true rfl) rfl (fun wd89 hI90 => ?_)
 refine nl ?_
 refine hK77 _ _ _ ?_
 refine sr fun K91 hK92 => ?_
 refine q_fn (vs := []) (us := [pointer (some ⟨g29, 0, none⟩), pointer (some ⟨g86, 0, none⟩)]) rfl rfl ?_
 refine q_as (v := func (.func 129) [].toArray [pointer (some ⟨g29, 0, none⟩), pointer (some ⟨g86, 0, none⟩)].toArray) rfl ?_
 refine nl ?_
 refine hK92 _ _ _ ?_
 refine sr fun K93 hK94 => ?_
 refine q_ld hI90 2 (v := slice A5 n6 c7) ag29 rfl rfl rfl ?_
 have hI95 := Hp.rwUp hI90 3 rfl hGr42
 have hI96 := Hp.front hI95 2 rfl
 have hI97 := Hp.front hI96 2 rfl
 have hI98 := Hp.front hI97 2 rfl
 have hI99 := Hp.front hI98 3 rfl
 obtain ⟨⟨y105, y112⟩, hy100, H⟩ := bS H
 refine q_cv (vs := [slice A5 n6 c7]) bo131 rfl rfl (slices_Clone_int_k1_spec (a1 := v38) hI99 hn39 hM10 hy100) ?_
 rintro _ wd103 ⟨A106, c107, G101, hG102, hI104, hl108, hD109, ho110, hn113, rfl⟩
 refine ⟨_, rfl, ?_⟩
 refine q_mv (v := func (.func 129) [].toArray [pointer (some ⟨g29, 0, none⟩), pointer (some ⟨g86, 0, none⟩)].toArray) rfl ?_
 have hI114 := Hp.front hI104 4 rfl
 have hI115 := Hp.front hI114 2 rfl
 have hI116 := Hp.front hI115 2 rfl
 have hI117 := Hp.front hI116 3 rfl
 have hI118 := Hp.front hI117 4 rfl
 obtain ⟨y126, hy119, H⟩ := bS H
 refine q_cv (vs := [slice A106 y105.length c107, func (.func 129) [].toArray [pointer (some ⟨g29, 0, none⟩), pointer (some ⟨g86, 0, none⟩)].toArray]) bo130 rfl rfl (bidi_runs_int_k1_spec (a1 := y105) (a8 := a12) (a15 := a17.getD (Int.toNat v40) (0 : Int)) hI118 hl108 hD109 hl15 (Dat.mono (gT hG66 hG102) hD16) hy119) ?_
 rintro _ wd122 ⟨g125, A127, c128, g132, G120, hG121, hI123, hl129, hD130, rfl⟩
 refine ⟨_, rfl, ?_⟩
 refine nl ?_
 refine hK94 _ _ _ ?_
 refine wpc_block ?_
 have hI133 := Hp.rwUp hI123 5 rfl hG121
 have hI146 := Hp.front hI133 5 rfl
 have hI147 := Hp.front hI146 5 rfl
 have hI148 := Hp.front hI147 6 rfl
 have hI149 := Hp.front hI148 6 rfl
 have hI150 := Hp.front hI149 6 rfl
 have hI151 := Hp.front hI150 6 rfl
 have hI152 := Hp.front hI151 6 rfl
 obtain ⟨⟨v135, jo155⟩, hr193, H⟩ := bS H
 refine wpc_range hI152 bo148 rfl (fun fn tmps gl gd134 wd212 hA190 hI191 => ?_)
 have hY192 : Yl Tryz.prog (rnd (fun (u : (List Int)) (x : Int × Int) => bidi_turn_k3_r153 a1 u x.1 x.2)) (encP (enc1 (Kd.int .i64)) (enc1 (Kd.int .i64))) _ gl := yl_intro (pp := [22, 23]) (gdd := gd134) hI191 (fun (u : (List Int)) (x : Int × Int) => bidi_turn_k3_r153 a1 u x.1 x.2) [] (fun (u : (List Int)) (G' : Gh) (K : List Itm) => ∃ (Gr137 : Gh) (_ : G120 ≤ G'), K = bx g25 [slice A5 n6 c7] 29 :: tk (slice A106 y105.length c107) 1 3 :: rwI Gr137 (Kd.int .i64) A2 pre3 u post4 lim8 3 :: (List.map mkI (gd134 :: D43) ++ L) ∧ u.length = n6 ∧ Gr137 ≤ G' ∧ True) hA190 (fun _ _ _ h => (fun h => encP_len (fun h => enc1_len h) (fun h => enc1_len h) h) h) (fun hG' ⟨Gr137, h0', hK', hn136, hGr138, _⟩ => ⟨Gr137, gT h0' hG', hK', hn136, (gT hGr138 hG'), trivial⟩) (by
 rintro Rd Bs v135 u' ⟨x161, x163⟩ jo' G157 K M wd159 vs ⟨Gr137, hG158, rfl, hn136, hGr138, _⟩ ⟨_, _, rfl, ⟨_, rfl, hv162⟩, ⟨_, rfl, hv164⟩⟩ H hI165
 cases hv162
 cases hv164
 replace H : bidi_turn_k3_r153 a1 v135 x161 x163 = some (u', jo') := H
 unfold bidi_turn_k3_r153 at H
 refine sr fun K166 hK167 => ?_
 refine q_as (v := int .i64 x161) rfl ?_
 refine nl ?_
 refine hK167 _ _ _ ?_
 refine wpc_region ?_
 refine q_as (v := int .i64 x163) rfl ?_
 refine nl ?_
 refine ⟨rfl, rfl, _, _, gR, hI165, fun wd169 hI168 => ?_⟩
 refine wpc_block ?_
 refine wpc_region ?_
 refine q_ld hI168 1 (v := slice A5 n6 c7) ag29 rfl rfl rfl ?_
 refine q_mv (v := int .i64 x161) rfl ?_
 refine q_mv (v := int .i64 x163) rfl ?_
 obtain ⟨⟨h170, h171, h172⟩, H⟩ := iS H
 refine q_sl (l := x161) (h := x163) el29 rfl (.inr ⟨_, rfl, rfl⟩) (.inr ⟨_, rfl, rfl⟩) hM10.le h170 h171 (le_n hn9 h172) ?_
 have hI173 := Hp.rwRe hI168 3 rfl (win_eq v135 post4 pre3 h170 h171 (le_t hn136 hn9 h172))
 have hI174 := Hp.rwUp hI173 3 rfl hGr138
 have hI175 := Hp.front hI174 2 rfl
 have hI176 := Hp.front hI175 2 rfl
 have hI177 := Hp.front hI176 2 rfl
 have hI178 := Hp.front hI177 3 rfl
 obtain ⟨y184, hy179, H⟩ := bS H
 refine q_cv (vs := [slice (if c7 = Int.toNat x161 then A5 else Option.map (fun a => Addr.add a (Int.toNat x161 * 1)) A5) (Int.toNat x163 - Int.toNat x161) (c7 - Int.toNat x161)]) bo132 rfl rfl (slices_Reverse_int_k1_spec (a1 := cutl v135 x161 x163) hI178 (cut_len h170 h171 (le_t hn136 hn9 h172)) (Mw.win (kd := (Kd.int .i64)) (A := A5) (c := c7) (pre := pre3) hM10 hn136 h170 h171 (le_t hn136 hn9 h172)) hy179) ?_
 rintro _ wd182 ⟨G180, hG181, hI183, hn185, rfl⟩
 refine ⟨_, rfl, ?_⟩
 have hI186 := Hp.rwRe hI183 0 rfl (unwin_eq v135 post4 pre3 y184 x161 x163)
 refine nl ?_
 have hI187 := Hp.front hI186 3 rfl
 have hI188 := Hp.front hI187 3 rfl
 have hI189 := Hp.front hI188 3 rfl
 cases H
 exact ⟨rfl, _, _, hG181, ⟨G180, (gT hG158 hG181), rfl, (unwin_len hn136 h170 h171 (le_t hn136 hn9 h172) hn185), gR, trivial⟩, hI189⟩)
 have hI213 := Hp.sink (A := [bx g125 [slice A127 y126.length c128] 29, bx g132 [func (.func 129) [].toArray [pointer (some ⟨g29, 0, none⟩), pointer (some ⟨g86, 0, none⟩)].toArray] 72, bx g29 [slice A13 a12.length c14] 29, bx g86 [int .i64 (a17.getD (Int.toNat v40) (0 : Int))] 3]) (K := [bx g25 [slice A5 n6 c7] 29, tk (slice A106 y105.length c107) 1 3, rwI G120 (Kd.int .i64) A2 pre3 y112 post4 lim8 3]) hI191
 refine (bidi_runs_1_int_k1_spec (sy := (y112, none)) hI213 hl129 hD130 hl15 (Dat.mono (gT (gT hG66 hG102) hG121) hD16) hY192 ⟨_, rfl, G120, Gh.le_refl _, rfl, hn113, gR, trivial⟩ hr193).mono ?_
 rintro _ wd196 ⟨T200, G194, hG1950, hI197, ⟨K, rfl, Gr137, hG195, rfl, hn136, hGr138, _⟩, rfl⟩
 have hH202 := Hp.front hI197 4 rfl
 rcases jo155 with _ | j
 refine ⟨_, rfl, LoopState.ready, none, G194, _, (fun h => nomatch h), hH202, fun wd198 hI199 => ?_⟩
 refine hK75 _ _ _ ?_
 refine wpc_region ?_
 refine q_add rfl rfl ?_
 refine q_mv (v := int .i64 (w64 (v40 + 1))) rfl ?_
 refine nl ?_
 have hI207 := Hp.rwUp hI199 6 rfl hGr138
 have hI208 := Hp.front hI207 6 rfl
 have hI209 := Hp.front hI208 5 rfl
 have hI210 := Hp.front hI209 4 rfl
 have hI211 := Hp.sub hI210 (sk (sk (sk (sd (sd (sd (sd se)))))))
 exact ih _ _ _ H (gd134 :: D43) G194 _ _ _ (gT (gT (gT hG66 hG102) hG121) hG195) ⟨rfl, rfl, rfl, rfl, rfl, trivial⟩ hI211 hn136 gR rfl
 cases H
 replace H := iN h73 H
 refine wpc_false (bool_no h73) ?_
 refine wpc_exit ?_
 have hI214 := Hp.rwUp hI68 2 rfl hGr42
 cases H
 exact ⟨rfl, D43, G65, _, rfl, hG66, trivial, hI214, hn39, gR, trivial⟩
 clear hC
 rintro e r ds wd62 ⟨rfl, D59, Gr57, G60, rfl, hG61, hHas, hI63, hn56, hGr58, _⟩
 rw [hHas.eq]; clear hHas
 refine ⟨.inl rfl, D59, _, _, rfl, Hp.marks (K := [bx g29 [slice A13 a12.length c14] 29, bx g25 [slice A5 n6 c7] 29, rwI Gr57 (Kd.int .i64) A2 pre3 v55 post4 lim8 3]) hI63, fun wd216 hI215 => ?_⟩
 have hI217 := Hp.rwUp hI215 2 rfl hGr58
 have hI218 := Hp.front hI217 2 rfl
 have hI219 := Hp.sub hI218 (sk (sd (sd se)))
 cases H
 exact ⟨_, rfl, _, hG61, hI219, hn56, rfl⟩
set_option maxHeartbeats 1000000 in
theorem bidi_Order_spec {a1 : ByteArray} {a2 : Int} {r1132 : List Int} {r1139 : Int} {G : Gh} {L : List Itm} {w : World} (hI : Hp G (L) w) (H : bidi_Order a1 a2 = some (r1132, r1139)) :
    Calls Tryz.prog 73 [string a1, int .i64 a2].toArray w fun e w' => ∃ (A1133 : Option Addr) (n1134 : Nat) (c1135 : Nat) (G' : Gh), G ≤ G' ∧ Hp G' (rwI G' (Kd.int .i64) A1133 [] r1132 [] c1135 3 :: L) w' ∧ r1132.length = n1134 ∧ Mw A1133 A1133 ([] : List Int).length n1134 c1135 c1135 1 ∧ e = .returned (tuple [slice A1133 n1134 c1135, int .i64 r1139].toArray) := by
 refine calls_intro (N := 37) Tryz.func73 rfl rfl (Nat.le_of_ble_eq_true rfl) ?_
 unfold bidi_Order at H
 refine sr fun K3 hK4 => ?_
 refine q_as (v := slice none 0 0) rfl ?_
 refine q_as (v := int .i64 0) rfl ?_
 refine nl ?_
 refine hK4 _ _ _ ?_
 refine sr fun K5 hK6 => ?_
 refine q_mv (v := string a1) rfl ?_
 refine q_mv (v := int .i64 a2) rfl ?_
 obtain ⟨⟨y12, y19⟩, hy7, H⟩ := bS H
 refine q_cv (vs := [string a1, int .i64 a2]) bo100 rfl rfl (bidi_Levels_spec (a1 := a1) (a2 := a2) hI hy7) ?_
 rintro _ wd10 ⟨A13, n14, c15, G8, hG9, hI11, hn16, hM17, rfl⟩
 refine ⟨_, rfl, ?_⟩
 refine q_mv (v := tuple [slice A13 n14 c15, int .i64 y19].toArray) rfl ?_
 refine q_ex (v := slice A13 n14 c15) rfl rfl ?_
 refine q_ex (v := int .i64 y19) rfl rfl ?_
 refine q_as (v := slice A13 n14 c15) rfl ?_
 refine q_as (v := int .i64 y19) rfl ?_
 refine nl ?_
 refine hK6 _ _ _ ?_
 refine sQ fun K20 hK21 => ?_
 refine sr fun K22 hK23 => ?_
 refine q_mv (v := int .i64 y19) rfl ?_
 refine q_neq rfl rfl ?_
 refine nl ?_
 refine hK23 _ _ _ ?_
 by_cases h24 : ¬ y19 = 0
 replace H := iY h24 H
 refine wpc_true (bool_yes h24) ?_
 refine sr fun K25 hK26 => ?_
 refine q_mv (v := int .i64 y19) rfl ?_
 refine q_as (v := slice none 0 0) rfl ?_
 refine q_as (v := int .i64 y19) rfl ?_
 refine nl ?_
 refine hK26 _ _ _ ?_
 refine wpc_ret ?_
 have hI27 := Hp.emp hI11
 have hI29 := Hp.sub hI27 (sk (sd se))
 cases H
 exact ⟨.inr rfl, rfl, _, ⟨_, _, rfl, rfl, ⟨_, _, rfl, rfl, rfl⟩⟩, none, 0, 0, _, hG9, hI29, rfl, ⟨.inl rfl, Nat.le_refl _⟩, rfl⟩
 replace H := iN h24 H
 refine wpc_false (bool_no h24) ?_
 refine wpc_skip ?_
 refine hK21 _ _ _ ?_
 refine sr fun K30 hK31 => ?_
 refine q_mv (v := string a1) rfl ?_
 refine q_lens so9 rfl ?_
 obtain ⟨⟨h32, h32', h32''⟩, H⟩ := iS H
 refine q_mks (kd := (Kd.int .i64)) (z := (0 : Int)) hI11 el29 ze3 rfl rfl rfl rfl h32 h32' h32'' (fun g34 n35 wd36 hn38 hI37 => ?_)
 refine q_as (v := slice (some ⟨g34, 0, none⟩) n35 n35) rfl ?_
 refine nl ?_
 refine hK31 _ _ _ ?_
 refine sQ fun K39 hK40 => ?_
 refine sr fun K41 hK42 => ?_
 refine q_mv (v := slice (some ⟨g34, 0, none⟩) n35 n35) rfl ?_
 refine q_lenm so29 rfl hn38 ?_
 refine q_mv (v := int .i64 0) rfl ?_
 refine nl ?_
 refine hK42 _ _ _ ?_
 refine wpc_block ?_
 obtain ⟨v62, hC, H⟩ := bS H
 refine wpc_mono (Q := fun e r ds w => e = .exit 0 ∧ ∃ (Gr64 : Gh) (G66 : Gh), ds = [] ∧ G8 ≤ G66 ∧ Has [(6, slice A13 n14 c15), (8, slice (some ⟨g34, 0, none⟩) n35 n35)] r ∧ Hp G66 (rwI Gr64 (Kd.int .i64) (some ⟨g34, 0, none⟩) [] v62 [] n35 3 :: rwI G8 (Kd.int .i64) A13 [] y12 [] c15 3 :: L) w ∧ v62.length = n35 ∧ Gr64 ≤ G66 ∧ True) ?_ ?_
 clear H
 refine wpc_loop fun I hLp => ?_
 refine bidi_Order_l61.partial_correctness a1 (fun v47 v49 o => ∀ (Gr50 : Gh) (G71 : Gh) (r : Rg) (w : World), G8 ≤ G71 → Has [(6, slice A13 n14 c15), (8, slice (some ⟨g34, 0, none⟩) n35 n35), (23, int .i64 ((List.replicate (Int.toNat (a1.size : Int)) (0 : Int)).length : Int)), (24, int .i64 v49)] r → Hp G71 (rwI Gr50 (Kd.int .i64) (some ⟨g34, 0, none⟩) [] v47 [] n35 3 :: rwI G8 (Kd.int .i64) A13 [] y12 [] c15 3 :: L) w → v47.length = n35 → Gr50 ≤ G71 → o = v62 → I r [] w) ?_ (List.replicate (Int.toNat (a1.size : Int)) (0 : Int)) 0 _ hC G8 _ _ _ gR ⟨rfl, rfl, rfl, rfl, trivial⟩ hI37 hn38 gR rfl
 intro _ ih v47 v49 o H Gr50 G71 r wd73 hG72 hHas hI74 hn48 hGr51 ho
 rw [ho] at H; clear ho
 rw [hHas.eq]; clear hHas
 refine hLp _ _ _ ?_
 refine sr fun K75 hK76 => ?_
 refine q_lss rfl rfl ?_
 refine nl ?_
 refine hK76 _ _ _ ?_
 refine sQ fun K77 hK78 => ?_
 by_cases h79 : v49 < ((List.replicate (Int.toNat (a1.size : Int)) (0 : Int)).length : Int)
 replace H := iY h79 H
 refine wpc_true (bool_yes h79) ?_
 refine wpc_skip ?_
 refine hK78 _ _ _ ?_
 refine sQ fun K80 hK81 => ?_
 refine wpc_block ?_
 refine sr fun K82 hK83 => ?_
 refine q_mv (v := int .i64 v49) rfl ?_
 refine q_as (v := int .i64 v49) rfl ?_
 refine nl ?_
 refine hK83 _ _ _ ?_
 refine wpc_region ?_
 refine q_mv (v := slice (some ⟨g34, 0, none⟩) n35 n35) rfl ?_
 refine q_mv (v := int .i64 v49) rfl ?_
 refine q_mv (v := int .i64 v49) rfl ?_
 obtain ⟨⟨h84, h84'⟩, H⟩ := iS H
 have hb85 := lt_n hn38 h84'
 obtain ⟨ad86, hA87⟩ := Mw.ad (Mw.new (α := Int) g34 n35 1) h84 hb85
 refine q_ia el29 rfl hA87 rfl h84 hb85 ?_
 refine q_stm (kd := (Kd.int .i64)) hI74 0 (v := int .i64 v49) (news := [int .i64 v49]) (0 : Int) v49 ag3 rfl (Mw.new (α := Int) g34 n35 1) hn48 hA87 h84 hb85 (add_zero' _) rfl rfl rfl rfl rfl (Nat.le_of_ble_eq_true rfl) gR (fun _ ho => setAll_K ho rfl rfl) (fun wd88 hI89 => ?_)
 refine nl ?_
 refine hK81 _ _ _ ?_
 refine wpc_region ?_
 refine q_add rfl rfl ?_
 refine q_mv (v := int .i64 (w64 (v49 + 1))) rfl ?_
 refine nl ?_
 have hI90 := Hp.rwUp hI89 0 rfl hGr51
 exact ih _ _ _ H G71 _ _ _ hG72 ⟨rfl, rfl, rfl, rfl, trivial⟩ hI90 (set_len hn48) gR rfl
 replace H := iN h79 H
 refine wpc_false (bool_no h79) ?_
 refine wpc_exit ?_
 have hI91 := Hp.rwUp hI74 0 rfl hGr51
 cases H
 exact ⟨rfl, G71, _, rfl, hG72, ⟨rfl, rfl, trivial⟩, hI91, hn48, gR, trivial⟩
 clear hC
 rintro e r ds wd68 ⟨rfl, Gr64, G66, rfl, hG67, hHas, hI69, hn63, hGr65, _⟩
 rw [hHas.eq]; clear hHas
 refine hK40 _ _ _ ?_
 refine sr fun K92 hK93 => ?_
 refine q_mv (v := slice (some ⟨g34, 0, none⟩) n35 n35) rfl ?_
 refine q_mv (v := slice A13 n14 c15) rfl ?_
 refine q_bs hI69 (vs := [(0, int .i64 2), (1, int .i64 1)]) (cs := [int .i64 2, int .i64 1]) el29 ze3 rfl (by decide) rfl rfl (fun g95 wd96 hI97 => ?_)
 obtain ⟨G98, hG99, hI101, hD100⟩ := Hp.publish (xs := ([2, 1] : List Int)) (n := 2) (Kd.int .i64) hI97 ⟨[int .i64 2], _, rfl, rfl, ⟨[int .i64 1], _, rfl, rfl, rfl⟩⟩ rfl
 obtain ⟨G110, hG111, hI112, hD113, ho114, hl115⟩ := Hp.rwFreeze hI101 2 rfl hM17 hn16 (gT hG67 hG99)
 have hn116 : y12.length = n14 := hn16
 subst hn116
 have hI118 := Hp.rwUp hI112 1 rfl (gT hGr65 (gT hG99 hG111))
 have hI119 := Hp.front hI118 2 rfl
 have hI120 := Hp.front hI119 1 rfl
 have hI121 := Hp.front hI120 2 rfl
 obtain ⟨y127, hy122, H⟩ := bS H
 refine q_cv (vs := [slice (some ⟨g34, 0, none⟩) n35 n35, slice A13 y12.length c15, slice (some ⟨g95, 0, none⟩) ([2, 1] : List Int).length 2]) bo101 rfl rfl (bidi_turn_k3_spec (a1 := v62) (a12 := y12) (a17 := ([2, 1] : List Int)) hI121 hn63 (Mw.new (α := Int) g34 n35 1) hl115 hD113 (show ([2, 1] : List Int).length ≤ 2 from Nat.le_of_ble_eq_true rfl) (Dat.mono hG111 hD100) hy122) ?_
 rintro _ wd125 ⟨G123, hG124, hI126, hn128, rfl⟩
 refine ⟨_, rfl, ?_⟩
 refine nl ?_
 refine hK93 _ _ _ ?_
 refine sr fun K129 hK130 => ?_
 refine q_mv (v := slice (some ⟨g34, 0, none⟩) n35 n35) rfl ?_
 refine q_as (v := slice (some ⟨g34, 0, none⟩) n35 n35) rfl ?_
 refine q_as (v := int .i64 0) rfl ?_
 refine nl ?_
 refine hK130 _ _ _ ?_
 refine wpc_ret ?_
 have hI131 := Hp.sub hI126 (sk (sd (sd se)))
 cases H
 exact ⟨.inr rfl, rfl, _, ⟨_, _, rfl, rfl, ⟨_, _, rfl, rfl, rfl⟩⟩, (some ⟨g34, 0, none⟩), n35, n35, _, (gT (gT (gT (gT hG9 hG67) hG99) hG111) hG124), hI131, hn128, (Mw.new (α := Int) g34 n35 1), rfl⟩
set_option maxHeartbeats 1000000 in
theorem bidi_Visual_spec {a1 : ByteArray} {a2 : Int} {r1100 : ByteArray} {r1101 : Int} {G : Gh} {L : List Itm} {w : World} (hI : Hp G (L) w) (H : bidi_Visual a1 a2 = some (r1100, r1101)) :
    Calls Tryz.prog 39 [string a1, int .i64 a2].toArray w fun e w' => ∃ (G' : Gh), G ≤ G' ∧ Hp G' (L) w' ∧ e = .returned (tuple [string r1100, int .i64 r1101].toArray) := by
 refine calls_intro (N := 37) Tryz.func39 rfl rfl (Nat.le_of_ble_eq_true rfl) ?_
 unfold bidi_Visual at H
 refine sr fun K3 hK4 => ?_
 refine q_as (v := string (⟨#[]⟩ : ByteArray)) rfl ?_
 refine q_as (v := int .i64 0) rfl ?_
 refine nl ?_
 refine hK4 _ _ _ ?_
 refine sr fun K5 hK6 => ?_
 refine q_mv (v := string a1) rfl ?_
 refine q_mv (v := int .i64 a2) rfl ?_
 obtain ⟨⟨y12, y19⟩, hy7, H⟩ := bS H
 refine q_cv (vs := [string a1, int .i64 a2]) bo73 rfl rfl (bidi_Order_spec (a1 := a1) (a2 := a2) hI hy7) ?_
 rintro _ wd10 ⟨A13, n14, c15, G8, hG9, hI11, hn16, hM17, rfl⟩
 refine ⟨_, rfl, ?_⟩
 refine q_mv (v := tuple [slice A13 n14 c15, int .i64 y19].toArray) rfl ?_
 refine q_ex (v := slice A13 n14 c15) rfl rfl ?_
 refine q_ex (v := int .i64 y19) rfl rfl ?_
 refine q_as (v := slice A13 n14 c15) rfl ?_
 refine q_as (v := int .i64 y19) rfl ?_
 refine nl ?_
 refine hK6 _ _ _ ?_
 refine sr fun K20 hK21 => ?_
 refine q_mv (v := slice A13 n14 c15) rfl ?_
 refine q_lenm so29 rfl hn16 ?_
 obtain ⟨⟨h22, h22', h22''⟩, H⟩ := iS H
 refine q_mks (kd := (Kd.int .u8)) (z := (0 : Int)) hI11 el124 ze5 rfl rfl rfl rfl h22 h22' h22'' (fun g24 n25 wd26 hn28 hI27 => ?_)
 refine q_as (v := slice (some ⟨g24, 0, none⟩) n25 n25) rfl ?_
 refine nl ?_
 refine hK21 _ _ _ ?_
 refine sQ fun K29 hK30 => ?_
 refine sr fun K31 hK32 => ?_
 refine q_mv (v := slice A13 n14 c15) rfl ?_
 refine q_lenm so29 rfl hn16 ?_
 refine q_mv (v := int .i64 0) rfl ?_
 refine nl ?_
 refine hK32 _ _ _ ?_
 refine wpc_block ?_
 obtain ⟨v52, hC, H⟩ := bS H
 refine wpc_mono (Q := fun e r ds w => e = .exit 0 ∧ ∃ (Gr54 : Gh) (G56 : Gh), ds = [] ∧ G8 ≤ G56 ∧ Has [(7, int .i64 y19), (8, slice (some ⟨g24, 0, none⟩) n25 n25)] r ∧ Hp G56 (rwI Gr54 (Kd.int .u8) (some ⟨g24, 0, none⟩) [] v52 [] n25 5 :: rwI G8 (Kd.int .i64) A13 [] y12 [] c15 3 :: L) w ∧ v52.length = n25 ∧ Gr54 ≤ G56 ∧ True) ?_ ?_
 clear H
 refine wpc_loop fun I hLp => ?_
 refine bidi_Visual_l51.partial_correctness a1 y12 (fun v37 v39 o => ∀ (Gr40 : Gh) (G61 : Gh) (r : Rg) (w : World), G8 ≤ G61 → Has [(0, string a1), (7, int .i64 y19), (8, slice (some ⟨g24, 0, none⟩) n25 n25), (20, slice A13 n14 c15), (21, int .i64 (y12.length : Int)), (22, int .i64 v39)] r → Hp G61 (rwI Gr40 (Kd.int .u8) (some ⟨g24, 0, none⟩) [] v37 [] n25 5 :: rwI G8 (Kd.int .i64) A13 [] y12 [] c15 3 :: L) w → v37.length = n25 → Gr40 ≤ G61 → o = v52 → I r [] w) ?_ (List.replicate (Int.toNat (y12.length : Int)) (0 : Int)) 0 _ hC G8 _ _ _ gR ⟨rfl, rfl, rfl, rfl, rfl, rfl, trivial⟩ hI27 hn28 gR rfl
 intro _ ih v37 v39 o H Gr40 G61 r wd63 hG62 hHas hI64 hn38 hGr41 ho
 rw [ho] at H; clear ho
 rw [hHas.eq]; clear hHas
 refine hLp _ _ _ ?_
 refine sr fun K65 hK66 => ?_
 refine q_lss rfl rfl ?_
 refine nl ?_
 refine hK66 _ _ _ ?_
 refine sQ fun K67 hK68 => ?_
 by_cases h69 : v39 < (y12.length : Int)
 replace H := iY h69 H
 refine wpc_true (bool_yes h69) ?_
 refine wpc_skip ?_
 refine hK68 _ _ _ ?_
 refine sQ fun K70 hK71 => ?_
 refine wpc_block ?_
 refine sr fun K72 hK73 => ?_
 refine q_mv (v := int .i64 v39) rfl ?_
 obtain ⟨⟨h74, h74'⟩, H⟩ := iS H
 have hb75 := lt_n hn16 h74'
 obtain ⟨ad76, hA77⟩ := Mw.ad hM17 h74 hb75
 refine q_ia el29 rfl hA77 rfl h74 hb75 ?_
 obtain ⟨_, rfl, _, hc79⟩ := Hp.rwGet hI64 1 rfl hM17 hn16 hA77 (0 : Int) h74 hb75
 refine q_load1 (v := int .i64 (y12.getD (Int.toNat v39) (0 : Int))) ag3 rfl (cell0 (hc79 0 _ rfl)) ?_
 refine q_as (v := int .i64 v39) rfl ?_
 refine q_as (v := int .i64 (y12.getD (Int.toNat v39) (0 : Int))) rfl ?_
 refine nl ?_
 refine hK73 _ _ _ ?_
 refine wpc_region ?_
 refine q_mv (v := slice (some ⟨g24, 0, none⟩) n25 n25) rfl ?_
 refine q_mv (v := int .i64 v39) rfl ?_
 refine q_mv (v := string a1) rfl ?_
 refine q_mv (v := int .i64 (y12.getD (Int.toNat v39) (0 : Int))) rfl ?_
 obtain ⟨⟨h80, h80'⟩, H⟩ := iS H
 refine q_is so9 rfl rfl h80 h80' rfl ?_
 obtain ⟨⟨h81, h81'⟩, H⟩ := iS H
 have hb82 := lt_n hn28 h81'
 obtain ⟨ad83, hA84⟩ := Mw.ad (Mw.new (α := Int) g24 n25 1) h81 hb82
 refine q_ia el124 rfl hA84 rfl h81 hb82 ?_
 refine q_stm (kd := (Kd.int .u8)) hI64 0 (v := int .u8 (bt a1 (y12.getD (Int.toNat v39) (0 : Int)))) (news := [int .u8 (bt a1 (y12.getD (Int.toNat v39) (0 : Int)))]) (0 : Int) (bt a1 (y12.getD (Int.toNat v39) (0 : Int))) ag5 rfl (Mw.new (α := Int) g24 n25 1) hn38 hA84 h81 hb82 (add_zero' _) rfl rfl rfl rfl rfl (Nat.le_of_ble_eq_true rfl) gR (fun _ ho => setAll_K ho rfl rfl) (fun wd85 hI86 => ?_)
 refine nl ?_
 refine hK71 _ _ _ ?_
 refine wpc_region ?_
 refine q_add rfl rfl ?_
 refine q_mv (v := int .i64 (w64 (v39 + 1))) rfl ?_
 refine nl ?_
 have hI87 := Hp.rwUp hI86 0 rfl hGr41
 exact ih _ _ _ H G61 _ _ _ hG62 ⟨rfl, rfl, rfl, rfl, rfl, rfl, trivial⟩ hI87 (set_len hn38) gR rfl
 replace H := iN h69 H
 refine wpc_false (bool_no h69) ?_
 refine wpc_exit ?_
 have hI88 := Hp.rwUp hI64 0 rfl hGr41
 cases H
 exact ⟨rfl, G61, _, rfl, hG62, ⟨rfl, rfl, trivial⟩, hI88, hn38, gR, trivial⟩
 clear hC
 rintro e r ds wd58 ⟨rfl, Gr54, G56, rfl, hG57, hHas, hI59, hn53, hGr55, _⟩
 rw [hHas.eq]; clear hHas
 refine hK30 _ _ _ ?_
 refine sr fun K89 hK90 => ?_
 refine q_mv (v := slice (some ⟨g24, 0, none⟩) n25 n25) rfl ?_
 obtain ⟨G91, hG92, hI93, hD94, ho95, hl96⟩ := Hp.rwFreeze hI59 0 rfl (Mw.new (α := Int) g24 n25 1) hn53 hGr55
 have hn97 : v52.length = n25 := hn53
 subst hn97
 refine q_cvb hI93 el124 ik5 so9 rfl rfl hD94 ?_
 refine q_mv (v := int .i64 y19) rfl ?_
 refine q_as (v := string (bstr v52)) rfl ?_
 refine q_as (v := int .i64 y19) rfl ?_
 refine nl ?_
 refine hK90 _ _ _ ?_
 refine wpc_ret ?_
 have hI99 := Hp.sub hI93 (sd (sd se))
 cases H
 exact ⟨.inr rfl, rfl, _, ⟨_, _, rfl, rfl, ⟨_, _, rfl, rfl, rfl⟩⟩, _, (gT (gT hG9 hG57) hG92), hI99, rfl⟩
set_option maxHeartbeats 1000000 in
theorem inline_Place_spec {a1 : api_Font} {a10 : ByteArray} {a11 : api_Line} {a12 : Int} {a13 : Int} {a14 : Int} {a15 : Int} {A2 : Option Addr} {c3 : Nat} {A6 : Option Addr} {c7 : Nat} {r1191 : ByteArray} {r1192 : Int} {r1193 : Int} {G : Gh} {L : List Itm} {w : World} (hI : Hp G (L) w) (hl4 : a1.Glyphs.length ≤ c3) (hD5 : Dat k_api_Glyph G A2 a1.Glyphs) (hl8 : a1.Kerns.length ≤ c7) (hD9 : Dat k_api_Kern G A6 a1.Kerns) (hgl : Gl G) (H : inline_Place a1 a10 a11 a12 a13 a14 a15 = some (r1191, r1192, r1193)) :
    Calls Tryz.prog 16 [agg [slice A2 a1.Glyphs.length c3, slice A6 a1.Kerns.length c7].toArray, string a10, agg [int .i64 a11.From, int .i64 a11.Until, int .i64 a11.Width, bool a11.Hyphen].toArray, int .i64 a12, int .i64 a13, int .i64 a14, int .i64 a15].toArray w fun e w' => ∃ (G' : Gh), G ≤ G' ∧ Hp G' (L) w' ∧ e = .returned (tuple [string r1191, int .i64 r1192, int .i64 r1193].toArray) := by
 refine calls_intro (N := 112) Tryz.func16 rfl rfl (Nat.le_of_ble_eq_true rfl) ?_
 unfold inline_Place at H
 refine sr fun K16 hK17 => ?_
 refine q_box hI (v := agg [slice A2 a1.Glyphs.length c3, slice A6 a1.Kerns.length c7].toArray) (vs := [slice A2 a1.Glyphs.length c3, slice A6 a1.Kerns.length c7]) rfl rfl (fun g19 wd20 hI21 => ?_)
 refine q_box hI21 (v := agg [int .i64 a11.From, int .i64 a11.Until, int .i64 a11.Width, bool a11.Hyphen].toArray) (vs := [int .i64 a11.From, int .i64 a11.Until, int .i64 a11.Width, bool a11.Hyphen]) rfl rfl (fun g23 wd24 hI25 => ?_)
 refine q_as (v := string (⟨#[]⟩ : ByteArray)) rfl ?_
 refine q_as (v := int .i64 0) rfl ?_
 refine q_as (v := int .i64 0) rfl ?_
 refine nl ?_
 refine hK17 _ _ _ ?_
 refine sr fun K26 hK27 => ?_
 refine q_mv (v := int .i64 a12) rfl ?_
 obtain ⟨y33, hy28, H⟩ := bS H
 refine q_cv (vs := [int .i64 a12, int .i64 50, int .i64 300]) bo25 rfl rfl (inline_within_int_spec (a1 := a12) (a2 := 50) (a3 := 300) hI25 hy28) ?_
 rintro _ wd31 ⟨G29, hG30, hI32, rfl⟩
 refine ⟨_, rfl, ?_⟩
 refine q_mv (v := bool y33) rfl ?_
 obtain ⟨v34, hC, H⟩ := bS H
 refine wpq_split 3 (K := fun e r ds w => e = .normal ∧ ∃ (G35 : Gh), ds = [] ∧ G29 ≤ G35 ∧ Has [(1, string a10), (3, int .i64 a12), (4, int .i64 a13), (5, int .i64 a14), (6, int .i64 a15), (7, pointer (some ⟨g19, 0, none⟩)), (9, pointer (some ⟨g23, 0, none⟩)), (29, bool v34)] r ∧ Hp G35 (bx g23 [int .i64 a11.From, int .i64 a11.Until, int .i64 a11.Width, bool a11.Hyphen] 31 :: bx g19 [slice A2 a1.Glyphs.length c3, slice A6 a1.Kerns.length c7] 25 :: L) w ∧ True) ?_ ?_
 replace H := hC
 by_cases h40 : y33 = true
 replace H := iY h40 H
 refine q_mv (v := int .i64 a13) rfl ?_ (hw := gY rfl rfl rfl (bval_yes h40))
 obtain ⟨y46, hy41, H⟩ := bS H
 refine q_cv (vs := [int .i64 a13, int .i64 0, int .i64 1000000000]) bo25 rfl rfl (inline_within_int_spec (a1 := a13) (a2 := 0) (a3 := 1000000000) hI32 hy41) ?_ (hw := gY rfl rfl rfl (bval_yes h40))
 rintro _ wd44 ⟨G42, hG43, hI45, rfl⟩
 refine ⟨_, rfl, ?_⟩
 refine q_pick true (v := bool y46) (bval_yes h40) rfl ?_
 refine nl ?_
 cases H
 exact ⟨rfl, _, rfl, hG43, ⟨rfl, rfl, rfl, rfl, rfl, rfl, rfl, rfl, trivial⟩, hI45, trivial⟩
 replace H := iN h40 H
 refine wN (gN rfl rfl rfl (bval_no h40) rfl) ?_
 refine wN (gN rfl rfl rfl (bval_no h40) rfl) ?_
 refine q_pick false (v := bool false) (bval_no h40) rfl ?_
 refine nl ?_
 cases H
 exact ⟨rfl, _, rfl, gR, ⟨rfl, rfl, rfl, rfl, rfl, rfl, rfl, rfl, trivial⟩, hI32, trivial⟩
 clear hC
 rintro e r ds wd37 ⟨rfl, G35, rfl, hG36, hHas, hI38, _⟩
 rw [hHas.eq]; clear hHas
 refine q_mv (v := bool v34) rfl ?_
 obtain ⟨v47, hC, H⟩ := bS H
 refine wpq_split 3 (K := fun e r ds w => e = .normal ∧ ∃ (G48 : Gh), ds = [] ∧ G35 ≤ G48 ∧ Has [(1, string a10), (3, int .i64 a12), (4, int .i64 a13), (5, int .i64 a14), (6, int .i64 a15), (7, pointer (some ⟨g19, 0, none⟩)), (9, pointer (some ⟨g23, 0, none⟩)), (33, bool v47)] r ∧ Hp G48 (bx g23 [int .i64 a11.From, int .i64 a11.Until, int .i64 a11.Width, bool a11.Hyphen] 31 :: bx g19 [slice A2 a1.Glyphs.length c3, slice A6 a1.Kerns.length c7] 25 :: L) w ∧ True) ?_ ?_
 replace H := hC
 by_cases h53 : v34 = true
 replace H := iY h53 H
 refine q_mv (v := int .i64 a14) rfl ?_ (hw := gY rfl rfl rfl (bval_yes h53))
 obtain ⟨y59, hy54, H⟩ := bS H
 refine q_cv (vs := [int .i64 a14, int .i64 0, int .i64 2]) bo25 rfl rfl (inline_within_int_spec (a1 := a14) (a2 := 0) (a3 := 2) hI38 hy54) ?_ (hw := gY rfl rfl rfl (bval_yes h53))
 rintro _ wd57 ⟨G55, hG56, hI58, rfl⟩
 refine ⟨_, rfl, ?_⟩
 refine q_pick true (v := bool y59) (bval_yes h53) rfl ?_
 refine nl ?_
 cases H
 exact ⟨rfl, _, rfl, hG56, ⟨rfl, rfl, rfl, rfl, rfl, rfl, rfl, rfl, trivial⟩, hI58, trivial⟩
 replace H := iN h53 H
 refine wN (gN rfl rfl rfl (bval_no h53) rfl) ?_
 refine wN (gN rfl rfl rfl (bval_no h53) rfl) ?_
 refine q_pick false (v := bool false) (bval_no h53) rfl ?_
 refine nl ?_
 cases H
 exact ⟨rfl, _, rfl, gR, ⟨rfl, rfl, rfl, rfl, rfl, rfl, rfl, rfl, trivial⟩, hI38, trivial⟩
 clear hC
 rintro e r ds wd50 ⟨rfl, G48, rfl, hG49, hHas, hI51, _⟩
 rw [hHas.eq]; clear hHas
 refine q_mv (v := bool v47) rfl ?_
 obtain ⟨v60, hC, H⟩ := bS H
 refine wpq_split 3 (K := fun e r ds w => e = .normal ∧ ∃ (G61 : Gh), ds = [] ∧ G48 ≤ G61 ∧ Has [(1, string a10), (3, int .i64 a12), (4, int .i64 a13), (5, int .i64 a14), (6, int .i64 a15), (7, pointer (some ⟨g19, 0, none⟩)), (9, pointer (some ⟨g23, 0, none⟩)), (37, bool v60)] r ∧ Hp G61 (bx g23 [int .i64 a11.From, int .i64 a11.Until, int .i64 a11.Width, bool a11.Hyphen] 31 :: bx g19 [slice A2 a1.Glyphs.length c3, slice A6 a1.Kerns.length c7] 25 :: L) w ∧ True) ?_ ?_
 replace H := hC
 by_cases h66 : v47 = true
 replace H := iY h66 H
 refine q_mv (v := int .i64 a15) rfl ?_ (hw := gY rfl rfl rfl (bval_yes h66))
 obtain ⟨y72, hy67, H⟩ := bS H
 refine q_cv (vs := [int .i64 a15, int .i64 0, int .i64 1]) bo25 rfl rfl (inline_within_int_spec (a1 := a15) (a2 := 0) (a3 := 1) hI51 hy67) ?_ (hw := gY rfl rfl rfl (bval_yes h66))
 rintro _ wd70 ⟨G68, hG69, hI71, rfl⟩
 refine ⟨_, rfl, ?_⟩
 refine q_pick true (v := bool y72) (bval_yes h66) rfl ?_
 refine nl ?_
 cases H
 exact ⟨rfl, _, rfl, hG69, ⟨rfl, rfl, rfl, rfl, rfl, rfl, rfl, rfl, trivial⟩, hI71, trivial⟩
 replace H := iN h66 H
 refine wN (gN rfl rfl rfl (bval_no h66) rfl) ?_
 refine wN (gN rfl rfl rfl (bval_no h66) rfl) ?_
 refine q_pick false (v := bool false) (bval_no h66) rfl ?_
 refine nl ?_
 cases H
 exact ⟨rfl, _, rfl, gR, ⟨rfl, rfl, rfl, rfl, rfl, rfl, rfl, rfl, trivial⟩, hI51, trivial⟩
 clear hC
 rintro e r ds wd63 ⟨rfl, G61, rfl, hG62, hHas, hI64, _⟩
 rw [hHas.eq]; clear hHas
 refine q_as (v := bool v60) rfl ?_
 refine nl ?_
 refine hK27 _ _ _ ?_
 refine sQ fun K73 hK74 => ?_
 refine sr fun K75 hK76 => ?_
 refine q_mv (v := bool v60) rfl ?_
 refine q_not rfl ?_
 refine q_mv (v := bool (!v60)) rfl ?_
 obtain ⟨v77, hC, H⟩ := bS H
 refine wpq_split 4 (K := fun e r ds w => e = .normal ∧ ∃ (G78 : Gh), ds = [] ∧ G61 ≤ G78 ∧ Has [(1, string a10), (3, int .i64 a12), (4, int .i64 a13), (5, int .i64 a14), (6, int .i64 a15), (7, pointer (some ⟨g19, 0, none⟩)), (9, pointer (some ⟨g23, 0, none⟩)), (44, bool v77)] r ∧ Hp G78 (bx g23 [int .i64 a11.From, int .i64 a11.Until, int .i64 a11.Width, bool a11.Hyphen] 31 :: bx g19 [slice A2 a1.Glyphs.length c3, slice A6 a1.Kerns.length c7] 25 :: L) w ∧ True) ?_ ?_
 replace H := hC
 by_cases h83 : (!v60) = true
 replace H := iY h83 H
 refine wN (gN rfl rfl rfl (bval_yes h83) rfl) ?_
 refine wN (gN rfl rfl rfl (bval_yes h83) rfl) ?_
 refine wN (gN rfl rfl rfl (bval_yes h83) rfl) ?_
 refine q_pick true (v := bool true) (bval_yes h83) rfl ?_
 refine nl ?_
 cases H
 exact ⟨rfl, _, rfl, gR, ⟨rfl, rfl, rfl, rfl, rfl, rfl, rfl, rfl, trivial⟩, hI64, trivial⟩
 replace H := iN h83 H
 refine q_ldA hI64 1 (cs := [slice A2 a1.Glyphs.length c3, slice A6 a1.Kerns.length c7]) ag25 rfl rfl rfl rfl ?_ (hw := gY rfl rfl rfl (bval_no h83))
 obtain ⟨y89, hy84, H⟩ := bS H
 refine q_cv (vs := [agg [slice A2 a1.Glyphs.length c3, slice A6 a1.Kerns.length c7].toArray]) bo36 rfl rfl (font_Valid_spec (a1 := a1) hI64 hl4 (Dat.mono (gT (gT (gT hG30 hG36) hG49) hG62) hD5) hl8 (Dat.mono (gT (gT (gT hG30 hG36) hG49) hG62) hD9) hy84) ?_ (hw := gY rfl rfl rfl (bval_no h83))
 rintro _ wd87 ⟨G85, hG86, hI88, rfl⟩
 refine ⟨_, rfl, ?_⟩
 refine q_not rfl ?_ (hw := gY rfl rfl rfl (bval_no h83))
 refine q_pick false (v := bool (!y89)) (bval_no h83) rfl ?_
 refine nl ?_
 cases H
 exact ⟨rfl, _, rfl, hG86, ⟨rfl, rfl, rfl, rfl, rfl, rfl, rfl, rfl, trivial⟩, hI88, trivial⟩
 clear hC
 rintro e r ds wd80 ⟨rfl, G78, rfl, hG79, hHas, hI81, _⟩
 rw [hHas.eq]; clear hHas
 refine q_mv (v := bool v77) rfl ?_
 obtain ⟨v90, hC, H⟩ := bS H
 refine wpq_split 4 (K := fun e r ds w => e = .normal ∧ ∃ (G91 : Gh), ds = [] ∧ G78 ≤ G91 ∧ Has [(1, string a10), (3, int .i64 a12), (4, int .i64 a13), (5, int .i64 a14), (6, int .i64 a15), (7, pointer (some ⟨g19, 0, none⟩)), (9, pointer (some ⟨g23, 0, none⟩)), (49, bool v90)] r ∧ Hp G91 (bx g23 [int .i64 a11.From, int .i64 a11.Until, int .i64 a11.Width, bool a11.Hyphen] 31 :: bx g19 [slice A2 a1.Glyphs.length c3, slice A6 a1.Kerns.length c7] 25 :: L) w ∧ True) ?_ ?_
 replace H := hC
 by_cases h96 : v77 = true
 replace H := iY h96 H
 refine wN (gN rfl rfl rfl (bval_yes h96) rfl) ?_
 refine wN (gN rfl rfl rfl (bval_yes h96) rfl) ?_
 refine wN (gN rfl rfl rfl (bval_yes h96) rfl) ?_
 refine q_pick true (v := bool true) (bval_yes h96) rfl ?_
 refine nl ?_
 cases H
 exact ⟨rfl, _, rfl, gR, ⟨rfl, rfl, rfl, rfl, rfl, rfl, rfl, rfl, trivial⟩, hI81, trivial⟩
 replace H := iN h96 H
 refine q_mv (v := string a10) rfl ?_ (hw := gY rfl rfl rfl (bval_no h96))
 obtain ⟨y102, hy97, H⟩ := bS H
 refine q_cv (vs := [string a10]) bo37 rfl rfl (text_Valid_spec (a1 := a10) hI81 hy97) ?_ (hw := gY rfl rfl rfl (bval_no h96))
 rintro _ wd100 ⟨G98, hG99, hI101, rfl⟩
 refine ⟨_, rfl, ?_⟩
 refine q_not rfl ?_ (hw := gY rfl rfl rfl (bval_no h96))
 refine q_pick false (v := bool (!y102)) (bval_no h96) rfl ?_
 refine nl ?_
 cases H
 exact ⟨rfl, _, rfl, hG99, ⟨rfl, rfl, rfl, rfl, rfl, rfl, rfl, rfl, trivial⟩, hI101, trivial⟩
 clear hC
 rintro e r ds wd93 ⟨rfl, G91, rfl, hG92, hHas, hI94, _⟩
 rw [hHas.eq]; clear hHas
 refine q_mv (v := bool v90) rfl ?_
 obtain ⟨v103, hC, H⟩ := bS H
 refine wpq_split 4 (K := fun e r ds w => e = .normal ∧ ∃ (G104 : Gh), ds = [] ∧ G91 ≤ G104 ∧ Has [(1, string a10), (3, int .i64 a12), (4, int .i64 a13), (5, int .i64 a14), (6, int .i64 a15), (7, pointer (some ⟨g19, 0, none⟩)), (9, pointer (some ⟨g23, 0, none⟩)), (54, bool v103)] r ∧ Hp G104 (bx g23 [int .i64 a11.From, int .i64 a11.Until, int .i64 a11.Width, bool a11.Hyphen] 31 :: bx g19 [slice A2 a1.Glyphs.length c3, slice A6 a1.Kerns.length c7] 25 :: L) w ∧ True) ?_ ?_
 replace H := hC
 by_cases h109 : v90 = true
 replace H := iY h109 H
 refine wN (gN rfl rfl rfl (bval_yes h109) rfl) ?_
 refine wN (gN rfl rfl rfl (bval_yes h109) rfl) ?_
 refine wN (gN rfl rfl rfl (bval_yes h109) rfl) ?_
 refine q_pick true (v := bool true) (bval_yes h109) rfl ?_
 refine nl ?_
 cases H
 exact ⟨rfl, _, rfl, gR, ⟨rfl, rfl, rfl, rfl, rfl, rfl, rfl, rfl, trivial⟩, hI94, trivial⟩
 replace H := iN h109 H
 refine q_fa (a' := ⟨g23, 0, none⟩) fl31_0 rfl (add_plain _ _ _) ?_ (hw := gY rfl rfl rfl (bval_no h109))
 refine q_ld hI94 0 (v := int .i64 a11.From) ag3 rfl rfl rfl ?_ (hw := gY rfl rfl rfl (bval_no h109))
 refine q_lss rfl rfl ?_ (hw := gY rfl rfl rfl (bval_no h109))
 refine q_pick false (v := bool (decide (a11.From < 0))) (bval_no h109) rfl ?_
 refine nl ?_
 cases H
 exact ⟨rfl, _, rfl, gR, ⟨rfl, rfl, rfl, rfl, rfl, rfl, rfl, rfl, trivial⟩, hI94, trivial⟩
 clear hC
 rintro e r ds wd106 ⟨rfl, G104, rfl, hG105, hHas, hI107, _⟩
 rw [hHas.eq]; clear hHas
 refine q_mv (v := bool v103) rfl ?_
 obtain ⟨v110, hC, H⟩ := bS H
 refine wpq_split 6 (K := fun e r ds w => e = .normal ∧ ∃ (G111 : Gh), ds = [] ∧ G104 ≤ G111 ∧ Has [(1, string a10), (3, int .i64 a12), (4, int .i64 a13), (5, int .i64 a14), (6, int .i64 a15), (7, pointer (some ⟨g19, 0, none⟩)), (9, pointer (some ⟨g23, 0, none⟩)), (61, bool v110)] r ∧ Hp G111 (bx g23 [int .i64 a11.From, int .i64 a11.Until, int .i64 a11.Width, bool a11.Hyphen] 31 :: bx g19 [slice A2 a1.Glyphs.length c3, slice A6 a1.Kerns.length c7] 25 :: L) w ∧ True) ?_ ?_
 replace H := hC
 by_cases h116 : v103 = true
 replace H := iY h116 H
 refine wN (gN rfl rfl rfl (bval_yes h116) rfl) ?_
 refine wN (gN rfl rfl rfl (bval_yes h116) rfl) ?_
 refine wN (gN rfl rfl rfl (bval_yes h116) rfl) ?_
 refine wN (gN rfl rfl rfl (bval_yes h116) rfl) ?_
 refine wN (gN rfl rfl rfl (bval_yes h116) rfl) ?_
 refine q_pick true (v := bool true) (bval_yes h116) rfl ?_
 refine nl ?_
 cases H
 exact ⟨rfl, _, rfl, gR, ⟨rfl, rfl, rfl, rfl, rfl, rfl, rfl, rfl, trivial⟩, hI107, trivial⟩
 replace H := iN h116 H
 refine q_fa (a' := ⟨g23, 0, none⟩) fl31_0 rfl (add_plain _ _ _) ?_ (hw := gY rfl rfl rfl (bval_no h116))
 refine q_ld hI107 0 (v := int .i64 a11.From) ag3 rfl rfl rfl ?_ (hw := gY rfl rfl rfl (bval_no h116))
 refine q_fa (a' := ⟨g23, 1, none⟩) fl31_1 rfl (add_plain _ _ _) ?_ (hw := gY rfl rfl rfl (bval_no h116))
 refine q_ld hI107 0 (v := int .i64 a11.Until) ag3 rfl rfl rfl ?_ (hw := gY rfl rfl rfl (bval_no h116))
 refine q_geq rfl rfl ?_ (hw := gY rfl rfl rfl (bval_no h116))
 refine q_pick false (v := bool (decide (a11.Until ≤ a11.From))) (bval_no h116) rfl ?_
 refine nl ?_
 cases H
 exact ⟨rfl, _, rfl, gR, ⟨rfl, rfl, rfl, rfl, rfl, rfl, rfl, rfl, trivial⟩, hI107, trivial⟩
 clear hC
 rintro e r ds wd113 ⟨rfl, G111, rfl, hG112, hHas, hI114, _⟩
 rw [hHas.eq]; clear hHas
 refine q_mv (v := bool v110) rfl ?_
 obtain ⟨v117, hC, H⟩ := bS H
 refine wpq_split 6 (K := fun e r ds w => e = .normal ∧ ∃ (G118 : Gh), ds = [] ∧ G111 ≤ G118 ∧ Has [(1, string a10), (3, int .i64 a12), (4, int .i64 a13), (5, int .i64 a14), (6, int .i64 a15), (7, pointer (some ⟨g19, 0, none⟩)), (9, pointer (some ⟨g23, 0, none⟩)), (68, bool v117)] r ∧ Hp G118 (bx g23 [int .i64 a11.From, int .i64 a11.Until, int .i64 a11.Width, bool a11.Hyphen] 31 :: bx g19 [slice A2 a1.Glyphs.length c3, slice A6 a1.Kerns.length c7] 25 :: L) w ∧ True) ?_ ?_
 replace H := hC
 by_cases h123 : v110 = true
 replace H := iY h123 H
 refine wN (gN rfl rfl rfl (bval_yes h123) rfl) ?_
 refine wN (gN rfl rfl rfl (bval_yes h123) rfl) ?_
 refine wN (gN rfl rfl rfl (bval_yes h123) rfl) ?_
 refine wN (gN rfl rfl rfl (bval_yes h123) rfl) ?_
 refine wN (gN rfl rfl rfl (bval_yes h123) rfl) ?_
 refine q_pick true (v := bool true) (bval_yes h123) rfl ?_
 refine nl ?_
 cases H
 exact ⟨rfl, _, rfl, gR, ⟨rfl, rfl, rfl, rfl, rfl, rfl, rfl, rfl, trivial⟩, hI114, trivial⟩
 replace H := iN h123 H
 refine q_fa (a' := ⟨g23, 1, none⟩) fl31_1 rfl (add_plain _ _ _) ?_ (hw := gY rfl rfl rfl (bval_no h123))
 refine q_ld hI114 0 (v := int .i64 a11.Until) ag3 rfl rfl rfl ?_ (hw := gY rfl rfl rfl (bval_no h123))
 refine q_mv (v := string a10) rfl ?_ (hw := gY rfl rfl rfl (bval_no h123))
 refine q_lens so9 rfl ?_ (hw := gY rfl rfl rfl (bval_no h123))
 refine q_gtr rfl rfl ?_ (hw := gY rfl rfl rfl (bval_no h123))
 refine q_pick false (v := bool (decide ((a10.size : Int) < a11.Until))) (bval_no h123) rfl ?_
 refine nl ?_
 cases H
 exact ⟨rfl, _, rfl, gR, ⟨rfl, rfl, rfl, rfl, rfl, rfl, rfl, rfl, trivial⟩, hI114, trivial⟩
 clear hC
 rintro e r ds wd120 ⟨rfl, G118, rfl, hG119, hHas, hI121, _⟩
 rw [hHas.eq]; clear hHas
 refine nl ?_
 refine hK76 _ _ _ ?_
 by_cases h124 : v117 = true
 replace H := iY h124 H
 refine wpc_true (bval_yes h124) ?_
 refine sr fun K125 hK126 => ?_
 refine q_as (v := string (⟨#[]⟩ : ByteArray)) rfl ?_
 refine q_as (v := int .i64 0) rfl ?_
 refine q_as (v := int .i64 1) rfl ?_
 refine nl ?_
 refine hK126 _ _ _ ?_
 refine wpc_ret ?_
 have hI127 := Hp.sub hI121 (sd (sd se))
 cases H
 exact ⟨.inr rfl, rfl, _, ⟨_, _, rfl, rfl, ⟨_, _, rfl, rfl, ⟨_, _, rfl, rfl, rfl⟩⟩⟩, _, (gT (gT (gT (gT (gT (gT (gT (gT hG30 hG36) hG49) hG62) hG79) hG92) hG105) hG112) hG119), hI127, rfl⟩
 replace H := iN h124 H
 refine wpc_false (bval_no h124) ?_
 refine wpc_skip ?_
 refine hK74 _ _ _ ?_
 refine sr fun K128 hK129 => ?_
 refine q_mv (v := string a10) rfl ?_
 refine q_fa (a' := ⟨g23, 0, none⟩) fl31_0 rfl (add_plain _ _ _) ?_
 refine q_ld hI121 0 (v := int .i64 a11.From) ag3 rfl rfl rfl ?_
 refine q_fa (a' := ⟨g23, 1, none⟩) fl31_1 rfl (add_plain _ _ _) ?_
 refine q_ld hI121 0 (v := int .i64 a11.Until) ag3 rfl rfl rfl ?_
 refine q_fa (a' := ⟨g23, 3, none⟩) fl31_3 rfl (add_plain _ _ _) ?_
 refine q_ld hI121 0 (v := bool a11.Hyphen) ag4 rfl rfl rfl ?_
 obtain ⟨y135, hy130, H⟩ := bS H
 refine q_cv (vs := [string a10, int .i64 a11.From, int .i64 a11.Until, bool a11.Hyphen]) bo38 rfl rfl (inline_seen_spec (a1 := a10) (a2 := a11.From) (a3 := a11.Until) (a4 := a11.Hyphen) hI121 (hgl.mono (gT (gT (gT (gT (gT (gT (gT (gT hG30 hG36) hG49) hG62) hG79) hG92) hG105) hG112) hG119)) hy130) ?_
 rintro _ wd133 ⟨G131, hG132, hI134, rfl⟩
 refine ⟨_, rfl, ?_⟩
 refine q_as (v := string y135) rfl ?_
 refine nl ?_
 refine hK129 _ _ _ ?_
 refine sr fun K136 hK137 => ?_
 refine q_ldA hI134 1 (cs := [slice A2 a1.Glyphs.length c3, slice A6 a1.Kerns.length c7]) ag25 rfl rfl rfl rfl ?_
 refine q_mv (v := string y135) rfl ?_
 refine q_mv (v := int .i64 a12) rfl ?_
 obtain ⟨⟨y143, y144⟩, hy138, H⟩ := bS H
 refine q_cv (vs := [agg [slice A2 a1.Glyphs.length c3, slice A6 a1.Kerns.length c7].toArray, string y135, int .i64 a12]) bo21 rfl rfl (font_Width_spec (a1 := a1) (a10 := y135) (a11 := a12) hI134 hl4 (Dat.mono (gT (gT (gT (gT (gT (gT (gT (gT (gT hG30 hG36) hG49) hG62) hG79) hG92) hG105) hG112) hG119) hG132) hD5) hl8 (Dat.mono (gT (gT (gT (gT (gT (gT (gT (gT (gT hG30 hG36) hG49) hG62) hG79) hG92) hG105) hG112) hG119) hG132) hD9) hy138) ?_
 rintro _ wd141 ⟨G139, hG140, hI142, rfl⟩
 refine ⟨_, rfl, ?_⟩
 refine q_mv (v := tuple [int .i64 y143, int .i64 y144].toArray) rfl ?_
 refine q_ex (v := int .i64 y143) rfl rfl ?_
 refine q_ex (v := int .i64 y144) rfl rfl ?_
 refine q_as (v := int .i64 y143) rfl ?_
 refine q_as (v := int .i64 y144) rfl ?_
 refine nl ?_
 refine hK137 _ _ _ ?_
 refine sQ fun K145 hK146 => ?_
 refine sr fun K147 hK148 => ?_
 refine q_mv (v := int .i64 y144) rfl ?_
 refine q_neq rfl rfl ?_
 refine nl ?_
 refine hK148 _ _ _ ?_
 by_cases h149 : ¬ y144 = 0
 replace H := iY h149 H
 refine wpc_true (bool_yes h149) ?_
 refine sr fun K150 hK151 => ?_
 refine q_mv (v := int .i64 y144) rfl ?_
 refine q_as (v := string (⟨#[]⟩ : ByteArray)) rfl ?_
 refine q_as (v := int .i64 0) rfl ?_
 refine q_as (v := int .i64 y144) rfl ?_
 refine nl ?_
 refine hK151 _ _ _ ?_
 refine wpc_ret ?_
 have hI152 := Hp.sub hI142 (sd (sd se))
 cases H
 exact ⟨.inr rfl, rfl, _, ⟨_, _, rfl, rfl, ⟨_, _, rfl, rfl, ⟨_, _, rfl, rfl, rfl⟩⟩⟩, _, (gT (gT (gT (gT (gT (gT (gT (gT (gT (gT hG30 hG36) hG49) hG62) hG79) hG92) hG105) hG112) hG119) hG132) hG140), hI152, rfl⟩
 replace H := iN h149 H
 refine wpc_false (bool_no h149) ?_
 refine wpc_skip ?_
 refine hK146 _ _ _ ?_
 refine sQ fun K153 hK154 => ?_
 refine sr fun K155 hK156 => ?_
 refine q_mv (v := int .i64 y143) rfl ?_
 refine q_fa (a' := ⟨g23, 2, none⟩) fl31_2 rfl (add_plain _ _ _) ?_
 refine q_ld hI142 0 (v := int .i64 a11.Width) ag3 rfl rfl rfl ?_
 refine q_neq rfl rfl ?_
 refine nl ?_
 refine hK156 _ _ _ ?_
 by_cases h157 : ¬ y143 = a11.Width
 replace H := iY h157 H
 refine wpc_true (bool_yes h157) ?_
 refine sr fun K158 hK159 => ?_
 refine q_as (v := string (⟨#[]⟩ : ByteArray)) rfl ?_
 refine q_as (v := int .i64 0) rfl ?_
 refine q_as (v := int .i64 1) rfl ?_
 refine nl ?_
 refine hK159 _ _ _ ?_
 refine wpc_ret ?_
 have hI160 := Hp.sub hI142 (sd (sd se))
 cases H
 exact ⟨.inr rfl, rfl, _, ⟨_, _, rfl, rfl, ⟨_, _, rfl, rfl, ⟨_, _, rfl, rfl, rfl⟩⟩⟩, _, (gT (gT (gT (gT (gT (gT (gT (gT (gT (gT hG30 hG36) hG49) hG62) hG79) hG92) hG105) hG112) hG119) hG132) hG140), hI160, rfl⟩
 replace H := iN h157 H
 refine wpc_false (bool_no h157) ?_
 refine wpc_skip ?_
 refine hK154 _ _ _ ?_
 refine sr fun K161 hK162 => ?_
 refine q_mv (v := string y135) rfl ?_
 refine q_mv (v := int .i64 a15) rfl ?_
 obtain ⟨⟨y168, y169⟩, hy163, H⟩ := bS H
 refine q_cv (vs := [string y135, int .i64 a15]) bo39 rfl rfl (bidi_Visual_spec (a1 := y135) (a2 := a15) hI142 hy163) ?_
 rintro _ wd166 ⟨G164, hG165, hI167, rfl⟩
 refine ⟨_, rfl, ?_⟩
 refine q_mv (v := tuple [string y168, int .i64 y169].toArray) rfl ?_
 refine q_ex (v := string y168) rfl rfl ?_
 refine q_ex (v := int .i64 y169) rfl rfl ?_
 refine q_as (v := string y168) rfl ?_
 refine q_as (v := int .i64 y169) rfl ?_
 refine nl ?_
 refine hK162 _ _ _ ?_
 refine sr fun K170 hK171 => ?_
 refine q_mv (v := int .i64 a13) rfl ?_
 refine q_mv (v := int .i64 y143) rfl ?_
 refine q_sub rfl rfl ?_
 refine q_as (v := int .i64 (w64 (a13 - y143))) rfl ?_
 refine nl ?_
 refine hK171 _ _ _ ?_
 refine sQ fun K172 hK173 => ?_
 refine sr fun K174 hK175 => ?_
 refine q_mv (v := int .i64 a14) rfl ?_
 refine nl ?_
 refine hK175 _ _ _ ?_
 refine wpc_block ?_
 refine sr fun K176 hK177 => ?_
 refine q_mv (v := int .i64 a15) rfl ?_
 refine q_eql rfl rfl ?_
 refine q_as (v := bool (decide (a14 = a15))) rfl ?_
 refine nl ?_
 refine hK177 _ _ _ ?_
 by_cases h178 : a14 = a15
 replace H := iY h178 H
 refine wpc_true (bool_yes h178) ?_
 refine sr fun K179 hK180 => ?_
 refine q_mv (v := string y168) rfl ?_
 refine q_as (v := string y168) rfl ?_
 refine q_as (v := int .i64 0) rfl ?_
 refine q_as (v := int .i64 0) rfl ?_
 refine nl ?_
 refine hK180 _ _ _ ?_
 refine wpc_ret ?_
 have hI181 := Hp.sub hI167 (sd (sd se))
 cases H
 exact ⟨.inr rfl, rfl, _, ⟨_, _, rfl, rfl, ⟨_, _, rfl, rfl, ⟨_, _, rfl, rfl, rfl⟩⟩⟩, _, (gT (gT (gT (gT (gT (gT (gT (gT (gT (gT (gT hG30 hG36) hG49) hG62) hG79) hG92) hG105) hG112) hG119) hG132) hG140) hG165), hI181, rfl⟩
 replace H := iN h178 H
 refine wpc_false (bool_no h178) ?_
 refine sr fun K182 hK183 => ?_
 refine q_eql rfl rfl ?_
 refine q_as (v := bool (decide (a14 = 2))) rfl ?_
 refine nl ?_
 refine hK183 _ _ _ ?_
 by_cases h184 : a14 = 2
 replace H := iY h184 H
 refine wpc_true (bool_yes h184) ?_
 refine sr fun K185 hK186 => ?_
 refine q_mv (v := string y168) rfl ?_
 refine q_mv (v := int .i64 (w64 (a13 - y143))) rfl ?_
 refine q_shr (m := 1) rfl rfl rfl ?_
 refine q_as (v := string y168) rfl ?_
 refine q_as (v := int .i64 (Int.fdiv (w64 (a13 - y143)) (2 ^ 1))) rfl ?_
 refine q_as (v := int .i64 0) rfl ?_
 refine nl ?_
 refine hK186 _ _ _ ?_
 refine wpc_ret ?_
 have hI187 := Hp.sub hI167 (sd (sd se))
 cases H
 exact ⟨.inr rfl, rfl, _, ⟨_, _, rfl, rfl, ⟨_, _, rfl, rfl, ⟨_, _, rfl, rfl, rfl⟩⟩⟩, _, (gT (gT (gT (gT (gT (gT (gT (gT (gT (gT (gT hG30 hG36) hG49) hG62) hG79) hG92) hG105) hG112) hG119) hG132) hG140) hG165), hI187, rfl⟩
 replace H := iN h184 H
 refine wpc_false (bool_no h184) ?_
 refine wpc_skip ?_
 refine hK173 _ _ _ ?_
 refine sr fun K188 hK189 => ?_
 refine q_mv (v := string y168) rfl ?_
 refine q_mv (v := int .i64 (w64 (a13 - y143))) rfl ?_
 refine q_as (v := string y168) rfl ?_
 refine q_as (v := int .i64 (w64 (a13 - y143))) rfl ?_
 refine q_as (v := int .i64 0) rfl ?_
 refine nl ?_
 refine hK189 _ _ _ ?_
 refine wpc_ret ?_
 have hI190 := Hp.sub hI167 (sd (sd se))
 cases H
 exact ⟨.inr rfl, rfl, _, ⟨_, _, rfl, rfl, ⟨_, _, rfl, rfl, ⟨_, _, rfl, rfl, rfl⟩⟩⟩, _, (gT (gT (gT (gT (gT (gT (gT (gT (gT (gT (gT hG30 hG36) hG49) hG62) hG79) hG92) hG105) hG112) hG119) hG132) hG140) hG165), hI190, rfl⟩
set_option maxHeartbeats 1000000 in
theorem formelaw17_plain_spec {r1095 : api_Font} {G : Gh} {L : List Itm} {w : World} (hI : Hp G (L) w) (H : formelaw17_plain = some r1095) :
    Calls Tryz.prog 23 [].toArray w fun e w' => ∃ (A1096 : Option Addr) (c1097 : Nat) (A1100 : Option Addr) (c1101 : Nat) (G' : Gh), G ≤ G' ∧ Hp G' (L) w' ∧ r1095.Glyphs.length ≤ c1097 ∧ Dat k_api_Glyph G' A1096 r1095.Glyphs ∧ r1095.Kerns.length ≤ c1101 ∧ Dat k_api_Kern G' A1100 r1095.Kerns ∧ e = .returned (agg [slice A1096 r1095.Glyphs.length c1097, slice A1100 r1095.Kerns.length c1101].toArray) := by
 refine calls_intro (N := 15) Tryz.func23 rfl rfl (Nat.le_of_ble_eq_true rfl) ?_
 unfold formelaw17_plain at H
 refine sr fun K1 hK2 => ?_
 refine q_alloc hI ze25 (fun g4 wd5 hI6 => ?_)
 refine nl ?_
 refine hK2 _ _ _ ?_
 refine sr fun K7 hK8 => ?_
 refine q_alloc hI6 ze25 (fun g10 wd11 hI12 => ?_)
 refine nl ?_
 refine hK8 _ _ _ ?_
 refine sQ fun K13 hK14 => ?_
 refine sr fun K15 hK16 => ?_
 refine q_as (v := int .u8 32) rfl ?_
 refine nl ?_
 refine hK16 _ _ _ ?_
 refine wpc_block ?_
 obtain ⟨v42, hC, H⟩ := bS H
 refine wpc_mono (Q := fun e r ds w => e = .exit 0 ∧ ∃ (A43 : Option Addr) (c44 : Nat) (G49 : Gh), ds = [] ∧ G ≤ G49 ∧ Has [(0, pointer (some ⟨g4, 0, none⟩)), (1, pointer (some ⟨g10, 0, none⟩))] r ∧ Hp G49 (bx g10 [slice A43 v42.length c44, slice none 0 0] 25 :: bx g4 [slice none 0 0, slice none 0 0] 25 :: tk (slice A43 v42.length c44) 2 98 :: L) w ∧ v42.length ≤ c44 ∧ Dat k_api_Glyph G49 A43 v42 ∧ Own A43 c44 ∧ True) ?_ ?_
 clear H
 have hI85 := Hp.emp hI12
 have hI87 := Hp.front hI85 2 rfl
 have hI88 := Hp.front hI87 2 rfl
 refine wpc_loop fun I hLp => ?_
 refine formelaw17_plain_l41.partial_correctness (fun v21 v22 o => ∀ (A23 : Option Addr) (c24 : Nat) (G54 : Gh) (r : Rg) (w : World), G ≤ G54 → Has [(0, pointer (some ⟨g4, 0, none⟩)), (1, pointer (some ⟨g10, 0, none⟩)), (2, int .u8 v21)] r → Hp G54 (bx g10 [slice A23 v22.length c24, slice none 0 0] 25 :: bx g4 [slice none 0 0, slice none 0 0] 25 :: tk (slice A23 v22.length c24) 2 98 :: L) w → v22.length ≤ c24 → Dat k_api_Glyph G54 A23 v22 → Own A23 c24 → o = v42 → I r [] w) ?_ 32 ([] : List api_Glyph) _ hC none 0 _ _ _ gR ⟨rfl, rfl, rfl, trivial⟩ hI88 (show ([] : List api_Glyph).length ≤ 0 from Nat.le_refl 0) (Dat.nil _ _ _) Own.nil rfl
 intro _ ih v21 v22 o H A23 c24 G54 r wd56 hG55 hHas hI57 hl25 hD26 ho27 ho
 rw [ho] at H; clear ho
 rw [hHas.eq]; clear hHas
 refine hLp _ _ _ ?_
 refine sQ fun K58 hK59 => ?_
 refine sr fun K60 hK61 => ?_
 refine q_mv (v := int .u8 v21) rfl ?_
 refine q_lss rfl rfl ?_
 refine nl ?_
 refine hK61 _ _ _ ?_
 by_cases h62 : v21 < 126
 replace H := iY h62 H
 refine wpc_true (bool_yes h62) ?_
 refine wpc_skip ?_
 refine hK59 _ _ _ ?_
 refine sQ fun K63 hK64 => ?_
 refine wpc_block ?_
 refine wpc_region ?_
 refine q_fa (a' := ⟨g10, 0, none⟩) fl25_0 rfl (add_plain _ _ _) ?_
 refine q_ld hI57 0 (v := slice A23 v22.length c24) ag22 rfl rfl rfl ?_
 refine q_mv (v := int .u8 v21) rfl ?_
 refine q_build (vs := [(0, int .u8 v21), (1, int .i64 10)]) (cs := [int .u8 v21, int .i64 10]) ze98 pl98 rfl rfl ?_
 refine q_bs hI57 (vs := [(0, agg [int .u8 v21, int .i64 10].toArray)]) (cs := [int .u8 v21, int .i64 10]) el22 ze98 rfl (by decide) rfl rfl (fun g66 wd67 hI68 => ?_)
 obtain ⟨h78, H⟩ := iS H
 refine q_app (xs := v22) (ys := [(⟨v21, 10⟩ : api_Glyph)]) k_api_Glyph hI68 3 el22 ze98 rfl rfl rfl rfl ho27 hl25 hD26 (src_bx hI68 0 so22 rfl rfl) ⟨[int .u8 v21, int .i64 10], _, rfl, (mk_api_Glyph (x := (⟨v21, 10⟩ : api_Glyph))), rfl⟩ rfl (by simp only [List.length_cons, List.length_nil]; omega) (by simp only [List.length_cons, List.length_nil]; omega) (fun A69 c70 G71 wd72 hG73 ho74 hl75 hD76 hI77 => ?_)
 refine q_fa (a' := ⟨g10, 0, none⟩) fl25_0 rfl (add_plain _ _ _) ?_
 refine q_stA hI77 1 (v := slice A69 (v22 ++ [(⟨v21, 10⟩ : api_Glyph)]).length c70) (cs := [slice A69 (v22 ++ [(⟨v21, 10⟩ : api_Glyph)]).length c70]) (vs' := [slice A69 (v22 ++ [(⟨v21, 10⟩ : api_Glyph)]).length c70, slice none 0 0]) ag22 rfl rfl rfl rfl rfl rfl (Nat.le_of_ble_eq_true rfl) rfl (fun wd79 hI80 => ?_)
 refine nl ?_
 refine hK64 _ _ _ ?_
 refine wpc_region ?_
 refine q_mv (v := int .u8 v21) rfl ?_
 refine q_add rfl rfl ?_
 refine q_as (v := int .u8 (wu8 (v21 + 1))) rfl ?_
 refine nl ?_
 have hI81 := Hp.front hI80 3 rfl
 have hI82 := Hp.front hI81 3 rfl
 have hI83 := Hp.front hI82 3 rfl
 have hI84 := Hp.sub hI83 (sk (sk (sk (sd se))))
 exact ih _ _ _ H A69 c70 _ _ _ (gT hG55 hG73) ⟨rfl, rfl, rfl, trivial⟩ hI84 hl75 hD76 ho74 rfl
 replace H := iN h62 H
 refine wpc_false (bool_no h62) ?_
 refine wpc_exit ?_
 cases H
 exact ⟨rfl, A23, c24, _, rfl, hG55, ⟨rfl, rfl, trivial⟩, hI57, hl25, hD26, ho27, trivial⟩
 clear hC
 rintro e r ds wd51 ⟨rfl, A43, c44, G49, rfl, hG50, hHas, hI52, hl45, hD46, ho47, _⟩
 rw [hHas.eq]; clear hHas
 refine hK14 _ _ _ ?_
 refine sr fun K89 hK90 => ?_
 refine q_ldA hI52 0 (cs := [slice A43 v42.length c44, slice none 0 0]) ag25 rfl rfl rfl rfl ?_
 refine q_stA hI52 1 (v := agg [slice A43 v42.length c44, slice none 0 0].toArray) (cs := [slice A43 v42.length c44, slice none 0 0]) (vs' := [slice A43 v42.length c44, slice none 0 0]) ag25 rfl rfl rfl rfl rfl rfl (Nat.le_of_ble_eq_true rfl) rfl (fun wd91 hI92 => ?_)
 refine nl ?_
 refine hK90 _ _ _ ?_
 refine wpc_ret ?_
 have hr93 := res_cell (P := Tryz.prog) hI92 1 (cs := [slice A43 v42.length c44, slice none 0 0]) (g := g4) (o := 0) ag25 rfl rfl rfl
 have hI94 := Hp.sub hI92 (sd (sd (sd se)))
 cases H
 exact ⟨.inr rfl, rfl, _, ⟨_, _, _, rfl, rfl, hr93, rfl⟩, A43, c44, none, 0, _, hG50, hI94, hl45, hD46, (show ([] : List api_Kern).length ≤ 0 from Nat.le_refl 0), (Dat.nil _ _ _), rfl⟩
end Go.Proofs.YtokeiiakkfdmgaaGreatDoor.LG
