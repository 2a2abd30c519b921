/-
  The walks: each function computes its plain function: printed by a program out of the translation.
-/
import Derived.Test.YtiahgcidgbalkaaDoorSc
set_option linter.unusedVariables false
set_option linter.unusedSimpArgs false
set_option maxRecDepth 100000
namespace Go.Proofs.YtiahgcidgbalkaaDoor.LG
open Go Go.LG Go.RowKit
open Go.Lib Go.Shelf Go.Proofs
set_option maxHeartbeats 1000000 in
theorem formelaw08_BreaksStricter_spec {a1 : api_Breaks} {a6 : ByteArray} {a7 : Int} {a8 : Int} {a9 : ByteArray} {A2 : Option Addr} {c3 : Nat} {r1436 : Bool} {G : Gh} {L : List Itm} {w : World} (hI : Hp G (L) w) (hl4 : a1.Keep.length ≤ c3) (hD5 : Dat Kd.str G A2 a1.Keep) (hgl : Gl G) (H : formelaw08_BreaksStricter a1 a6 a7 a8 a9 = some r1436) :
    Calls Tryd.prog 6 [Value.agg [Value.int .i64 a1.Before, Value.int .i64 a1.Behind, Value.slice A2 a1.Keep.length c3].toArray, Value.string a6, Value.int .u8 a7, Value.int .u8 a8, Value.string a9].toArray w fun e w' => ∃ (G' : Gh), G ≤ G' ∧ Hp G' (L) w' ∧ e = .returned (Value.bool r1436) := by
  refine calls_intro (N := 116) Tryd.func6 rfl rfl (Nat.le_of_ble_eq_true rfl) ?_
  unfold formelaw08_BreaksStricter at H
  refine wpc_seq_k fun K10 hK11 => ?_
  refine wpc_region ?_
  refine q_box hI (v := Value.agg [Value.int .i64 a1.Before, Value.int .i64 a1.Behind, Value.slice A2 a1.Keep.length c3].toArray) (vs := [Value.int .i64 a1.Before, Value.int .i64 a1.Behind, Value.slice A2 a1.Keep.length c3]) rfl rfl (fun g13 wd14 hI15 => ?_)
  refine q_as (v := Value.bool false) rfl ?_
  refine wpq_nil ?_
  refine hK11 _ _ _ ?_
  refine wpc_seq_k fun K16 hK17 => ?_
  refine wpc_region ?_
  obtain ⟨y23, hy18, H⟩ := bind_some H
  refine q_cv (vs := []) bo9 rfl rfl (formelaw08_head_spec hI15 (hgl.mono (Gh.le_refl _)) hy18) ?_
  rintro _ wd21 ⟨G19, hG20, hI22, rfl⟩
  refine ⟨_, rfl, ?_⟩
  refine q_as (v := Value.bool y23) rfl ?_
  refine wpq_nil ?_
  refine hK17 _ _ _ ?_
  refine wpc_seq_k fun K24 hK25 => ?_
  refine wpc_seq_k fun K26 hK27 => ?_
  refine wpc_region ?_
  refine q_ldA hI22 0 (cs := [Value.int .i64 a1.Before, Value.int .i64 a1.Behind, Value.slice A2 a1.Keep.length c3]) ag24 rfl rfl rfl rfl ?_
  refine q_mv (v := Value.string a6) rfl ?_
  obtain ⟨y33, hy28, H⟩ := bind_some H
  refine q_cv (vs := [Value.agg [Value.int .i64 a1.Before, Value.int .i64 a1.Behind, Value.slice A2 a1.Keep.length c3].toArray, Value.string a6]) bo18 rfl rfl (formelaw08_usable_spec (a1 := a1) (a6 := a6) hI22 hl4 (Dat.mono hG20 hD5) hy28) ?_
  rintro _ wd31 ⟨G29, hG30, hI32, rfl⟩
  refine ⟨_, rfl, ?_⟩
  refine q_not rfl ?_
  refine wpq_nil ?_
  refine hK27 _ _ _ ?_
  by_cases h34 : (!y33) = true
  · replace H := ite_yes h34 H
    refine wpc_true (bval_yes h34) ?_
    refine wpc_seq_k fun K35 hK36 => ?_
    refine wpc_region ?_
    refine q_mv (v := Value.bool y23) rfl ?_
    refine q_as (v := Value.bool y23) rfl ?_
    refine wpq_nil ?_
    refine hK36 _ _ _ ?_
    refine wpc_ret ?_
    have hI37 := Hp.sub (L := bx g13 [Value.int .i64 a1.Before, Value.int .i64 a1.Behind, Value.slice A2 a1.Keep.length c3] 24 :: L) (L' := L) hI32 (List.Sublist.cons _ (List.Sublist.refl _))
    cases H
    exact ⟨.inr rfl, rfl, _, ⟨_, _, rfl, rfl, rfl⟩, _, (Gh.le_trans hG20 hG30), hI37, rfl⟩
  · replace H := ite_no h34 H
    refine wpc_false (bval_no h34) ?_
    refine wpc_skip ?_
    refine hK25 _ _ _ ?_
    refine wpc_seq_k fun K38 hK39 => ?_
    obtain ⟨h57, H⟩ := ite_some H
    refine wpc_drawL [0, 1, 0, 4, 12, 31, 63, 0, 128, 0, 512, 1536, 3968, 8064, 0, 0, 32768, 114688, 262143, 0, 1048575] (fun D r w => (D 14 = false ∧ D 17 = false ∧ D 19 = false ∧ D 20 = false ∧ ∃ (G' : Gh), G29 ≤ G' ∧ Regs [(1, Value.string a6), (2, Value.int .u8 a7), (3, Value.int .u8 a8), (4, Value.string a9), (5, Value.pointer (some ⟨g13, 0, none⟩)), (11, Value.bool y23)] [] [(0, 25, Value.pointer (some ⟨g13, 0, none⟩)), (1, 26, Value.int .i64 a1.Before), (2, 27, Value.int .u8 a7), (3, 28, Value.int .i64 (w64 (a7))), (4, 29, Value.int .i64 (Int.tmod (w64 (a7)) 3)), (5, 30, Value.int .i64 (w64 (a1.Before + (Int.tmod (w64 (a7)) 3)))), (6, 31, Value.int .i64 (min 5 (w64 (a1.Before + (Int.tmod (w64 (a7)) 3))))), (7, 32, Value.pointer (some ⟨g13, 1, none⟩)), (8, 33, Value.int .i64 a1.Behind), (9, 34, Value.int .u8 a8), (10, 35, Value.int .i64 (w64 (a8))), (11, 36, Value.int .i64 (Int.tmod (w64 (a8)) 3)), (12, 37, Value.int .i64 (w64 (a1.Behind + (Int.tmod (w64 (a8)) 3)))), (13, 38, Value.int .i64 (min 5 (w64 (a1.Behind + (Int.tmod (w64 (a8)) 3))))), (15, 40, Value.pointer (some ⟨g13, 2, none⟩)), (16, 41, Value.slice A2 a1.Keep.length c3)] D r ∧ Hp G' (bx g13 [Value.int .i64 a1.Before, Value.int .i64 a1.Behind, Value.slice A2 a1.Keep.length c3] 24 :: L) w) ∨ (D 14 = true ∧ D 17 = false ∧ D 19 = false ∧ D 20 = false ∧ ∃ (g41 : Nat) (G' : Gh), G29 ≤ G' ∧ Dat Kd.str G' (some ⟨g41, 0, none⟩) ([] : List ByteArray) ∧ Regs [(1, Value.string a6), (2, Value.int .u8 a7), (3, Value.int .u8 a8), (4, Value.string a9), (5, Value.pointer (some ⟨g13, 0, none⟩)), (11, Value.bool y23)] [] [(0, 25, Value.pointer (some ⟨g13, 0, none⟩)), (1, 26, Value.int .i64 a1.Before), (2, 27, Value.int .u8 a7), (3, 28, Value.int .i64 (w64 (a7))), (4, 29, Value.int .i64 (Int.tmod (w64 (a7)) 3)), (5, 30, Value.int .i64 (w64 (a1.Before + (Int.tmod (w64 (a7)) 3)))), (6, 31, Value.int .i64 (min 5 (w64 (a1.Before + (Int.tmod (w64 (a7)) 3))))), (7, 32, Value.pointer (some ⟨g13, 1, none⟩)), (8, 33, Value.int .i64 a1.Behind), (9, 34, Value.int .u8 a8), (10, 35, Value.int .i64 (w64 (a8))), (11, 36, Value.int .i64 (Int.tmod (w64 (a8)) 3)), (12, 37, Value.int .i64 (w64 (a1.Behind + (Int.tmod (w64 (a8)) 3)))), (13, 38, Value.int .i64 (min 5 (w64 (a1.Behind + (Int.tmod (w64 (a8)) 3))))), (14, 39, Value.slice (some ⟨g41, 0, none⟩) 0 0), (15, 40, Value.pointer (some ⟨g13, 2, none⟩)), (16, 41, Value.slice A2 a1.Keep.length c3)] D r ∧ Hp G' (tk (Value.slice (some ⟨g41, 0, none⟩) 0 0) 1 9 :: bx g13 [Value.int .i64 a1.Before, Value.int .i64 a1.Behind, Value.slice A2 a1.Keep.length c3] 24 :: L) w) ∨ (D 14 = false ∧ D 17 = false ∧ D 19 = true ∧ D 20 = false ∧ ∃ (g62 : Nat) (G' : Gh), G29 ≤ G' ∧ Regs [(1, Value.string a6), (2, Value.int .u8 a7), (3, Value.int .u8 a8), (4, Value.string a9), (5, Value.pointer (some ⟨g13, 0, none⟩)), (11, Value.bool y23)] [] [(0, 25, Value.pointer (some ⟨g13, 0, none⟩)), (1, 26, Value.int .i64 a1.Before), (2, 27, Value.int .u8 a7), (3, 28, Value.int .i64 (w64 (a7))), (4, 29, Value.int .i64 (Int.tmod (w64 (a7)) 3)), (5, 30, Value.int .i64 (w64 (a1.Before + (Int.tmod (w64 (a7)) 3)))), (6, 31, Value.int .i64 (min 5 (w64 (a1.Before + (Int.tmod (w64 (a7)) 3))))), (7, 32, Value.pointer (some ⟨g13, 1, none⟩)), (8, 33, Value.int .i64 a1.Behind), (9, 34, Value.int .u8 a8), (10, 35, Value.int .i64 (w64 (a8))), (11, 36, Value.int .i64 (Int.tmod (w64 (a8)) 3)), (12, 37, Value.int .i64 (w64 (a1.Behind + (Int.tmod (w64 (a8)) 3)))), (13, 38, Value.int .i64 (min 5 (w64 (a1.Behind + (Int.tmod (w64 (a8)) 3))))), (15, 40, Value.pointer (some ⟨g13, 2, none⟩)), (16, 41, Value.slice A2 a1.Keep.length c3), (19, 12, Value.pointer (some ⟨g62, 0, none⟩))] D r ∧ Hp G' (bx g62 [Value.int .i64 0, Value.int .i64 0, Value.slice none 0 0] 24 :: bx g13 [Value.int .i64 a1.Before, Value.int .i64 a1.Behind, Value.slice A2 a1.Keep.length c3] 24 :: L) w) ∨ (D 14 = true ∧ D 17 = true ∧ D 19 = false ∧ D 20 = false ∧ ∃ (g41 : Nat) (A48 : Option Addr) (c49 : Nat) (G' : Gh), G29 ≤ G' ∧ Dat Kd.str G' (some ⟨g41, 0, none⟩) ([] : List ByteArray) ∧ (([] : List ByteArray) ++ a1.Keep).length ≤ c49 ∧ Dat Kd.str G' A48 (([] : List ByteArray) ++ a1.Keep) ∧ Own A48 c49 ∧ Regs [(1, Value.string a6), (2, Value.int .u8 a7), (3, Value.int .u8 a8), (4, Value.string a9), (5, Value.pointer (some ⟨g13, 0, none⟩)), (11, Value.bool y23)] [] [(0, 25, Value.pointer (some ⟨g13, 0, none⟩)), (1, 26, Value.int .i64 a1.Before), (2, 27, Value.int .u8 a7), (3, 28, Value.int .i64 (w64 (a7))), (4, 29, Value.int .i64 (Int.tmod (w64 (a7)) 3)), (5, 30, Value.int .i64 (w64 (a1.Before + (Int.tmod (w64 (a7)) 3)))), (6, 31, Value.int .i64 (min 5 (w64 (a1.Before + (Int.tmod (w64 (a7)) 3))))), (7, 32, Value.pointer (some ⟨g13, 1, none⟩)), (8, 33, Value.int .i64 a1.Behind), (9, 34, Value.int .u8 a8), (10, 35, Value.int .i64 (w64 (a8))), (11, 36, Value.int .i64 (Int.tmod (w64 (a8)) 3)), (12, 37, Value.int .i64 (w64 (a1.Behind + (Int.tmod (w64 (a8)) 3)))), (13, 38, Value.int .i64 (min 5 (w64 (a1.Behind + (Int.tmod (w64 (a8)) 3))))), (14, 39, Value.slice (some ⟨g41, 0, none⟩) 0 0), (15, 40, Value.pointer (some ⟨g13, 2, none⟩)), (16, 41, Value.slice A2 a1.Keep.length c3), (17, 42, Value.slice A48 (([] : List ByteArray) ++ a1.Keep).length c49), (18, 43, Value.agg [Value.int .i64 (min 5 (w64 (a1.Before + (Int.tmod (w64 (a7)) 3)))), Value.int .i64 (min 5 (w64 (a1.Behind + (Int.tmod (w64 (a8)) 3)))), Value.slice A48 (([] : List ByteArray) ++ a1.Keep).length c49].toArray)] D r ∧ Hp G' (tk (Value.slice A48 (([] : List ByteArray) ++ a1.Keep).length c49) 1 9 :: bx g13 [Value.int .i64 a1.Before, Value.int .i64 a1.Behind, Value.slice A2 a1.Keep.length c3] 24 :: L) w) ∨ (D 14 = true ∧ D 17 = false ∧ D 19 = true ∧ D 20 = false ∧ ∃ (g41 : Nat) (g62 : Nat) (G' : Gh), G29 ≤ G' ∧ Dat Kd.str G' (some ⟨g41, 0, none⟩) ([] : List ByteArray) ∧ Regs [(1, Value.string a6), (2, Value.int .u8 a7), (3, Value.int .u8 a8), (4, Value.string a9), (5, Value.pointer (some ⟨g13, 0, none⟩)), (11, Value.bool y23)] [] [(0, 25, Value.pointer (some ⟨g13, 0, none⟩)), (1, 26, Value.int .i64 a1.Before), (2, 27, Value.int .u8 a7), (3, 28, Value.int .i64 (w64 (a7))), (4, 29, Value.int .i64 (Int.tmod (w64 (a7)) 3)), (5, 30, Value.int .i64 (w64 (a1.Before + (Int.tmod (w64 (a7)) 3)))), (6, 31, Value.int .i64 (min 5 (w64 (a1.Before + (Int.tmod (w64 (a7)) 3))))), (7, 32, Value.pointer (some ⟨g13, 1, none⟩)), (8, 33, Value.int .i64 a1.Behind), (9, 34, Value.int .u8 a8), (10, 35, Value.int .i64 (w64 (a8))), (11, 36, Value.int .i64 (Int.tmod (w64 (a8)) 3)), (12, 37, Value.int .i64 (w64 (a1.Behind + (Int.tmod (w64 (a8)) 3)))), (13, 38, Value.int .i64 (min 5 (w64 (a1.Behind + (Int.tmod (w64 (a8)) 3))))), (14, 39, Value.slice (some ⟨g41, 0, none⟩) 0 0), (15, 40, Value.pointer (some ⟨g13, 2, none⟩)), (16, 41, Value.slice A2 a1.Keep.length c3), (19, 12, Value.pointer (some ⟨g62, 0, none⟩))] D r ∧ Hp G' (bx g62 [Value.int .i64 0, Value.int .i64 0, Value.slice none 0 0] 24 :: tk (Value.slice (some ⟨g41, 0, none⟩) 0 0) 1 9 :: bx g13 [Value.int .i64 a1.Before, Value.int .i64 a1.Behind, Value.slice A2 a1.Keep.length c3] 24 :: L) w) ∨ (D 14 = true ∧ D 17 = true ∧ D 19 = true ∧ D 20 = false ∧ ∃ (g41 : Nat) (A48 : Option Addr) (c49 : Nat) (g62 : Nat) (G' : Gh), G29 ≤ G' ∧ Dat Kd.str G' (some ⟨g41, 0, none⟩) ([] : List ByteArray) ∧ (([] : List ByteArray) ++ a1.Keep).length ≤ c49 ∧ Dat Kd.str G' A48 (([] : List ByteArray) ++ a1.Keep) ∧ Own A48 c49 ∧ Regs [(1, Value.string a6), (2, Value.int .u8 a7), (3, Value.int .u8 a8), (4, Value.string a9), (5, Value.pointer (some ⟨g13, 0, none⟩)), (11, Value.bool y23)] [] [(0, 25, Value.pointer (some ⟨g13, 0, none⟩)), (1, 26, Value.int .i64 a1.Before), (2, 27, Value.int .u8 a7), (3, 28, Value.int .i64 (w64 (a7))), (4, 29, Value.int .i64 (Int.tmod (w64 (a7)) 3)), (5, 30, Value.int .i64 (w64 (a1.Before + (Int.tmod (w64 (a7)) 3)))), (6, 31, Value.int .i64 (min 5 (w64 (a1.Before + (Int.tmod (w64 (a7)) 3))))), (7, 32, Value.pointer (some ⟨g13, 1, none⟩)), (8, 33, Value.int .i64 a1.Behind), (9, 34, Value.int .u8 a8), (10, 35, Value.int .i64 (w64 (a8))), (11, 36, Value.int .i64 (Int.tmod (w64 (a8)) 3)), (12, 37, Value.int .i64 (w64 (a1.Behind + (Int.tmod (w64 (a8)) 3)))), (13, 38, Value.int .i64 (min 5 (w64 (a1.Behind + (Int.tmod (w64 (a8)) 3))))), (14, 39, Value.slice (some ⟨g41, 0, none⟩) 0 0), (15, 40, Value.pointer (some ⟨g13, 2, none⟩)), (16, 41, Value.slice A2 a1.Keep.length c3), (17, 42, Value.slice A48 (([] : List ByteArray) ++ a1.Keep).length c49), (18, 43, Value.agg [Value.int .i64 (min 5 (w64 (a1.Before + (Int.tmod (w64 (a7)) 3)))), Value.int .i64 (min 5 (w64 (a1.Behind + (Int.tmod (w64 (a8)) 3)))), Value.slice A48 (([] : List ByteArray) ++ a1.Keep).length c49].toArray), (19, 12, Value.pointer (some ⟨g62, 0, none⟩))] D r ∧ Hp G' (bx g62 [Value.int .i64 0, Value.int .i64 0, Value.slice none 0 0] 24 :: tk (Value.slice A48 (([] : List ByteArray) ++ a1.Keep).length c49) 1 9 :: bx g13 [Value.int .i64 a1.Before, Value.int .i64 a1.Behind, Value.slice A2 a1.Keep.length c3] 24 :: L) w) ∨ (D 14 = true ∧ D 17 = true ∧ D 19 = true ∧ D 20 = true ∧ ∃ (g41 : Nat) (A48 : Option Addr) (c49 : Nat) (g62 : Nat) (G' : Gh), G29 ≤ G' ∧ Dat Kd.str G' (some ⟨g41, 0, none⟩) ([] : List ByteArray) ∧ (([] : List ByteArray) ++ a1.Keep).length ≤ c49 ∧ Dat Kd.str G' A48 (([] : List ByteArray) ++ a1.Keep) ∧ Own A48 c49 ∧ Regs [(1, Value.string a6), (2, Value.int .u8 a7), (3, Value.int .u8 a8), (4, Value.string a9), (5, Value.pointer (some ⟨g13, 0, none⟩)), (11, Value.bool y23)] [] [(0, 25, Value.pointer (some ⟨g13, 0, none⟩)), (1, 26, Value.int .i64 a1.Before), (2, 27, Value.int .u8 a7), (3, 28, Value.int .i64 (w64 (a7))), (4, 29, Value.int .i64 (Int.tmod (w64 (a7)) 3)), (5, 30, Value.int .i64 (w64 (a1.Before + (Int.tmod (w64 (a7)) 3)))), (6, 31, Value.int .i64 (min 5 (w64 (a1.Before + (Int.tmod (w64 (a7)) 3))))), (7, 32, Value.pointer (some ⟨g13, 1, none⟩)), (8, 33, Value.int .i64 a1.Behind), (9, 34, Value.int .u8 a8), (10, 35, Value.int .i64 (w64 (a8))), (11, 36, Value.int .i64 (Int.tmod (w64 (a8)) 3)), (12, 37, Value.int .i64 (w64 (a1.Behind + (Int.tmod (w64 (a8)) 3)))), (13, 38, Value.int .i64 (min 5 (w64 (a1.Behind + (Int.tmod (w64 (a8)) 3))))), (14, 39, Value.slice (some ⟨g41, 0, none⟩) 0 0), (15, 40, Value.pointer (some ⟨g13, 2, none⟩)), (16, 41, Value.slice A2 a1.Keep.length c3), (17, 42, Value.slice A48 (([] : List ByteArray) ++ a1.Keep).length c49), (18, 43, Value.agg [Value.int .i64 (min 5 (w64 (a1.Before + (Int.tmod (w64 (a7)) 3)))), Value.int .i64 (min 5 (w64 (a1.Behind + (Int.tmod (w64 (a8)) 3)))), Value.slice A48 (([] : List ByteArray) ++ a1.Keep).length c49].toArray), (19, 12, Value.pointer (some ⟨g62, 0, none⟩))] D r ∧ Hp G' (bx g62 [Value.int .i64 (min 5 (w64 (a1.Before + (Int.tmod (w64 (a7)) 3)))), Value.int .i64 (min 5 (w64 (a1.Behind + (Int.tmod (w64 (a8)) 3)))), Value.slice A48 (([] : List ByteArray) ++ a1.Keep).length c49] 24 :: tk (Value.slice A48 (([] : List ByteArray) ++ a1.Keep).length c49) 1 9 :: bx g13 [Value.int .i64 a1.Before, Value.int .i64 a1.Behind, Value.slice A2 a1.Keep.length c3] 24 :: L) w)) mixo rfl rfl ?_ ?_ ?_
    · exact (.inl ⟨rfl, rfl, rfl, rfl, _, Gh.le_refl _, Regs.start ⟨rfl, rfl, rfl, rfl, rfl, rfl, trivial⟩ trivial, hI32.drew⟩)
    · refine ⟨?_, ?_, ?_, ?_, ?_, ?_, ?_, ?_, ?_, ?_, ?_, ?_, ?_, ?_, ?_, ?_, ?_, ?_, ?_, ?_, ?_, trivial⟩
      · intro D r wd71 hR hDi hpre hpost
        rcases hR with ⟨hd14, hd17, hd19, hd20, G67, hG68, hReg70, hI69⟩ | ⟨hd14, hd17, hd19, hd20, g41, G67, hG68, hD46, hReg70, hI69⟩ | ⟨hd14, hd17, hd19, hd20, g62, G67, hG68, hReg70, hI69⟩ | ⟨hd14, hd17, hd19, hd20, g41, A48, c49, G67, hG68, hD46, hl54, hD55, ho53, hReg70, hI69⟩ | ⟨hd14, hd17, hd19, hd20, g41, g62, G67, hG68, hD46, hReg70, hI69⟩ | ⟨hd14, hd17, hd19, hd20, g41, A48, c49, g62, G67, hG68, hD46, hl54, hD55, ho53, hReg70, hI69⟩ | ⟨hd14, hd17, hd19, hd20, g41, A48, c49, g62, G67, hG68, hD46, hl54, hD55, ho53, hReg70, hI69⟩
        · have hH : Has [(5, Value.pointer (some ⟨g13, 0, none⟩))] r := ⟨hReg70.ins.get 4 rfl, trivial⟩
          obtain ⟨r0, rfl⟩ := hH.ex
          refine q_fa (a' := ⟨g13, 0, none⟩) fl24_0 rfl (add_plain _ _ _) ?_
          refine wpq_nil ?_
          exact ⟨rfl, (.inl ⟨hd14, hd17, hd19, hd20, _, hG68, (Regs.step hReg70 hDi rfl rfl rfl rfl), hI69⟩)⟩
        · have hH : Has [(5, Value.pointer (some ⟨g13, 0, none⟩))] r := ⟨hReg70.ins.get 4 rfl, trivial⟩
          obtain ⟨r0, rfl⟩ := hH.ex
          refine q_fa (a' := ⟨g13, 0, none⟩) fl24_0 rfl (add_plain _ _ _) ?_
          refine wpq_nil ?_
          exact ⟨rfl, (.inr (.inl ⟨hd14, hd17, hd19, hd20, g41, _, hG68, hD46, (Regs.step hReg70 hDi rfl rfl rfl rfl), hI69⟩))⟩
        · have hH : Has [(5, Value.pointer (some ⟨g13, 0, none⟩))] r := ⟨hReg70.ins.get 4 rfl, trivial⟩
          obtain ⟨r0, rfl⟩ := hH.ex
          refine q_fa (a' := ⟨g13, 0, none⟩) fl24_0 rfl (add_plain _ _ _) ?_
          refine wpq_nil ?_
          exact ⟨rfl, (.inr (.inr (.inl ⟨hd14, hd17, hd19, hd20, g62, _, hG68, (Regs.step hReg70 hDi rfl rfl rfl rfl), hI69⟩)))⟩
        · have hH : Has [(5, Value.pointer (some ⟨g13, 0, none⟩))] r := ⟨hReg70.ins.get 4 rfl, trivial⟩
          obtain ⟨r0, rfl⟩ := hH.ex
          refine q_fa (a' := ⟨g13, 0, none⟩) fl24_0 rfl (add_plain _ _ _) ?_
          refine wpq_nil ?_
          exact ⟨rfl, (.inr (.inr (.inr (.inl ⟨hd14, hd17, hd19, hd20, g41, A48, c49, _, hG68, hD46, hl54, hD55, ho53, (Regs.step hReg70 hDi rfl rfl rfl rfl), hI69⟩))))⟩
        · have hH : Has [(5, Value.pointer (some ⟨g13, 0, none⟩))] r := ⟨hReg70.ins.get 4 rfl, trivial⟩
          obtain ⟨r0, rfl⟩ := hH.ex
          refine q_fa (a' := ⟨g13, 0, none⟩) fl24_0 rfl (add_plain _ _ _) ?_
          refine wpq_nil ?_
          exact ⟨rfl, (.inr (.inr (.inr (.inr (.inl ⟨hd14, hd17, hd19, hd20, g41, g62, _, hG68, hD46, (Regs.step hReg70 hDi rfl rfl rfl rfl), hI69⟩)))))⟩
        · have hH : Has [(5, Value.pointer (some ⟨g13, 0, none⟩))] r := ⟨hReg70.ins.get 4 rfl, trivial⟩
          obtain ⟨r0, rfl⟩ := hH.ex
          refine q_fa (a' := ⟨g13, 0, none⟩) fl24_0 rfl (add_plain _ _ _) ?_
          refine wpq_nil ?_
          exact ⟨rfl, (.inr (.inr (.inr (.inr (.inr (.inl ⟨hd14, hd17, hd19, hd20, g41, A48, c49, g62, _, hG68, hD46, hl54, hD55, ho53, (Regs.step hReg70 hDi rfl rfl rfl rfl), hI69⟩))))))⟩
        · cases (hpost 20 rfl).symm.trans hd20
      · intro D r wd71 hR hDi hpre hpost
        rcases hR with ⟨hd14, hd17, hd19, hd20, G67, hG68, hReg70, hI69⟩ | ⟨hd14, hd17, hd19, hd20, g41, G67, hG68, hD46, hReg70, hI69⟩ | ⟨hd14, hd17, hd19, hd20, g62, G67, hG68, hReg70, hI69⟩ | ⟨hd14, hd17, hd19, hd20, g41, A48, c49, G67, hG68, hD46, hl54, hD55, ho53, hReg70, hI69⟩ | ⟨hd14, hd17, hd19, hd20, g41, g62, G67, hG68, hD46, hReg70, hI69⟩ | ⟨hd14, hd17, hd19, hd20, g41, A48, c49, g62, G67, hG68, hD46, hl54, hD55, ho53, hReg70, hI69⟩ | ⟨hd14, hd17, hd19, hd20, g41, A48, c49, g62, G67, hG68, hD46, hl54, hD55, ho53, hReg70, hI69⟩
        · have hH : Has [(25, Value.pointer (some ⟨g13, 0, none⟩))] r := ⟨hReg70.get 0 rfl (hpre 0 rfl), trivial⟩
          obtain ⟨r0, rfl⟩ := hH.ex
          refine q_ld hI69 0 (v := Value.int .i64 a1.Before) ag3 rfl rfl rfl ?_
          refine wpq_nil ?_
          exact ⟨rfl, (.inl ⟨hd14, hd17, hd19, hd20, _, hG68, (Regs.step hReg70 hDi rfl rfl rfl rfl), hI69⟩)⟩
        · have hH : Has [(25, Value.pointer (some ⟨g13, 0, none⟩))] r := ⟨hReg70.get 0 rfl (hpre 0 rfl), trivial⟩
          obtain ⟨r0, rfl⟩ := hH.ex
          refine q_ld hI69 1 (v := Value.int .i64 a1.Before) ag3 rfl rfl rfl ?_
          refine wpq_nil ?_
          exact ⟨rfl, (.inr (.inl ⟨hd14, hd17, hd19, hd20, g41, _, hG68, hD46, (Regs.step hReg70 hDi rfl rfl rfl rfl), hI69⟩))⟩
        · have hH : Has [(25, Value.pointer (some ⟨g13, 0, none⟩))] r := ⟨hReg70.get 0 rfl (hpre 0 rfl), trivial⟩
          obtain ⟨r0, rfl⟩ := hH.ex
          refine q_ld hI69 1 (v := Value.int .i64 a1.Before) ag3 rfl rfl rfl ?_
          refine wpq_nil ?_
          exact ⟨rfl, (.inr (.inr (.inl ⟨hd14, hd17, hd19, hd20, g62, _, hG68, (Regs.step hReg70 hDi rfl rfl rfl rfl), hI69⟩)))⟩
        · have hH : Has [(25, Value.pointer (some ⟨g13, 0, none⟩))] r := ⟨hReg70.get 0 rfl (hpre 0 rfl), trivial⟩
          obtain ⟨r0, rfl⟩ := hH.ex
          refine q_ld hI69 1 (v := Value.int .i64 a1.Before) ag3 rfl rfl rfl ?_
          refine wpq_nil ?_
          exact ⟨rfl, (.inr (.inr (.inr (.inl ⟨hd14, hd17, hd19, hd20, g41, A48, c49, _, hG68, hD46, hl54, hD55, ho53, (Regs.step hReg70 hDi rfl rfl rfl rfl), hI69⟩))))⟩
        · have hH : Has [(25, Value.pointer (some ⟨g13, 0, none⟩))] r := ⟨hReg70.get 0 rfl (hpre 0 rfl), trivial⟩
          obtain ⟨r0, rfl⟩ := hH.ex
          refine q_ld hI69 2 (v := Value.int .i64 a1.Before) ag3 rfl rfl rfl ?_
          refine wpq_nil ?_
          exact ⟨rfl, (.inr (.inr (.inr (.inr (.inl ⟨hd14, hd17, hd19, hd20, g41, g62, _, hG68, hD46, (Regs.step hReg70 hDi rfl rfl rfl rfl), hI69⟩)))))⟩
        · have hH : Has [(25, Value.pointer (some ⟨g13, 0, none⟩))] r := ⟨hReg70.get 0 rfl (hpre 0 rfl), trivial⟩
          obtain ⟨r0, rfl⟩ := hH.ex
          refine q_ld hI69 2 (v := Value.int .i64 a1.Before) ag3 rfl rfl rfl ?_
          refine wpq_nil ?_
          exact ⟨rfl, (.inr (.inr (.inr (.inr (.inr (.inl ⟨hd14, hd17, hd19, hd20, g41, A48, c49, g62, _, hG68, hD46, hl54, hD55, ho53, (Regs.step hReg70 hDi rfl rfl rfl rfl), hI69⟩))))))⟩
        · cases (hpost 20 rfl).symm.trans hd20
      · intro D r wd71 hR hDi hpre hpost
        rcases hR with ⟨hd14, hd17, hd19, hd20, G67, hG68, hReg70, hI69⟩ | ⟨hd14, hd17, hd19, hd20, g41, G67, hG68, hD46, hReg70, hI69⟩ | ⟨hd14, hd17, hd19, hd20, g62, G67, hG68, hReg70, hI69⟩ | ⟨hd14, hd17, hd19, hd20, g41, A48, c49, G67, hG68, hD46, hl54, hD55, ho53, hReg70, hI69⟩ | ⟨hd14, hd17, hd19, hd20, g41, g62, G67, hG68, hD46, hReg70, hI69⟩ | ⟨hd14, hd17, hd19, hd20, g41, A48, c49, g62, G67, hG68, hD46, hl54, hD55, ho53, hReg70, hI69⟩ | ⟨hd14, hd17, hd19, hd20, g41, A48, c49, g62, G67, hG68, hD46, hl54, hD55, ho53, hReg70, hI69⟩
        · have hH : Has [(2, Value.int .u8 a7)] r := ⟨hReg70.ins.get 1 rfl, trivial⟩
          obtain ⟨r0, rfl⟩ := hH.ex
          refine q_mv (v := Value.int .u8 a7) rfl ?_
          refine wpq_nil ?_
          exact ⟨rfl, (.inl ⟨hd14, hd17, hd19, hd20, _, hG68, (Regs.step hReg70 hDi rfl rfl rfl rfl), hI69⟩)⟩
        · have hH : Has [(2, Value.int .u8 a7)] r := ⟨hReg70.ins.get 1 rfl, trivial⟩
          obtain ⟨r0, rfl⟩ := hH.ex
          refine q_mv (v := Value.int .u8 a7) rfl ?_
          refine wpq_nil ?_
          exact ⟨rfl, (.inr (.inl ⟨hd14, hd17, hd19, hd20, g41, _, hG68, hD46, (Regs.step hReg70 hDi rfl rfl rfl rfl), hI69⟩))⟩
        · have hH : Has [(2, Value.int .u8 a7)] r := ⟨hReg70.ins.get 1 rfl, trivial⟩
          obtain ⟨r0, rfl⟩ := hH.ex
          refine q_mv (v := Value.int .u8 a7) rfl ?_
          refine wpq_nil ?_
          exact ⟨rfl, (.inr (.inr (.inl ⟨hd14, hd17, hd19, hd20, g62, _, hG68, (Regs.step hReg70 hDi rfl rfl rfl rfl), hI69⟩)))⟩
        · have hH : Has [(2, Value.int .u8 a7)] r := ⟨hReg70.ins.get 1 rfl, trivial⟩
          obtain ⟨r0, rfl⟩ := hH.ex
          refine q_mv (v := Value.int .u8 a7) rfl ?_
          refine wpq_nil ?_
          exact ⟨rfl, (.inr (.inr (.inr (.inl ⟨hd14, hd17, hd19, hd20, g41, A48, c49, _, hG68, hD46, hl54, hD55, ho53, (Regs.step hReg70 hDi rfl rfl rfl rfl), hI69⟩))))⟩
        · have hH : Has [(2, Value.int .u8 a7)] r := ⟨hReg70.ins.get 1 rfl, trivial⟩
          obtain ⟨r0, rfl⟩ := hH.ex
          refine q_mv (v := Value.int .u8 a7) rfl ?_
          refine wpq_nil ?_
          exact ⟨rfl, (.inr (.inr (.inr (.inr (.inl ⟨hd14, hd17, hd19, hd20, g41, g62, _, hG68, hD46, (Regs.step hReg70 hDi rfl rfl rfl rfl), hI69⟩)))))⟩
        · have hH : Has [(2, Value.int .u8 a7)] r := ⟨hReg70.ins.get 1 rfl, trivial⟩
          obtain ⟨r0, rfl⟩ := hH.ex
          refine q_mv (v := Value.int .u8 a7) rfl ?_
          refine wpq_nil ?_
          exact ⟨rfl, (.inr (.inr (.inr (.inr (.inr (.inl ⟨hd14, hd17, hd19, hd20, g41, A48, c49, g62, _, hG68, hD46, hl54, hD55, ho53, (Regs.step hReg70 hDi rfl rfl rfl rfl), hI69⟩))))))⟩
        · cases (hpost 20 rfl).symm.trans hd20
      · intro D r wd71 hR hDi hpre hpost
        rcases hR with ⟨hd14, hd17, hd19, hd20, G67, hG68, hReg70, hI69⟩ | ⟨hd14, hd17, hd19, hd20, g41, G67, hG68, hD46, hReg70, hI69⟩ | ⟨hd14, hd17, hd19, hd20, g62, G67, hG68, hReg70, hI69⟩ | ⟨hd14, hd17, hd19, hd20, g41, A48, c49, G67, hG68, hD46, hl54, hD55, ho53, hReg70, hI69⟩ | ⟨hd14, hd17, hd19, hd20, g41, g62, G67, hG68, hD46, hReg70, hI69⟩ | ⟨hd14, hd17, hd19, hd20, g41, A48, c49, g62, G67, hG68, hD46, hl54, hD55, ho53, hReg70, hI69⟩ | ⟨hd14, hd17, hd19, hd20, g41, A48, c49, g62, G67, hG68, hD46, hl54, hD55, ho53, hReg70, hI69⟩
        · have hH : Has [(27, Value.int .u8 a7)] r := ⟨hReg70.get 2 rfl (hpre 2 rfl), trivial⟩
          obtain ⟨r0, rfl⟩ := hH.ex
          refine q_cvi ik5 ik3 rfl ?_
          refine wpq_nil ?_
          exact ⟨rfl, (.inl ⟨hd14, hd17, hd19, hd20, _, hG68, (Regs.step hReg70 hDi rfl rfl rfl rfl), hI69⟩)⟩
        · have hH : Has [(27, Value.int .u8 a7)] r := ⟨hReg70.get 2 rfl (hpre 2 rfl), trivial⟩
          obtain ⟨r0, rfl⟩ := hH.ex
          refine q_cvi ik5 ik3 rfl ?_
          refine wpq_nil ?_
          exact ⟨rfl, (.inr (.inl ⟨hd14, hd17, hd19, hd20, g41, _, hG68, hD46, (Regs.step hReg70 hDi rfl rfl rfl rfl), hI69⟩))⟩
        · have hH : Has [(27, Value.int .u8 a7)] r := ⟨hReg70.get 2 rfl (hpre 2 rfl), trivial⟩
          obtain ⟨r0, rfl⟩ := hH.ex
          refine q_cvi ik5 ik3 rfl ?_
          refine wpq_nil ?_
          exact ⟨rfl, (.inr (.inr (.inl ⟨hd14, hd17, hd19, hd20, g62, _, hG68, (Regs.step hReg70 hDi rfl rfl rfl rfl), hI69⟩)))⟩
        · have hH : Has [(27, Value.int .u8 a7)] r := ⟨hReg70.get 2 rfl (hpre 2 rfl), trivial⟩
          obtain ⟨r0, rfl⟩ := hH.ex
          refine q_cvi ik5 ik3 rfl ?_
          refine wpq_nil ?_
          exact ⟨rfl, (.inr (.inr (.inr (.inl ⟨hd14, hd17, hd19, hd20, g41, A48, c49, _, hG68, hD46, hl54, hD55, ho53, (Regs.step hReg70 hDi rfl rfl rfl rfl), hI69⟩))))⟩
        · have hH : Has [(27, Value.int .u8 a7)] r := ⟨hReg70.get 2 rfl (hpre 2 rfl), trivial⟩
          obtain ⟨r0, rfl⟩ := hH.ex
          refine q_cvi ik5 ik3 rfl ?_
          refine wpq_nil ?_
          exact ⟨rfl, (.inr (.inr (.inr (.inr (.inl ⟨hd14, hd17, hd19, hd20, g41, g62, _, hG68, hD46, (Regs.step hReg70 hDi rfl rfl rfl rfl), hI69⟩)))))⟩
        · have hH : Has [(27, Value.int .u8 a7)] r := ⟨hReg70.get 2 rfl (hpre 2 rfl), trivial⟩
          obtain ⟨r0, rfl⟩ := hH.ex
          refine q_cvi ik5 ik3 rfl ?_
          refine wpq_nil ?_
          exact ⟨rfl, (.inr (.inr (.inr (.inr (.inr (.inl ⟨hd14, hd17, hd19, hd20, g41, A48, c49, g62, _, hG68, hD46, hl54, hD55, ho53, (Regs.step hReg70 hDi rfl rfl rfl rfl), hI69⟩))))))⟩
        · cases (hpost 20 rfl).symm.trans hd20
      · intro D r wd71 hR hDi hpre hpost
        rcases hR with ⟨hd14, hd17, hd19, hd20, G67, hG68, hReg70, hI69⟩ | ⟨hd14, hd17, hd19, hd20, g41, G67, hG68, hD46, hReg70, hI69⟩ | ⟨hd14, hd17, hd19, hd20, g62, G67, hG68, hReg70, hI69⟩ | ⟨hd14, hd17, hd19, hd20, g41, A48, c49, G67, hG68, hD46, hl54, hD55, ho53, hReg70, hI69⟩ | ⟨hd14, hd17, hd19, hd20, g41, g62, G67, hG68, hD46, hReg70, hI69⟩ | ⟨hd14, hd17, hd19, hd20, g41, A48, c49, g62, G67, hG68, hD46, hl54, hD55, ho53, hReg70, hI69⟩ | ⟨hd14, hd17, hd19, hd20, g41, A48, c49, g62, G67, hG68, hD46, hl54, hD55, ho53, hReg70, hI69⟩
        · have hH : Has [(28, Value.int .i64 (w64 (a7)))] r := ⟨hReg70.get 3 rfl (hpre 3 rfl), trivial⟩
          obtain ⟨r0, rfl⟩ := hH.ex
          refine q_rem rfl rfl (by decide) ?_
          refine wpq_nil ?_
          exact ⟨rfl, (.inl ⟨hd14, hd17, hd19, hd20, _, hG68, (Regs.step hReg70 hDi rfl rfl rfl rfl), hI69⟩)⟩
        · have hH : Has [(28, Value.int .i64 (w64 (a7)))] r := ⟨hReg70.get 3 rfl (hpre 3 rfl), trivial⟩
          obtain ⟨r0, rfl⟩ := hH.ex
          refine q_rem rfl rfl (by decide) ?_
          refine wpq_nil ?_
          exact ⟨rfl, (.inr (.inl ⟨hd14, hd17, hd19, hd20, g41, _, hG68, hD46, (Regs.step hReg70 hDi rfl rfl rfl rfl), hI69⟩))⟩
        · have hH : Has [(28, Value.int .i64 (w64 (a7)))] r := ⟨hReg70.get 3 rfl (hpre 3 rfl), trivial⟩
          obtain ⟨r0, rfl⟩ := hH.ex
          refine q_rem rfl rfl (by decide) ?_
          refine wpq_nil ?_
          exact ⟨rfl, (.inr (.inr (.inl ⟨hd14, hd17, hd19, hd20, g62, _, hG68, (Regs.step hReg70 hDi rfl rfl rfl rfl), hI69⟩)))⟩
        · have hH : Has [(28, Value.int .i64 (w64 (a7)))] r := ⟨hReg70.get 3 rfl (hpre 3 rfl), trivial⟩
          obtain ⟨r0, rfl⟩ := hH.ex
          refine q_rem rfl rfl (by decide) ?_
          refine wpq_nil ?_
          exact ⟨rfl, (.inr (.inr (.inr (.inl ⟨hd14, hd17, hd19, hd20, g41, A48, c49, _, hG68, hD46, hl54, hD55, ho53, (Regs.step hReg70 hDi rfl rfl rfl rfl), hI69⟩))))⟩
        · have hH : Has [(28, Value.int .i64 (w64 (a7)))] r := ⟨hReg70.get 3 rfl (hpre 3 rfl), trivial⟩
          obtain ⟨r0, rfl⟩ := hH.ex
          refine q_rem rfl rfl (by decide) ?_
          refine wpq_nil ?_
          exact ⟨rfl, (.inr (.inr (.inr (.inr (.inl ⟨hd14, hd17, hd19, hd20, g41, g62, _, hG68, hD46, (Regs.step hReg70 hDi rfl rfl rfl rfl), hI69⟩)))))⟩
        · have hH : Has [(28, Value.int .i64 (w64 (a7)))] r := ⟨hReg70.get 3 rfl (hpre 3 rfl), trivial⟩
          obtain ⟨r0, rfl⟩ := hH.ex
          refine q_rem rfl rfl (by decide) ?_
          refine wpq_nil ?_
          exact ⟨rfl, (.inr (.inr (.inr (.inr (.inr (.inl ⟨hd14, hd17, hd19, hd20, g41, A48, c49, g62, _, hG68, hD46, hl54, hD55, ho53, (Regs.step hReg70 hDi rfl rfl rfl rfl), hI69⟩))))))⟩
        · cases (hpost 20 rfl).symm.trans hd20
      · intro D r wd71 hR hDi hpre hpost
        rcases hR with ⟨hd14, hd17, hd19, hd20, G67, hG68, hReg70, hI69⟩ | ⟨hd14, hd17, hd19, hd20, g41, G67, hG68, hD46, hReg70, hI69⟩ | ⟨hd14, hd17, hd19, hd20, g62, G67, hG68, hReg70, hI69⟩ | ⟨hd14, hd17, hd19, hd20, g41, A48, c49, G67, hG68, hD46, hl54, hD55, ho53, hReg70, hI69⟩ | ⟨hd14, hd17, hd19, hd20, g41, g62, G67, hG68, hD46, hReg70, hI69⟩ | ⟨hd14, hd17, hd19, hd20, g41, A48, c49, g62, G67, hG68, hD46, hl54, hD55, ho53, hReg70, hI69⟩ | ⟨hd14, hd17, hd19, hd20, g41, A48, c49, g62, G67, hG68, hD46, hl54, hD55, ho53, hReg70, hI69⟩
        · have hH : Has [(26, Value.int .i64 a1.Before), (29, Value.int .i64 (Int.tmod (w64 (a7)) 3))] r := ⟨hReg70.get 1 rfl (hpre 1 rfl), hReg70.get 4 rfl (hpre 4 rfl), trivial⟩
          obtain ⟨r0, rfl⟩ := hH.ex
          refine q_add rfl rfl ?_
          refine wpq_nil ?_
          exact ⟨rfl, (.inl ⟨hd14, hd17, hd19, hd20, _, hG68, (Regs.step hReg70 hDi rfl rfl rfl rfl), hI69⟩)⟩
        · have hH : Has [(26, Value.int .i64 a1.Before), (29, Value.int .i64 (Int.tmod (w64 (a7)) 3))] r := ⟨hReg70.get 1 rfl (hpre 1 rfl), hReg70.get 4 rfl (hpre 4 rfl), trivial⟩
          obtain ⟨r0, rfl⟩ := hH.ex
          refine q_add rfl rfl ?_
          refine wpq_nil ?_
          exact ⟨rfl, (.inr (.inl ⟨hd14, hd17, hd19, hd20, g41, _, hG68, hD46, (Regs.step hReg70 hDi rfl rfl rfl rfl), hI69⟩))⟩
        · have hH : Has [(26, Value.int .i64 a1.Before), (29, Value.int .i64 (Int.tmod (w64 (a7)) 3))] r := ⟨hReg70.get 1 rfl (hpre 1 rfl), hReg70.get 4 rfl (hpre 4 rfl), trivial⟩
          obtain ⟨r0, rfl⟩ := hH.ex
          refine q_add rfl rfl ?_
          refine wpq_nil ?_
          exact ⟨rfl, (.inr (.inr (.inl ⟨hd14, hd17, hd19, hd20, g62, _, hG68, (Regs.step hReg70 hDi rfl rfl rfl rfl), hI69⟩)))⟩
        · have hH : Has [(26, Value.int .i64 a1.Before), (29, Value.int .i64 (Int.tmod (w64 (a7)) 3))] r := ⟨hReg70.get 1 rfl (hpre 1 rfl), hReg70.get 4 rfl (hpre 4 rfl), trivial⟩
          obtain ⟨r0, rfl⟩ := hH.ex
          refine q_add rfl rfl ?_
          refine wpq_nil ?_
          exact ⟨rfl, (.inr (.inr (.inr (.inl ⟨hd14, hd17, hd19, hd20, g41, A48, c49, _, hG68, hD46, hl54, hD55, ho53, (Regs.step hReg70 hDi rfl rfl rfl rfl), hI69⟩))))⟩
        · have hH : Has [(26, Value.int .i64 a1.Before), (29, Value.int .i64 (Int.tmod (w64 (a7)) 3))] r := ⟨hReg70.get 1 rfl (hpre 1 rfl), hReg70.get 4 rfl (hpre 4 rfl), trivial⟩
          obtain ⟨r0, rfl⟩ := hH.ex
          refine q_add rfl rfl ?_
          refine wpq_nil ?_
          exact ⟨rfl, (.inr (.inr (.inr (.inr (.inl ⟨hd14, hd17, hd19, hd20, g41, g62, _, hG68, hD46, (Regs.step hReg70 hDi rfl rfl rfl rfl), hI69⟩)))))⟩
        · have hH : Has [(26, Value.int .i64 a1.Before), (29, Value.int .i64 (Int.tmod (w64 (a7)) 3))] r := ⟨hReg70.get 1 rfl (hpre 1 rfl), hReg70.get 4 rfl (hpre 4 rfl), trivial⟩
          obtain ⟨r0, rfl⟩ := hH.ex
          refine q_add rfl rfl ?_
          refine wpq_nil ?_
          exact ⟨rfl, (.inr (.inr (.inr (.inr (.inr (.inl ⟨hd14, hd17, hd19, hd20, g41, A48, c49, g62, _, hG68, hD46, hl54, hD55, ho53, (Regs.step hReg70 hDi rfl rfl rfl rfl), hI69⟩))))))⟩
        · cases (hpost 20 rfl).symm.trans hd20
      · intro D r wd71 hR hDi hpre hpost
        rcases hR with ⟨hd14, hd17, hd19, hd20, G67, hG68, hReg70, hI69⟩ | ⟨hd14, hd17, hd19, hd20, g41, G67, hG68, hD46, hReg70, hI69⟩ | ⟨hd14, hd17, hd19, hd20, g62, G67, hG68, hReg70, hI69⟩ | ⟨hd14, hd17, hd19, hd20, g41, A48, c49, G67, hG68, hD46, hl54, hD55, ho53, hReg70, hI69⟩ | ⟨hd14, hd17, hd19, hd20, g41, g62, G67, hG68, hD46, hReg70, hI69⟩ | ⟨hd14, hd17, hd19, hd20, g41, A48, c49, g62, G67, hG68, hD46, hl54, hD55, ho53, hReg70, hI69⟩ | ⟨hd14, hd17, hd19, hd20, g41, A48, c49, g62, G67, hG68, hD46, hl54, hD55, ho53, hReg70, hI69⟩
        · have hH : Has [(30, Value.int .i64 (w64 (a1.Before + (Int.tmod (w64 (a7)) 3))))] r := ⟨hReg70.get 5 rfl (hpre 5 rfl), trivial⟩
          obtain ⟨r0, rfl⟩ := hH.ex
          refine q_min rfl rfl ?_
          refine wpq_nil ?_
          exact ⟨rfl, (.inl ⟨hd14, hd17, hd19, hd20, _, hG68, (Regs.step hReg70 hDi rfl rfl rfl rfl), hI69⟩)⟩
        · have hH : Has [(30, Value.int .i64 (w64 (a1.Before + (Int.tmod (w64 (a7)) 3))))] r := ⟨hReg70.get 5 rfl (hpre 5 rfl), trivial⟩
          obtain ⟨r0, rfl⟩ := hH.ex
          refine q_min rfl rfl ?_
          refine wpq_nil ?_
          exact ⟨rfl, (.inr (.inl ⟨hd14, hd17, hd19, hd20, g41, _, hG68, hD46, (Regs.step hReg70 hDi rfl rfl rfl rfl), hI69⟩))⟩
        · have hH : Has [(30, Value.int .i64 (w64 (a1.Before + (Int.tmod (w64 (a7)) 3))))] r := ⟨hReg70.get 5 rfl (hpre 5 rfl), trivial⟩
          obtain ⟨r0, rfl⟩ := hH.ex
          refine q_min rfl rfl ?_
          refine wpq_nil ?_
          exact ⟨rfl, (.inr (.inr (.inl ⟨hd14, hd17, hd19, hd20, g62, _, hG68, (Regs.step hReg70 hDi rfl rfl rfl rfl), hI69⟩)))⟩
        · have hH : Has [(30, Value.int .i64 (w64 (a1.Before + (Int.tmod (w64 (a7)) 3))))] r := ⟨hReg70.get 5 rfl (hpre 5 rfl), trivial⟩
          obtain ⟨r0, rfl⟩ := hH.ex
          refine q_min rfl rfl ?_
          refine wpq_nil ?_
          exact ⟨rfl, (.inr (.inr (.inr (.inl ⟨hd14, hd17, hd19, hd20, g41, A48, c49, _, hG68, hD46, hl54, hD55, ho53, (Regs.step hReg70 hDi rfl rfl rfl rfl), hI69⟩))))⟩
        · have hH : Has [(30, Value.int .i64 (w64 (a1.Before + (Int.tmod (w64 (a7)) 3))))] r := ⟨hReg70.get 5 rfl (hpre 5 rfl), trivial⟩
          obtain ⟨r0, rfl⟩ := hH.ex
          refine q_min rfl rfl ?_
          refine wpq_nil ?_
          exact ⟨rfl, (.inr (.inr (.inr (.inr (.inl ⟨hd14, hd17, hd19, hd20, g41, g62, _, hG68, hD46, (Regs.step hReg70 hDi rfl rfl rfl rfl), hI69⟩)))))⟩
        · have hH : Has [(30, Value.int .i64 (w64 (a1.Before + (Int.tmod (w64 (a7)) 3))))] r := ⟨hReg70.get 5 rfl (hpre 5 rfl), trivial⟩
          obtain ⟨r0, rfl⟩ := hH.ex
          refine q_min rfl rfl ?_
          refine wpq_nil ?_
          exact ⟨rfl, (.inr (.inr (.inr (.inr (.inr (.inl ⟨hd14, hd17, hd19, hd20, g41, A48, c49, g62, _, hG68, hD46, hl54, hD55, ho53, (Regs.step hReg70 hDi rfl rfl rfl rfl), hI69⟩))))))⟩
        · cases (hpost 20 rfl).symm.trans hd20
      · intro D r wd71 hR hDi hpre hpost
        rcases hR with ⟨hd14, hd17, hd19, hd20, G67, hG68, hReg70, hI69⟩ | ⟨hd14, hd17, hd19, hd20, g41, G67, hG68, hD46, hReg70, hI69⟩ | ⟨hd14, hd17, hd19, hd20, g62, G67, hG68, hReg70, hI69⟩ | ⟨hd14, hd17, hd19, hd20, g41, A48, c49, G67, hG68, hD46, hl54, hD55, ho53, hReg70, hI69⟩ | ⟨hd14, hd17, hd19, hd20, g41, g62, G67, hG68, hD46, hReg70, hI69⟩ | ⟨hd14, hd17, hd19, hd20, g41, A48, c49, g62, G67, hG68, hD46, hl54, hD55, ho53, hReg70, hI69⟩ | ⟨hd14, hd17, hd19, hd20, g41, A48, c49, g62, G67, hG68, hD46, hl54, hD55, ho53, hReg70, hI69⟩
        · have hH : Has [(5, Value.pointer (some ⟨g13, 0, none⟩))] r := ⟨hReg70.ins.get 4 rfl, trivial⟩
          obtain ⟨r0, rfl⟩ := hH.ex
          refine q_fa (a' := ⟨g13, 1, none⟩) fl24_1 rfl (add_plain _ _ _) ?_
          refine wpq_nil ?_
          exact ⟨rfl, (.inl ⟨hd14, hd17, hd19, hd20, _, hG68, (Regs.step hReg70 hDi rfl rfl rfl rfl), hI69⟩)⟩
        · have hH : Has [(5, Value.pointer (some ⟨g13, 0, none⟩))] r := ⟨hReg70.ins.get 4 rfl, trivial⟩
          obtain ⟨r0, rfl⟩ := hH.ex
          refine q_fa (a' := ⟨g13, 1, none⟩) fl24_1 rfl (add_plain _ _ _) ?_
          refine wpq_nil ?_
          exact ⟨rfl, (.inr (.inl ⟨hd14, hd17, hd19, hd20, g41, _, hG68, hD46, (Regs.step hReg70 hDi rfl rfl rfl rfl), hI69⟩))⟩
        · have hH : Has [(5, Value.pointer (some ⟨g13, 0, none⟩))] r := ⟨hReg70.ins.get 4 rfl, trivial⟩
          obtain ⟨r0, rfl⟩ := hH.ex
          refine q_fa (a' := ⟨g13, 1, none⟩) fl24_1 rfl (add_plain _ _ _) ?_
          refine wpq_nil ?_
          exact ⟨rfl, (.inr (.inr (.inl ⟨hd14, hd17, hd19, hd20, g62, _, hG68, (Regs.step hReg70 hDi rfl rfl rfl rfl), hI69⟩)))⟩
        · have hH : Has [(5, Value.pointer (some ⟨g13, 0, none⟩))] r := ⟨hReg70.ins.get 4 rfl, trivial⟩
          obtain ⟨r0, rfl⟩ := hH.ex
          refine q_fa (a' := ⟨g13, 1, none⟩) fl24_1 rfl (add_plain _ _ _) ?_
          refine wpq_nil ?_
          exact ⟨rfl, (.inr (.inr (.inr (.inl ⟨hd14, hd17, hd19, hd20, g41, A48, c49, _, hG68, hD46, hl54, hD55, ho53, (Regs.step hReg70 hDi rfl rfl rfl rfl), hI69⟩))))⟩
        · have hH : Has [(5, Value.pointer (some ⟨g13, 0, none⟩))] r := ⟨hReg70.ins.get 4 rfl, trivial⟩
          obtain ⟨r0, rfl⟩ := hH.ex
          refine q_fa (a' := ⟨g13, 1, none⟩) fl24_1 rfl (add_plain _ _ _) ?_
          refine wpq_nil ?_
          exact ⟨rfl, (.inr (.inr (.inr (.inr (.inl ⟨hd14, hd17, hd19, hd20, g41, g62, _, hG68, hD46, (Regs.step hReg70 hDi rfl rfl rfl rfl), hI69⟩)))))⟩
        · have hH : Has [(5, Value.pointer (some ⟨g13, 0, none⟩))] r := ⟨hReg70.ins.get 4 rfl, trivial⟩
          obtain ⟨r0, rfl⟩ := hH.ex
          refine q_fa (a' := ⟨g13, 1, none⟩) fl24_1 rfl (add_plain _ _ _) ?_
          refine wpq_nil ?_
          exact ⟨rfl, (.inr (.inr (.inr (.inr (.inr (.inl ⟨hd14, hd17, hd19, hd20, g41, A48, c49, g62, _, hG68, hD46, hl54, hD55, ho53, (Regs.step hReg70 hDi rfl rfl rfl rfl), hI69⟩))))))⟩
        · cases (hpost 20 rfl).symm.trans hd20
      · intro D r wd71 hR hDi hpre hpost
        rcases hR with ⟨hd14, hd17, hd19, hd20, G67, hG68, hReg70, hI69⟩ | ⟨hd14, hd17, hd19, hd20, g41, G67, hG68, hD46, hReg70, hI69⟩ | ⟨hd14, hd17, hd19, hd20, g62, G67, hG68, hReg70, hI69⟩ | ⟨hd14, hd17, hd19, hd20, g41, A48, c49, G67, hG68, hD46, hl54, hD55, ho53, hReg70, hI69⟩ | ⟨hd14, hd17, hd19, hd20, g41, g62, G67, hG68, hD46, hReg70, hI69⟩ | ⟨hd14, hd17, hd19, hd20, g41, A48, c49, g62, G67, hG68, hD46, hl54, hD55, ho53, hReg70, hI69⟩ | ⟨hd14, hd17, hd19, hd20, g41, A48, c49, g62, G67, hG68, hD46, hl54, hD55, ho53, hReg70, hI69⟩
        · have hH : Has [(32, Value.pointer (some ⟨g13, 1, none⟩))] r := ⟨hReg70.get 7 rfl (hpre 7 rfl), trivial⟩
          obtain ⟨r0, rfl⟩ := hH.ex
          refine q_ld hI69 0 (v := Value.int .i64 a1.Behind) ag3 rfl rfl rfl ?_
          refine wpq_nil ?_
          exact ⟨rfl, (.inl ⟨hd14, hd17, hd19, hd20, _, hG68, (Regs.step hReg70 hDi rfl rfl rfl rfl), hI69⟩)⟩
        · have hH : Has [(32, Value.pointer (some ⟨g13, 1, none⟩))] r := ⟨hReg70.get 7 rfl (hpre 7 rfl), trivial⟩
          obtain ⟨r0, rfl⟩ := hH.ex
          refine q_ld hI69 1 (v := Value.int .i64 a1.Behind) ag3 rfl rfl rfl ?_
          refine wpq_nil ?_
          exact ⟨rfl, (.inr (.inl ⟨hd14, hd17, hd19, hd20, g41, _, hG68, hD46, (Regs.step hReg70 hDi rfl rfl rfl rfl), hI69⟩))⟩
        · have hH : Has [(32, Value.pointer (some ⟨g13, 1, none⟩))] r := ⟨hReg70.get 7 rfl (hpre 7 rfl), trivial⟩
          obtain ⟨r0, rfl⟩ := hH.ex
          refine q_ld hI69 1 (v := Value.int .i64 a1.Behind) ag3 rfl rfl rfl ?_
          refine wpq_nil ?_
          exact ⟨rfl, (.inr (.inr (.inl ⟨hd14, hd17, hd19, hd20, g62, _, hG68, (Regs.step hReg70 hDi rfl rfl rfl rfl), hI69⟩)))⟩
        · have hH : Has [(32, Value.pointer (some ⟨g13, 1, none⟩))] r := ⟨hReg70.get 7 rfl (hpre 7 rfl), trivial⟩
          obtain ⟨r0, rfl⟩ := hH.ex
          refine q_ld hI69 1 (v := Value.int .i64 a1.Behind) ag3 rfl rfl rfl ?_
          refine wpq_nil ?_
          exact ⟨rfl, (.inr (.inr (.inr (.inl ⟨hd14, hd17, hd19, hd20, g41, A48, c49, _, hG68, hD46, hl54, hD55, ho53, (Regs.step hReg70 hDi rfl rfl rfl rfl), hI69⟩))))⟩
        · have hH : Has [(32, Value.pointer (some ⟨g13, 1, none⟩))] r := ⟨hReg70.get 7 rfl (hpre 7 rfl), trivial⟩
          obtain ⟨r0, rfl⟩ := hH.ex
          refine q_ld hI69 2 (v := Value.int .i64 a1.Behind) ag3 rfl rfl rfl ?_
          refine wpq_nil ?_
          exact ⟨rfl, (.inr (.inr (.inr (.inr (.inl ⟨hd14, hd17, hd19, hd20, g41, g62, _, hG68, hD46, (Regs.step hReg70 hDi rfl rfl rfl rfl), hI69⟩)))))⟩
        · have hH : Has [(32, Value.pointer (some ⟨g13, 1, none⟩))] r := ⟨hReg70.get 7 rfl (hpre 7 rfl), trivial⟩
          obtain ⟨r0, rfl⟩ := hH.ex
          refine q_ld hI69 2 (v := Value.int .i64 a1.Behind) ag3 rfl rfl rfl ?_
          refine wpq_nil ?_
          exact ⟨rfl, (.inr (.inr (.inr (.inr (.inr (.inl ⟨hd14, hd17, hd19, hd20, g41, A48, c49, g62, _, hG68, hD46, hl54, hD55, ho53, (Regs.step hReg70 hDi rfl rfl rfl rfl), hI69⟩))))))⟩
        · cases (hpost 20 rfl).symm.trans hd20
      · intro D r wd71 hR hDi hpre hpost
        rcases hR with ⟨hd14, hd17, hd19, hd20, G67, hG68, hReg70, hI69⟩ | ⟨hd14, hd17, hd19, hd20, g41, G67, hG68, hD46, hReg70, hI69⟩ | ⟨hd14, hd17, hd19, hd20, g62, G67, hG68, hReg70, hI69⟩ | ⟨hd14, hd17, hd19, hd20, g41, A48, c49, G67, hG68, hD46, hl54, hD55, ho53, hReg70, hI69⟩ | ⟨hd14, hd17, hd19, hd20, g41, g62, G67, hG68, hD46, hReg70, hI69⟩ | ⟨hd14, hd17, hd19, hd20, g41, A48, c49, g62, G67, hG68, hD46, hl54, hD55, ho53, hReg70, hI69⟩ | ⟨hd14, hd17, hd19, hd20, g41, A48, c49, g62, G67, hG68, hD46, hl54, hD55, ho53, hReg70, hI69⟩
        · have hH : Has [(3, Value.int .u8 a8)] r := ⟨hReg70.ins.get 2 rfl, trivial⟩
          obtain ⟨r0, rfl⟩ := hH.ex
          refine q_mv (v := Value.int .u8 a8) rfl ?_
          refine wpq_nil ?_
          exact ⟨rfl, (.inl ⟨hd14, hd17, hd19, hd20, _, hG68, (Regs.step hReg70 hDi rfl rfl rfl rfl), hI69⟩)⟩
        · have hH : Has [(3, Value.int .u8 a8)] r := ⟨hReg70.ins.get 2 rfl, trivial⟩
          obtain ⟨r0, rfl⟩ := hH.ex
          refine q_mv (v := Value.int .u8 a8) rfl ?_
          refine wpq_nil ?_
          exact ⟨rfl, (.inr (.inl ⟨hd14, hd17, hd19, hd20, g41, _, hG68, hD46, (Regs.step hReg70 hDi rfl rfl rfl rfl), hI69⟩))⟩
        · have hH : Has [(3, Value.int .u8 a8)] r := ⟨hReg70.ins.get 2 rfl, trivial⟩
          obtain ⟨r0, rfl⟩ := hH.ex
          refine q_mv (v := Value.int .u8 a8) rfl ?_
          refine wpq_nil ?_
          exact ⟨rfl, (.inr (.inr (.inl ⟨hd14, hd17, hd19, hd20, g62, _, hG68, (Regs.step hReg70 hDi rfl rfl rfl rfl), hI69⟩)))⟩
        · have hH : Has [(3, Value.int .u8 a8)] r := ⟨hReg70.ins.get 2 rfl, trivial⟩
          obtain ⟨r0, rfl⟩ := hH.ex
          refine q_mv (v := Value.int .u8 a8) rfl ?_
          refine wpq_nil ?_
          exact ⟨rfl, (.inr (.inr (.inr (.inl ⟨hd14, hd17, hd19, hd20, g41, A48, c49, _, hG68, hD46, hl54, hD55, ho53, (Regs.step hReg70 hDi rfl rfl rfl rfl), hI69⟩))))⟩
        · have hH : Has [(3, Value.int .u8 a8)] r := ⟨hReg70.ins.get 2 rfl, trivial⟩
          obtain ⟨r0, rfl⟩ := hH.ex
          refine q_mv (v := Value.int .u8 a8) rfl ?_
          refine wpq_nil ?_
          exact ⟨rfl, (.inr (.inr (.inr (.inr (.inl ⟨hd14, hd17, hd19, hd20, g41, g62, _, hG68, hD46, (Regs.step hReg70 hDi rfl rfl rfl rfl), hI69⟩)))))⟩
        · have hH : Has [(3, Value.int .u8 a8)] r := ⟨hReg70.ins.get 2 rfl, trivial⟩
          obtain ⟨r0, rfl⟩ := hH.ex
          refine q_mv (v := Value.int .u8 a8) rfl ?_
          refine wpq_nil ?_
          exact ⟨rfl, (.inr (.inr (.inr (.inr (.inr (.inl ⟨hd14, hd17, hd19, hd20, g41, A48, c49, g62, _, hG68, hD46, hl54, hD55, ho53, (Regs.step hReg70 hDi rfl rfl rfl rfl), hI69⟩))))))⟩
        · cases (hpost 20 rfl).symm.trans hd20
      · intro D r wd71 hR hDi hpre hpost
        rcases hR with ⟨hd14, hd17, hd19, hd20, G67, hG68, hReg70, hI69⟩ | ⟨hd14, hd17, hd19, hd20, g41, G67, hG68, hD46, hReg70, hI69⟩ | ⟨hd14, hd17, hd19, hd20, g62, G67, hG68, hReg70, hI69⟩ | ⟨hd14, hd17, hd19, hd20, g41, A48, c49, G67, hG68, hD46, hl54, hD55, ho53, hReg70, hI69⟩ | ⟨hd14, hd17, hd19, hd20, g41, g62, G67, hG68, hD46, hReg70, hI69⟩ | ⟨hd14, hd17, hd19, hd20, g41, A48, c49, g62, G67, hG68, hD46, hl54, hD55, ho53, hReg70, hI69⟩ | ⟨hd14, hd17, hd19, hd20, g41, A48, c49, g62, G67, hG68, hD46, hl54, hD55, ho53, hReg70, hI69⟩
        · have hH : Has [(34, Value.int .u8 a8)] r := ⟨hReg70.get 9 rfl (hpre 9 rfl), trivial⟩
          obtain ⟨r0, rfl⟩ := hH.ex
          refine q_cvi ik5 ik3 rfl ?_
          refine wpq_nil ?_
          exact ⟨rfl, (.inl ⟨hd14, hd17, hd19, hd20, _, hG68, (Regs.step hReg70 hDi rfl rfl rfl rfl), hI69⟩)⟩
        · have hH : Has [(34, Value.int .u8 a8)] r := ⟨hReg70.get 9 rfl (hpre 9 rfl), trivial⟩
          obtain ⟨r0, rfl⟩ := hH.ex
          refine q_cvi ik5 ik3 rfl ?_
          refine wpq_nil ?_
          exact ⟨rfl, (.inr (.inl ⟨hd14, hd17, hd19, hd20, g41, _, hG68, hD46, (Regs.step hReg70 hDi rfl rfl rfl rfl), hI69⟩))⟩
        · have hH : Has [(34, Value.int .u8 a8)] r := ⟨hReg70.get 9 rfl (hpre 9 rfl), trivial⟩
          obtain ⟨r0, rfl⟩ := hH.ex
          refine q_cvi ik5 ik3 rfl ?_
          refine wpq_nil ?_
          exact ⟨rfl, (.inr (.inr (.inl ⟨hd14, hd17, hd19, hd20, g62, _, hG68, (Regs.step hReg70 hDi rfl rfl rfl rfl), hI69⟩)))⟩
        · have hH : Has [(34, Value.int .u8 a8)] r := ⟨hReg70.get 9 rfl (hpre 9 rfl), trivial⟩
          obtain ⟨r0, rfl⟩ := hH.ex
          refine q_cvi ik5 ik3 rfl ?_
          refine wpq_nil ?_
          exact ⟨rfl, (.inr (.inr (.inr (.inl ⟨hd14, hd17, hd19, hd20, g41, A48, c49, _, hG68, hD46, hl54, hD55, ho53, (Regs.step hReg70 hDi rfl rfl rfl rfl), hI69⟩))))⟩
        · have hH : Has [(34, Value.int .u8 a8)] r := ⟨hReg70.get 9 rfl (hpre 9 rfl), trivial⟩
          obtain ⟨r0, rfl⟩ := hH.ex
          refine q_cvi ik5 ik3 rfl ?_
          refine wpq_nil ?_
          exact ⟨rfl, (.inr (.inr (.inr (.inr (.inl ⟨hd14, hd17, hd19, hd20, g41, g62, _, hG68, hD46, (Regs.step hReg70 hDi rfl rfl rfl rfl), hI69⟩)))))⟩
        · have hH : Has [(34, Value.int .u8 a8)] r := ⟨hReg70.get 9 rfl (hpre 9 rfl), trivial⟩
          obtain ⟨r0, rfl⟩ := hH.ex
          refine q_cvi ik5 ik3 rfl ?_
          refine wpq_nil ?_
          exact ⟨rfl, (.inr (.inr (.inr (.inr (.inr (.inl ⟨hd14, hd17, hd19, hd20, g41, A48, c49, g62, _, hG68, hD46, hl54, hD55, ho53, (Regs.step hReg70 hDi rfl rfl rfl rfl), hI69⟩))))))⟩
        · cases (hpost 20 rfl).symm.trans hd20
      · intro D r wd71 hR hDi hpre hpost
        rcases hR with ⟨hd14, hd17, hd19, hd20, G67, hG68, hReg70, hI69⟩ | ⟨hd14, hd17, hd19, hd20, g41, G67, hG68, hD46, hReg70, hI69⟩ | ⟨hd14, hd17, hd19, hd20, g62, G67, hG68, hReg70, hI69⟩ | ⟨hd14, hd17, hd19, hd20, g41, A48, c49, G67, hG68, hD46, hl54, hD55, ho53, hReg70, hI69⟩ | ⟨hd14, hd17, hd19, hd20, g41, g62, G67, hG68, hD46, hReg70, hI69⟩ | ⟨hd14, hd17, hd19, hd20, g41, A48, c49, g62, G67, hG68, hD46, hl54, hD55, ho53, hReg70, hI69⟩ | ⟨hd14, hd17, hd19, hd20, g41, A48, c49, g62, G67, hG68, hD46, hl54, hD55, ho53, hReg70, hI69⟩
        · have hH : Has [(35, Value.int .i64 (w64 (a8)))] r := ⟨hReg70.get 10 rfl (hpre 10 rfl), trivial⟩
          obtain ⟨r0, rfl⟩ := hH.ex
          refine q_rem rfl rfl (by decide) ?_
          refine wpq_nil ?_
          exact ⟨rfl, (.inl ⟨hd14, hd17, hd19, hd20, _, hG68, (Regs.step hReg70 hDi rfl rfl rfl rfl), hI69⟩)⟩
        · have hH : Has [(35, Value.int .i64 (w64 (a8)))] r := ⟨hReg70.get 10 rfl (hpre 10 rfl), trivial⟩
          obtain ⟨r0, rfl⟩ := hH.ex
          refine q_rem rfl rfl (by decide) ?_
          refine wpq_nil ?_
          exact ⟨rfl, (.inr (.inl ⟨hd14, hd17, hd19, hd20, g41, _, hG68, hD46, (Regs.step hReg70 hDi rfl rfl rfl rfl), hI69⟩))⟩
        · have hH : Has [(35, Value.int .i64 (w64 (a8)))] r := ⟨hReg70.get 10 rfl (hpre 10 rfl), trivial⟩
          obtain ⟨r0, rfl⟩ := hH.ex
          refine q_rem rfl rfl (by decide) ?_
          refine wpq_nil ?_
          exact ⟨rfl, (.inr (.inr (.inl ⟨hd14, hd17, hd19, hd20, g62, _, hG68, (Regs.step hReg70 hDi rfl rfl rfl rfl), hI69⟩)))⟩
        · have hH : Has [(35, Value.int .i64 (w64 (a8)))] r := ⟨hReg70.get 10 rfl (hpre 10 rfl), trivial⟩
          obtain ⟨r0, rfl⟩ := hH.ex
          refine q_rem rfl rfl (by decide) ?_
          refine wpq_nil ?_
          exact ⟨rfl, (.inr (.inr (.inr (.inl ⟨hd14, hd17, hd19, hd20, g41, A48, c49, _, hG68, hD46, hl54, hD55, ho53, (Regs.step hReg70 hDi rfl rfl rfl rfl), hI69⟩))))⟩
        · have hH : Has [(35, Value.int .i64 (w64 (a8)))] r := ⟨hReg70.get 10 rfl (hpre 10 rfl), trivial⟩
          obtain ⟨r0, rfl⟩ := hH.ex
          refine q_rem rfl rfl (by decide) ?_
          refine wpq_nil ?_
          exact ⟨rfl, (.inr (.inr (.inr (.inr (.inl ⟨hd14, hd17, hd19, hd20, g41, g62, _, hG68, hD46, (Regs.step hReg70 hDi rfl rfl rfl rfl), hI69⟩)))))⟩
        · have hH : Has [(35, Value.int .i64 (w64 (a8)))] r := ⟨hReg70.get 10 rfl (hpre 10 rfl), trivial⟩
          obtain ⟨r0, rfl⟩ := hH.ex
          refine q_rem rfl rfl (by decide) ?_
          refine wpq_nil ?_
          exact ⟨rfl, (.inr (.inr (.inr (.inr (.inr (.inl ⟨hd14, hd17, hd19, hd20, g41, A48, c49, g62, _, hG68, hD46, hl54, hD55, ho53, (Regs.step hReg70 hDi rfl rfl rfl rfl), hI69⟩))))))⟩
        · cases (hpost 20 rfl).symm.trans hd20
      · intro D r wd71 hR hDi hpre hpost
        rcases hR with ⟨hd14, hd17, hd19, hd20, G67, hG68, hReg70, hI69⟩ | ⟨hd14, hd17, hd19, hd20, g41, G67, hG68, hD46, hReg70, hI69⟩ | ⟨hd14, hd17, hd19, hd20, g62, G67, hG68, hReg70, hI69⟩ | ⟨hd14, hd17, hd19, hd20, g41, A48, c49, G67, hG68, hD46, hl54, hD55, ho53, hReg70, hI69⟩ | ⟨hd14, hd17, hd19, hd20, g41, g62, G67, hG68, hD46, hReg70, hI69⟩ | ⟨hd14, hd17, hd19, hd20, g41, A48, c49, g62, G67, hG68, hD46, hl54, hD55, ho53, hReg70, hI69⟩ | ⟨hd14, hd17, hd19, hd20, g41, A48, c49, g62, G67, hG68, hD46, hl54, hD55, ho53, hReg70, hI69⟩
        · have hH : Has [(33, Value.int .i64 a1.Behind), (36, Value.int .i64 (Int.tmod (w64 (a8)) 3))] r := ⟨hReg70.get 8 rfl (hpre 8 rfl), hReg70.get 11 rfl (hpre 11 rfl), trivial⟩
          obtain ⟨r0, rfl⟩ := hH.ex
          refine q_add rfl rfl ?_
          refine wpq_nil ?_
          exact ⟨rfl, (.inl ⟨hd14, hd17, hd19, hd20, _, hG68, (Regs.step hReg70 hDi rfl rfl rfl rfl), hI69⟩)⟩
        · have hH : Has [(33, Value.int .i64 a1.Behind), (36, Value.int .i64 (Int.tmod (w64 (a8)) 3))] r := ⟨hReg70.get 8 rfl (hpre 8 rfl), hReg70.get 11 rfl (hpre 11 rfl), trivial⟩
          obtain ⟨r0, rfl⟩ := hH.ex
          refine q_add rfl rfl ?_
          refine wpq_nil ?_
          exact ⟨rfl, (.inr (.inl ⟨hd14, hd17, hd19, hd20, g41, _, hG68, hD46, (Regs.step hReg70 hDi rfl rfl rfl rfl), hI69⟩))⟩
        · have hH : Has [(33, Value.int .i64 a1.Behind), (36, Value.int .i64 (Int.tmod (w64 (a8)) 3))] r := ⟨hReg70.get 8 rfl (hpre 8 rfl), hReg70.get 11 rfl (hpre 11 rfl), trivial⟩
          obtain ⟨r0, rfl⟩ := hH.ex
          refine q_add rfl rfl ?_
          refine wpq_nil ?_
          exact ⟨rfl, (.inr (.inr (.inl ⟨hd14, hd17, hd19, hd20, g62, _, hG68, (Regs.step hReg70 hDi rfl rfl rfl rfl), hI69⟩)))⟩
        · have hH : Has [(33, Value.int .i64 a1.Behind), (36, Value.int .i64 (Int.tmod (w64 (a8)) 3))] r := ⟨hReg70.get 8 rfl (hpre 8 rfl), hReg70.get 11 rfl (hpre 11 rfl), trivial⟩
          obtain ⟨r0, rfl⟩ := hH.ex
          refine q_add rfl rfl ?_
          refine wpq_nil ?_
          exact ⟨rfl, (.inr (.inr (.inr (.inl ⟨hd14, hd17, hd19, hd20, g41, A48, c49, _, hG68, hD46, hl54, hD55, ho53, (Regs.step hReg70 hDi rfl rfl rfl rfl), hI69⟩))))⟩
        · have hH : Has [(33, Value.int .i64 a1.Behind), (36, Value.int .i64 (Int.tmod (w64 (a8)) 3))] r := ⟨hReg70.get 8 rfl (hpre 8 rfl), hReg70.get 11 rfl (hpre 11 rfl), trivial⟩
          obtain ⟨r0, rfl⟩ := hH.ex
          refine q_add rfl rfl ?_
          refine wpq_nil ?_
          exact ⟨rfl, (.inr (.inr (.inr (.inr (.inl ⟨hd14, hd17, hd19, hd20, g41, g62, _, hG68, hD46, (Regs.step hReg70 hDi rfl rfl rfl rfl), hI69⟩)))))⟩
        · have hH : Has [(33, Value.int .i64 a1.Behind), (36, Value.int .i64 (Int.tmod (w64 (a8)) 3))] r := ⟨hReg70.get 8 rfl (hpre 8 rfl), hReg70.get 11 rfl (hpre 11 rfl), trivial⟩
          obtain ⟨r0, rfl⟩ := hH.ex
          refine q_add rfl rfl ?_
          refine wpq_nil ?_
          exact ⟨rfl, (.inr (.inr (.inr (.inr (.inr (.inl ⟨hd14, hd17, hd19, hd20, g41, A48, c49, g62, _, hG68, hD46, hl54, hD55, ho53, (Regs.step hReg70 hDi rfl rfl rfl rfl), hI69⟩))))))⟩
        · cases (hpost 20 rfl).symm.trans hd20
      · intro D r wd71 hR hDi hpre hpost
        rcases hR with ⟨hd14, hd17, hd19, hd20, G67, hG68, hReg70, hI69⟩ | ⟨hd14, hd17, hd19, hd20, g41, G67, hG68, hD46, hReg70, hI69⟩ | ⟨hd14, hd17, hd19, hd20, g62, G67, hG68, hReg70, hI69⟩ | ⟨hd14, hd17, hd19, hd20, g41, A48, c49, G67, hG68, hD46, hl54, hD55, ho53, hReg70, hI69⟩ | ⟨hd14, hd17, hd19, hd20, g41, g62, G67, hG68, hD46, hReg70, hI69⟩ | ⟨hd14, hd17, hd19, hd20, g41, A48, c49, g62, G67, hG68, hD46, hl54, hD55, ho53, hReg70, hI69⟩ | ⟨hd14, hd17, hd19, hd20, g41, A48, c49, g62, G67, hG68, hD46, hl54, hD55, ho53, hReg70, hI69⟩
        · have hH : Has [(37, Value.int .i64 (w64 (a1.Behind + (Int.tmod (w64 (a8)) 3))))] r := ⟨hReg70.get 12 rfl (hpre 12 rfl), trivial⟩
          obtain ⟨r0, rfl⟩ := hH.ex
          refine q_min rfl rfl ?_
          refine wpq_nil ?_
          exact ⟨rfl, (.inl ⟨hd14, hd17, hd19, hd20, _, hG68, (Regs.step hReg70 hDi rfl rfl rfl rfl), hI69⟩)⟩
        · have hH : Has [(37, Value.int .i64 (w64 (a1.Behind + (Int.tmod (w64 (a8)) 3))))] r := ⟨hReg70.get 12 rfl (hpre 12 rfl), trivial⟩
          obtain ⟨r0, rfl⟩ := hH.ex
          refine q_min rfl rfl ?_
          refine wpq_nil ?_
          exact ⟨rfl, (.inr (.inl ⟨hd14, hd17, hd19, hd20, g41, _, hG68, hD46, (Regs.step hReg70 hDi rfl rfl rfl rfl), hI69⟩))⟩
        · have hH : Has [(37, Value.int .i64 (w64 (a1.Behind + (Int.tmod (w64 (a8)) 3))))] r := ⟨hReg70.get 12 rfl (hpre 12 rfl), trivial⟩
          obtain ⟨r0, rfl⟩ := hH.ex
          refine q_min rfl rfl ?_
          refine wpq_nil ?_
          exact ⟨rfl, (.inr (.inr (.inl ⟨hd14, hd17, hd19, hd20, g62, _, hG68, (Regs.step hReg70 hDi rfl rfl rfl rfl), hI69⟩)))⟩
        · have hH : Has [(37, Value.int .i64 (w64 (a1.Behind + (Int.tmod (w64 (a8)) 3))))] r := ⟨hReg70.get 12 rfl (hpre 12 rfl), trivial⟩
          obtain ⟨r0, rfl⟩ := hH.ex
          refine q_min rfl rfl ?_
          refine wpq_nil ?_
          exact ⟨rfl, (.inr (.inr (.inr (.inl ⟨hd14, hd17, hd19, hd20, g41, A48, c49, _, hG68, hD46, hl54, hD55, ho53, (Regs.step hReg70 hDi rfl rfl rfl rfl), hI69⟩))))⟩
        · have hH : Has [(37, Value.int .i64 (w64 (a1.Behind + (Int.tmod (w64 (a8)) 3))))] r := ⟨hReg70.get 12 rfl (hpre 12 rfl), trivial⟩
          obtain ⟨r0, rfl⟩ := hH.ex
          refine q_min rfl rfl ?_
          refine wpq_nil ?_
          exact ⟨rfl, (.inr (.inr (.inr (.inr (.inl ⟨hd14, hd17, hd19, hd20, g41, g62, _, hG68, hD46, (Regs.step hReg70 hDi rfl rfl rfl rfl), hI69⟩)))))⟩
        · have hH : Has [(37, Value.int .i64 (w64 (a1.Behind + (Int.tmod (w64 (a8)) 3))))] r := ⟨hReg70.get 12 rfl (hpre 12 rfl), trivial⟩
          obtain ⟨r0, rfl⟩ := hH.ex
          refine q_min rfl rfl ?_
          refine wpq_nil ?_
          exact ⟨rfl, (.inr (.inr (.inr (.inr (.inr (.inl ⟨hd14, hd17, hd19, hd20, g41, A48, c49, g62, _, hG68, hD46, hl54, hD55, ho53, (Regs.step hReg70 hDi rfl rfl rfl rfl), hI69⟩))))))⟩
        · cases (hpost 20 rfl).symm.trans hd20
      · intro D r wd71 hR hDi hpre hpost
        rcases hR with ⟨hd14, hd17, hd19, hd20, G67, hG68, hReg70, hI69⟩ | ⟨hd14, hd17, hd19, hd20, g41, G67, hG68, hD46, hReg70, hI69⟩ | ⟨hd14, hd17, hd19, hd20, g62, G67, hG68, hReg70, hI69⟩ | ⟨hd14, hd17, hd19, hd20, g41, A48, c49, G67, hG68, hD46, hl54, hD55, ho53, hReg70, hI69⟩ | ⟨hd14, hd17, hd19, hd20, g41, g62, G67, hG68, hD46, hReg70, hI69⟩ | ⟨hd14, hd17, hd19, hd20, g41, A48, c49, g62, G67, hG68, hD46, hl54, hD55, ho53, hReg70, hI69⟩ | ⟨hd14, hd17, hd19, hd20, g41, A48, c49, g62, G67, hG68, hD46, hl54, hD55, ho53, hReg70, hI69⟩
        · have hH : Has [] r := trivial
          obtain ⟨r0, rfl⟩ := hH.ex
          refine q_bs hI69 (vs := []) (cs := []) el22 ze9 rfl (by decide) rfl rfl (fun g41 wd42 hI43 => ?_)
          obtain ⟨G44, hG45, hI47, hD46⟩ := Hp.publish (xs := ([] : List ByteArray)) (n := 0) Kd.str hI43 rfl rfl
          refine wpq_nil ?_
          exact ⟨rfl, (.inr (.inl ⟨rfl, hd17, hd19, hd20, g41, _, (Gh.le_trans hG68 hG45), hD46, (Regs.step (Regs.re (vals' := [(0, 25, Value.pointer (some ⟨g13, 0, none⟩)), (1, 26, Value.int .i64 a1.Before), (2, 27, Value.int .u8 a7), (3, 28, Value.int .i64 (w64 (a7))), (4, 29, Value.int .i64 (Int.tmod (w64 (a7)) 3)), (5, 30, Value.int .i64 (w64 (a1.Before + (Int.tmod (w64 (a7)) 3)))), (6, 31, Value.int .i64 (min 5 (w64 (a1.Before + (Int.tmod (w64 (a7)) 3))))), (7, 32, Value.pointer (some ⟨g13, 1, none⟩)), (8, 33, Value.int .i64 a1.Behind), (9, 34, Value.int .u8 a8), (10, 35, Value.int .i64 (w64 (a8))), (11, 36, Value.int .i64 (Int.tmod (w64 (a8)) 3)), (12, 37, Value.int .i64 (w64 (a1.Behind + (Int.tmod (w64 (a8)) 3)))), (13, 38, Value.int .i64 (min 5 (w64 (a1.Behind + (Int.tmod (w64 (a8)) 3))))), (14, 39, Value.slice (some ⟨g41, 0, none⟩) 0 0), (15, 40, Value.pointer (some ⟨g13, 2, none⟩)), (16, 41, Value.slice A2 a1.Keep.length c3)]) hReg70 (List.forall_mem_cons.2 ⟨.inl (List.mem_of_getElem? (i := 0) rfl), (List.forall_mem_cons.2 ⟨.inl (List.mem_of_getElem? (i := 1) rfl), (List.forall_mem_cons.2 ⟨.inl (List.mem_of_getElem? (i := 2) rfl), (List.forall_mem_cons.2 ⟨.inl (List.mem_of_getElem? (i := 3) rfl), (List.forall_mem_cons.2 ⟨.inl (List.mem_of_getElem? (i := 4) rfl), (List.forall_mem_cons.2 ⟨.inl (List.mem_of_getElem? (i := 5) rfl), (List.forall_mem_cons.2 ⟨.inl (List.mem_of_getElem? (i := 6) rfl), (List.forall_mem_cons.2 ⟨.inl (List.mem_of_getElem? (i := 7) rfl), (List.forall_mem_cons.2 ⟨.inl (List.mem_of_getElem? (i := 8) rfl), (List.forall_mem_cons.2 ⟨.inl (List.mem_of_getElem? (i := 9) rfl), (List.forall_mem_cons.2 ⟨.inl (List.mem_of_getElem? (i := 10) rfl), (List.forall_mem_cons.2 ⟨.inl (List.mem_of_getElem? (i := 11) rfl), (List.forall_mem_cons.2 ⟨.inl (List.mem_of_getElem? (i := 12) rfl), (List.forall_mem_cons.2 ⟨.inl (List.mem_of_getElem? (i := 13) rfl), (List.forall_mem_cons.2 ⟨.inr hDi, (List.forall_mem_cons.2 ⟨.inl (List.mem_of_getElem? (i := 14) rfl), (List.forall_mem_cons.2 ⟨.inl (List.mem_of_getElem? (i := 15) rfl), (fun _ h => nomatch h)⟩)⟩)⟩)⟩)⟩)⟩)⟩)⟩)⟩)⟩)⟩)⟩)⟩)⟩)⟩)⟩)⟩)) hDi rfl rfl rfl rfl), hI47⟩))⟩
        · cases hDi.symm.trans hd14
        · have hH : Has [] r := trivial
          obtain ⟨r0, rfl⟩ := hH.ex
          refine q_bs hI69 (vs := []) (cs := []) el22 ze9 rfl (by decide) rfl rfl (fun g41 wd42 hI43 => ?_)
          obtain ⟨G44, hG45, hI47, hD46⟩ := Hp.publish (xs := ([] : List ByteArray)) (n := 0) Kd.str hI43 rfl rfl
          have hI72 := Hp.front hI47 2 rfl
          have hI73 := Hp.front hI72 1 rfl
          have hI74 := Hp.front hI73 2 rfl
          refine wpq_nil ?_
          exact ⟨rfl, (.inr (.inr (.inr (.inr (.inl ⟨rfl, hd17, hd19, hd20, g41, g62, _, (Gh.le_trans hG68 hG45), hD46, (Regs.step (Regs.re (vals' := [(0, 25, Value.pointer (some ⟨g13, 0, none⟩)), (1, 26, Value.int .i64 a1.Before), (2, 27, Value.int .u8 a7), (3, 28, Value.int .i64 (w64 (a7))), (4, 29, Value.int .i64 (Int.tmod (w64 (a7)) 3)), (5, 30, Value.int .i64 (w64 (a1.Before + (Int.tmod (w64 (a7)) 3)))), (6, 31, Value.int .i64 (min 5 (w64 (a1.Before + (Int.tmod (w64 (a7)) 3))))), (7, 32, Value.pointer (some ⟨g13, 1, none⟩)), (8, 33, Value.int .i64 a1.Behind), (9, 34, Value.int .u8 a8), (10, 35, Value.int .i64 (w64 (a8))), (11, 36, Value.int .i64 (Int.tmod (w64 (a8)) 3)), (12, 37, Value.int .i64 (w64 (a1.Behind + (Int.tmod (w64 (a8)) 3)))), (13, 38, Value.int .i64 (min 5 (w64 (a1.Behind + (Int.tmod (w64 (a8)) 3))))), (14, 39, Value.slice (some ⟨g41, 0, none⟩) 0 0), (15, 40, Value.pointer (some ⟨g13, 2, none⟩)), (16, 41, Value.slice A2 a1.Keep.length c3), (19, 12, Value.pointer (some ⟨g62, 0, none⟩))]) hReg70 (List.forall_mem_cons.2 ⟨.inl (List.mem_of_getElem? (i := 0) rfl), (List.forall_mem_cons.2 ⟨.inl (List.mem_of_getElem? (i := 1) rfl), (List.forall_mem_cons.2 ⟨.inl (List.mem_of_getElem? (i := 2) rfl), (List.forall_mem_cons.2 ⟨.inl (List.mem_of_getElem? (i := 3) rfl), (List.forall_mem_cons.2 ⟨.inl (List.mem_of_getElem? (i := 4) rfl), (List.forall_mem_cons.2 ⟨.inl (List.mem_of_getElem? (i := 5) rfl), (List.forall_mem_cons.2 ⟨.inl (List.mem_of_getElem? (i := 6) rfl), (List.forall_mem_cons.2 ⟨.inl (List.mem_of_getElem? (i := 7) rfl), (List.forall_mem_cons.2 ⟨.inl (List.mem_of_getElem? (i := 8) rfl), (List.forall_mem_cons.2 ⟨.inl (List.mem_of_getElem? (i := 9) rfl), (List.forall_mem_cons.2 ⟨.inl (List.mem_of_getElem? (i := 10) rfl), (List.forall_mem_cons.2 ⟨.inl (List.mem_of_getElem? (i := 11) rfl), (List.forall_mem_cons.2 ⟨.inl (List.mem_of_getElem? (i := 12) rfl), (List.forall_mem_cons.2 ⟨.inl (List.mem_of_getElem? (i := 13) rfl), (List.forall_mem_cons.2 ⟨.inr hDi, (List.forall_mem_cons.2 ⟨.inl (List.mem_of_getElem? (i := 14) rfl), (List.forall_mem_cons.2 ⟨.inl (List.mem_of_getElem? (i := 15) rfl), (List.forall_mem_cons.2 ⟨.inl (List.mem_of_getElem? (i := 16) rfl), (fun _ h => nomatch h)⟩)⟩)⟩)⟩)⟩)⟩)⟩)⟩)⟩)⟩)⟩)⟩)⟩)⟩)⟩)⟩)⟩)⟩)) hDi rfl rfl rfl rfl), hI74⟩)))))⟩
        · cases (hpost 17 rfl).symm.trans hd17
        · cases hDi.symm.trans hd14
        · cases (hpost 17 rfl).symm.trans hd17
        · cases (hpost 17 rfl).symm.trans hd17
      · intro D r wd71 hR hDi hpre hpost
        rcases hR with ⟨hd14, hd17, hd19, hd20, G67, hG68, hReg70, hI69⟩ | ⟨hd14, hd17, hd19, hd20, g41, G67, hG68, hD46, hReg70, hI69⟩ | ⟨hd14, hd17, hd19, hd20, g62, G67, hG68, hReg70, hI69⟩ | ⟨hd14, hd17, hd19, hd20, g41, A48, c49, G67, hG68, hD46, hl54, hD55, ho53, hReg70, hI69⟩ | ⟨hd14, hd17, hd19, hd20, g41, g62, G67, hG68, hD46, hReg70, hI69⟩ | ⟨hd14, hd17, hd19, hd20, g41, A48, c49, g62, G67, hG68, hD46, hl54, hD55, ho53, hReg70, hI69⟩ | ⟨hd14, hd17, hd19, hd20, g41, A48, c49, g62, G67, hG68, hD46, hl54, hD55, ho53, hReg70, hI69⟩
        · have hH : Has [(5, Value.pointer (some ⟨g13, 0, none⟩))] r := ⟨hReg70.ins.get 4 rfl, trivial⟩
          obtain ⟨r0, rfl⟩ := hH.ex
          refine q_fa (a' := ⟨g13, 2, none⟩) fl24_2 rfl (add_plain _ _ _) ?_
          refine wpq_nil ?_
          exact ⟨rfl, (.inl ⟨hd14, hd17, hd19, hd20, _, hG68, (Regs.step hReg70 hDi rfl rfl rfl rfl), hI69⟩)⟩
        · have hH : Has [(5, Value.pointer (some ⟨g13, 0, none⟩))] r := ⟨hReg70.ins.get 4 rfl, trivial⟩
          obtain ⟨r0, rfl⟩ := hH.ex
          refine q_fa (a' := ⟨g13, 2, none⟩) fl24_2 rfl (add_plain _ _ _) ?_
          refine wpq_nil ?_
          exact ⟨rfl, (.inr (.inl ⟨hd14, hd17, hd19, hd20, g41, _, hG68, hD46, (Regs.step hReg70 hDi rfl rfl rfl rfl), hI69⟩))⟩
        · have hH : Has [(5, Value.pointer (some ⟨g13, 0, none⟩))] r := ⟨hReg70.ins.get 4 rfl, trivial⟩
          obtain ⟨r0, rfl⟩ := hH.ex
          refine q_fa (a' := ⟨g13, 2, none⟩) fl24_2 rfl (add_plain _ _ _) ?_
          refine wpq_nil ?_
          exact ⟨rfl, (.inr (.inr (.inl ⟨hd14, hd17, hd19, hd20, g62, _, hG68, (Regs.step hReg70 hDi rfl rfl rfl rfl), hI69⟩)))⟩
        · cases (hpost 17 rfl).symm.trans hd17
        · have hH : Has [(5, Value.pointer (some ⟨g13, 0, none⟩))] r := ⟨hReg70.ins.get 4 rfl, trivial⟩
          obtain ⟨r0, rfl⟩ := hH.ex
          refine q_fa (a' := ⟨g13, 2, none⟩) fl24_2 rfl (add_plain _ _ _) ?_
          refine wpq_nil ?_
          exact ⟨rfl, (.inr (.inr (.inr (.inr (.inl ⟨hd14, hd17, hd19, hd20, g41, g62, _, hG68, hD46, (Regs.step hReg70 hDi rfl rfl rfl rfl), hI69⟩)))))⟩
        · cases (hpost 17 rfl).symm.trans hd17
        · cases (hpost 17 rfl).symm.trans hd17
      · intro D r wd71 hR hDi hpre hpost
        rcases hR with ⟨hd14, hd17, hd19, hd20, G67, hG68, hReg70, hI69⟩ | ⟨hd14, hd17, hd19, hd20, g41, G67, hG68, hD46, hReg70, hI69⟩ | ⟨hd14, hd17, hd19, hd20, g62, G67, hG68, hReg70, hI69⟩ | ⟨hd14, hd17, hd19, hd20, g41, A48, c49, G67, hG68, hD46, hl54, hD55, ho53, hReg70, hI69⟩ | ⟨hd14, hd17, hd19, hd20, g41, g62, G67, hG68, hD46, hReg70, hI69⟩ | ⟨hd14, hd17, hd19, hd20, g41, A48, c49, g62, G67, hG68, hD46, hl54, hD55, ho53, hReg70, hI69⟩ | ⟨hd14, hd17, hd19, hd20, g41, A48, c49, g62, G67, hG68, hD46, hl54, hD55, ho53, hReg70, hI69⟩
        · have hH : Has [(40, Value.pointer (some ⟨g13, 2, none⟩))] r := ⟨hReg70.get 14 rfl (hpre 15 rfl), trivial⟩
          obtain ⟨r0, rfl⟩ := hH.ex
          refine q_ld hI69 0 (v := Value.slice A2 a1.Keep.length c3) ag22 rfl rfl rfl ?_
          refine wpq_nil ?_
          exact ⟨rfl, (.inl ⟨hd14, hd17, hd19, hd20, _, hG68, (Regs.step hReg70 hDi rfl rfl rfl rfl), hI69⟩)⟩
        · have hH : Has [(40, Value.pointer (some ⟨g13, 2, none⟩))] r := ⟨hReg70.get 15 rfl (hpre 15 rfl), trivial⟩
          obtain ⟨r0, rfl⟩ := hH.ex
          refine q_ld hI69 1 (v := Value.slice A2 a1.Keep.length c3) ag22 rfl rfl rfl ?_
          refine wpq_nil ?_
          exact ⟨rfl, (.inr (.inl ⟨hd14, hd17, hd19, hd20, g41, _, hG68, hD46, (Regs.step hReg70 hDi rfl rfl rfl rfl), hI69⟩))⟩
        · have hH : Has [(40, Value.pointer (some ⟨g13, 2, none⟩))] r := ⟨hReg70.get 14 rfl (hpre 15 rfl), trivial⟩
          obtain ⟨r0, rfl⟩ := hH.ex
          refine q_ld hI69 1 (v := Value.slice A2 a1.Keep.length c3) ag22 rfl rfl rfl ?_
          refine wpq_nil ?_
          exact ⟨rfl, (.inr (.inr (.inl ⟨hd14, hd17, hd19, hd20, g62, _, hG68, (Regs.step hReg70 hDi rfl rfl rfl rfl), hI69⟩)))⟩
        · cases (hpost 17 rfl).symm.trans hd17
        · have hH : Has [(40, Value.pointer (some ⟨g13, 2, none⟩))] r := ⟨hReg70.get 15 rfl (hpre 15 rfl), trivial⟩
          obtain ⟨r0, rfl⟩ := hH.ex
          refine q_ld hI69 2 (v := Value.slice A2 a1.Keep.length c3) ag22 rfl rfl rfl ?_
          refine wpq_nil ?_
          exact ⟨rfl, (.inr (.inr (.inr (.inr (.inl ⟨hd14, hd17, hd19, hd20, g41, g62, _, hG68, hD46, (Regs.step hReg70 hDi rfl rfl rfl rfl), hI69⟩)))))⟩
        · cases (hpost 17 rfl).symm.trans hd17
        · cases (hpost 17 rfl).symm.trans hd17
      · intro D r wd71 hR hDi hpre hpost
        rcases hR with ⟨hd14, hd17, hd19, hd20, G67, hG68, hReg70, hI69⟩ | ⟨hd14, hd17, hd19, hd20, g41, G67, hG68, hD46, hReg70, hI69⟩ | ⟨hd14, hd17, hd19, hd20, g62, G67, hG68, hReg70, hI69⟩ | ⟨hd14, hd17, hd19, hd20, g41, A48, c49, G67, hG68, hD46, hl54, hD55, ho53, hReg70, hI69⟩ | ⟨hd14, hd17, hd19, hd20, g41, g62, G67, hG68, hD46, hReg70, hI69⟩ | ⟨hd14, hd17, hd19, hd20, g41, A48, c49, g62, G67, hG68, hD46, hl54, hD55, ho53, hReg70, hI69⟩ | ⟨hd14, hd17, hd19, hd20, g41, A48, c49, g62, G67, hG68, hD46, hl54, hD55, ho53, hReg70, hI69⟩
        · cases (hpre 14 rfl).symm.trans hd14
        · have hH : Has [(39, Value.slice (some ⟨g41, 0, none⟩) 0 0), (41, Value.slice A2 a1.Keep.length c3)] r := ⟨hReg70.get 14 rfl (hpre 14 rfl), hReg70.get 16 rfl (hpre 16 rfl), trivial⟩
          obtain ⟨r0, rfl⟩ := hH.ex
          obtain ⟨nw58, hs59, hf60⟩ := src_dat (u := 22) hI69 so22 (Dat.mono (Gh.le_trans (Gh.le_trans hG20 hG30) hG68) hD5)
          refine q_app (xs := ([] : List ByteArray)) (ys := a1.Keep) Kd.str hI69 0 el22 ze9 rfl rfl rfl rfl (Own.mk _ _ _) (show ([] : List ByteArray).length ≤ 0 from Nat.le_of_ble_eq_true rfl) hD46 hs59 hf60 rfl (by simp only [List.length_cons, List.length_nil]; omega) (by simp only [List.length_cons, List.length_nil]; omega) (fun A48 c49 G50 wd51 hG52 ho53 hl54 hD55 hI56 => ?_)
          refine wpq_nil ?_
          exact ⟨rfl, (.inr (.inr (.inr (.inl ⟨hd14, rfl, hd19, hd20, g41, A48, c49, _, (Gh.le_trans hG68 hG52), (Dat.mono hG52 hD46), hl54, hD55, ho53, (Regs.step (Regs.re (vals' := [(0, 25, Value.pointer (some ⟨g13, 0, none⟩)), (1, 26, Value.int .i64 a1.Before), (2, 27, Value.int .u8 a7), (3, 28, Value.int .i64 (w64 (a7))), (4, 29, Value.int .i64 (Int.tmod (w64 (a7)) 3)), (5, 30, Value.int .i64 (w64 (a1.Before + (Int.tmod (w64 (a7)) 3)))), (6, 31, Value.int .i64 (min 5 (w64 (a1.Before + (Int.tmod (w64 (a7)) 3))))), (7, 32, Value.pointer (some ⟨g13, 1, none⟩)), (8, 33, Value.int .i64 a1.Behind), (9, 34, Value.int .u8 a8), (10, 35, Value.int .i64 (w64 (a8))), (11, 36, Value.int .i64 (Int.tmod (w64 (a8)) 3)), (12, 37, Value.int .i64 (w64 (a1.Behind + (Int.tmod (w64 (a8)) 3)))), (13, 38, Value.int .i64 (min 5 (w64 (a1.Behind + (Int.tmod (w64 (a8)) 3))))), (14, 39, Value.slice (some ⟨g41, 0, none⟩) 0 0), (15, 40, Value.pointer (some ⟨g13, 2, none⟩)), (16, 41, Value.slice A2 a1.Keep.length c3), (17, 42, Value.slice A48 (([] : List ByteArray) ++ a1.Keep).length c49), (18, 43, Value.agg [Value.int .i64 (min 5 (w64 (a1.Before + (Int.tmod (w64 (a7)) 3)))), Value.int .i64 (min 5 (w64 (a1.Behind + (Int.tmod (w64 (a8)) 3)))), Value.slice A48 (([] : List ByteArray) ++ a1.Keep).length c49].toArray)]) hReg70 (List.forall_mem_cons.2 ⟨.inl (List.mem_of_getElem? (i := 0) rfl), (List.forall_mem_cons.2 ⟨.inl (List.mem_of_getElem? (i := 1) rfl), (List.forall_mem_cons.2 ⟨.inl (List.mem_of_getElem? (i := 2) rfl), (List.forall_mem_cons.2 ⟨.inl (List.mem_of_getElem? (i := 3) rfl), (List.forall_mem_cons.2 ⟨.inl (List.mem_of_getElem? (i := 4) rfl), (List.forall_mem_cons.2 ⟨.inl (List.mem_of_getElem? (i := 5) rfl), (List.forall_mem_cons.2 ⟨.inl (List.mem_of_getElem? (i := 6) rfl), (List.forall_mem_cons.2 ⟨.inl (List.mem_of_getElem? (i := 7) rfl), (List.forall_mem_cons.2 ⟨.inl (List.mem_of_getElem? (i := 8) rfl), (List.forall_mem_cons.2 ⟨.inl (List.mem_of_getElem? (i := 9) rfl), (List.forall_mem_cons.2 ⟨.inl (List.mem_of_getElem? (i := 10) rfl), (List.forall_mem_cons.2 ⟨.inl (List.mem_of_getElem? (i := 11) rfl), (List.forall_mem_cons.2 ⟨.inl (List.mem_of_getElem? (i := 12) rfl), (List.forall_mem_cons.2 ⟨.inl (List.mem_of_getElem? (i := 13) rfl), (List.forall_mem_cons.2 ⟨.inl (List.mem_of_getElem? (i := 14) rfl), (List.forall_mem_cons.2 ⟨.inl (List.mem_of_getElem? (i := 15) rfl), (List.forall_mem_cons.2 ⟨.inl (List.mem_of_getElem? (i := 16) rfl), (List.forall_mem_cons.2 ⟨.inr hDi, (List.forall_mem_cons.2 ⟨.inr (hpost 18 rfl), (fun _ h => nomatch h)⟩)⟩)⟩)⟩)⟩)⟩)⟩)⟩)⟩)⟩)⟩)⟩)⟩)⟩)⟩)⟩)⟩)⟩)⟩)) hDi rfl rfl rfl rfl), hI56⟩))))⟩
        · cases (hpre 14 rfl).symm.trans hd14
        · cases hDi.symm.trans hd17
        · have hH : Has [(39, Value.slice (some ⟨g41, 0, none⟩) 0 0), (41, Value.slice A2 a1.Keep.length c3)] r := ⟨hReg70.get 14 rfl (hpre 14 rfl), hReg70.get 16 rfl (hpre 16 rfl), trivial⟩
          obtain ⟨r0, rfl⟩ := hH.ex
          obtain ⟨nw58, hs59, hf60⟩ := src_dat (u := 22) hI69 so22 (Dat.mono (Gh.le_trans (Gh.le_trans hG20 hG30) hG68) hD5)
          refine q_app (xs := ([] : List ByteArray)) (ys := a1.Keep) Kd.str hI69 1 el22 ze9 rfl rfl rfl rfl (Own.mk _ _ _) (show ([] : List ByteArray).length ≤ 0 from Nat.le_of_ble_eq_true rfl) hD46 hs59 hf60 rfl (by simp only [List.length_cons, List.length_nil]; omega) (by simp only [List.length_cons, List.length_nil]; omega) (fun A48 c49 G50 wd51 hG52 ho53 hl54 hD55 hI56 => ?_)
          refine wpq_nil ?_
          exact ⟨rfl, (.inr (.inr (.inr (.inr (.inr (.inl ⟨hd14, rfl, hd19, hd20, g41, A48, c49, g62, _, (Gh.le_trans hG68 hG52), (Dat.mono hG52 hD46), hl54, hD55, ho53, (Regs.step (Regs.re (vals' := [(0, 25, Value.pointer (some ⟨g13, 0, none⟩)), (1, 26, Value.int .i64 a1.Before), (2, 27, Value.int .u8 a7), (3, 28, Value.int .i64 (w64 (a7))), (4, 29, Value.int .i64 (Int.tmod (w64 (a7)) 3)), (5, 30, Value.int .i64 (w64 (a1.Before + (Int.tmod (w64 (a7)) 3)))), (6, 31, Value.int .i64 (min 5 (w64 (a1.Before + (Int.tmod (w64 (a7)) 3))))), (7, 32, Value.pointer (some ⟨g13, 1, none⟩)), (8, 33, Value.int .i64 a1.Behind), (9, 34, Value.int .u8 a8), (10, 35, Value.int .i64 (w64 (a8))), (11, 36, Value.int .i64 (Int.tmod (w64 (a8)) 3)), (12, 37, Value.int .i64 (w64 (a1.Behind + (Int.tmod (w64 (a8)) 3)))), (13, 38, Value.int .i64 (min 5 (w64 (a1.Behind + (Int.tmod (w64 (a8)) 3))))), (14, 39, Value.slice (some ⟨g41, 0, none⟩) 0 0), (15, 40, Value.pointer (some ⟨g13, 2, none⟩)), (16, 41, Value.slice A2 a1.Keep.length c3), (17, 42, Value.slice A48 (([] : List ByteArray) ++ a1.Keep).length c49), (18, 43, Value.agg [Value.int .i64 (min 5 (w64 (a1.Before + (Int.tmod (w64 (a7)) 3)))), Value.int .i64 (min 5 (w64 (a1.Behind + (Int.tmod (w64 (a8)) 3)))), Value.slice A48 (([] : List ByteArray) ++ a1.Keep).length c49].toArray), (19, 12, Value.pointer (some ⟨g62, 0, none⟩))]) hReg70 (List.forall_mem_cons.2 ⟨.inl (List.mem_of_getElem? (i := 0) rfl), (List.forall_mem_cons.2 ⟨.inl (List.mem_of_getElem? (i := 1) rfl), (List.forall_mem_cons.2 ⟨.inl (List.mem_of_getElem? (i := 2) rfl), (List.forall_mem_cons.2 ⟨.inl (List.mem_of_getElem? (i := 3) rfl), (List.forall_mem_cons.2 ⟨.inl (List.mem_of_getElem? (i := 4) rfl), (List.forall_mem_cons.2 ⟨.inl (List.mem_of_getElem? (i := 5) rfl), (List.forall_mem_cons.2 ⟨.inl (List.mem_of_getElem? (i := 6) rfl), (List.forall_mem_cons.2 ⟨.inl (List.mem_of_getElem? (i := 7) rfl), (List.forall_mem_cons.2 ⟨.inl (List.mem_of_getElem? (i := 8) rfl), (List.forall_mem_cons.2 ⟨.inl (List.mem_of_getElem? (i := 9) rfl), (List.forall_mem_cons.2 ⟨.inl (List.mem_of_getElem? (i := 10) rfl), (List.forall_mem_cons.2 ⟨.inl (List.mem_of_getElem? (i := 11) rfl), (List.forall_mem_cons.2 ⟨.inl (List.mem_of_getElem? (i := 12) rfl), (List.forall_mem_cons.2 ⟨.inl (List.mem_of_getElem? (i := 13) rfl), (List.forall_mem_cons.2 ⟨.inl (List.mem_of_getElem? (i := 14) rfl), (List.forall_mem_cons.2 ⟨.inl (List.mem_of_getElem? (i := 15) rfl), (List.forall_mem_cons.2 ⟨.inl (List.mem_of_getElem? (i := 16) rfl), (List.forall_mem_cons.2 ⟨.inr hDi, (List.forall_mem_cons.2 ⟨.inr (hpost 18 rfl), (List.forall_mem_cons.2 ⟨.inl (List.mem_of_getElem? (i := 17) rfl), (fun _ h => nomatch h)⟩)⟩)⟩)⟩)⟩)⟩)⟩)⟩)⟩)⟩)⟩)⟩)⟩)⟩)⟩)⟩)⟩)⟩)⟩)⟩)) hDi rfl rfl rfl rfl), hI56⟩))))))⟩
        · cases hDi.symm.trans hd17
        · cases hDi.symm.trans hd17
      · intro D r wd71 hR hDi hpre hpost
        rcases hR with ⟨hd14, hd17, hd19, hd20, G67, hG68, hReg70, hI69⟩ | ⟨hd14, hd17, hd19, hd20, g41, G67, hG68, hD46, hReg70, hI69⟩ | ⟨hd14, hd17, hd19, hd20, g62, G67, hG68, hReg70, hI69⟩ | ⟨hd14, hd17, hd19, hd20, g41, A48, c49, G67, hG68, hD46, hl54, hD55, ho53, hReg70, hI69⟩ | ⟨hd14, hd17, hd19, hd20, g41, g62, G67, hG68, hD46, hReg70, hI69⟩ | ⟨hd14, hd17, hd19, hd20, g41, A48, c49, g62, G67, hG68, hD46, hl54, hD55, ho53, hReg70, hI69⟩ | ⟨hd14, hd17, hd19, hd20, g41, A48, c49, g62, G67, hG68, hD46, hl54, hD55, ho53, hReg70, hI69⟩
        · cases (hpre 14 rfl).symm.trans hd14
        · cases (hpre 17 rfl).symm.trans hd17
        · cases (hpre 14 rfl).symm.trans hd14
        · have hH : Has [(31, Value.int .i64 (min 5 (w64 (a1.Before + (Int.tmod (w64 (a7)) 3))))), (38, Value.int .i64 (min 5 (w64 (a1.Behind + (Int.tmod (w64 (a8)) 3))))), (42, Value.slice A48 (([] : List ByteArray) ++ a1.Keep).length c49)] r := ⟨hReg70.get 6 rfl (hpre 6 rfl), hReg70.get 13 rfl (hpre 13 rfl), hReg70.get 17 rfl (hpre 17 rfl), trivial⟩
          obtain ⟨r0, rfl⟩ := hH.ex
          refine q_build (vs := [(0, Value.int .i64 (min 5 (w64 (a1.Before + (Int.tmod (w64 (a7)) 3))))), (1, Value.int .i64 (min 5 (w64 (a1.Behind + (Int.tmod (w64 (a8)) 3))))), (2, Value.slice A48 (([] : List ByteArray) ++ a1.Keep).length c49)]) (cs := [Value.int .i64 (min 5 (w64 (a1.Before + (Int.tmod (w64 (a7)) 3)))), Value.int .i64 (min 5 (w64 (a1.Behind + (Int.tmod (w64 (a8)) 3)))), Value.slice A48 (([] : List ByteArray) ++ a1.Keep).length c49]) ze24 pl24 rfl rfl ?_
          refine wpq_nil ?_
          exact ⟨rfl, (.inr (.inr (.inr (.inl ⟨hd14, hd17, hd19, hd20, g41, A48, c49, _, hG68, hD46, hl54, hD55, ho53, (Regs.step hReg70 hDi rfl rfl rfl rfl), hI69⟩))))⟩
        · cases (hpre 17 rfl).symm.trans hd17
        · have hH : Has [(31, Value.int .i64 (min 5 (w64 (a1.Before + (Int.tmod (w64 (a7)) 3))))), (38, Value.int .i64 (min 5 (w64 (a1.Behind + (Int.tmod (w64 (a8)) 3))))), (42, Value.slice A48 (([] : List ByteArray) ++ a1.Keep).length c49)] r := ⟨hReg70.get 6 rfl (hpre 6 rfl), hReg70.get 13 rfl (hpre 13 rfl), hReg70.get 17 rfl (hpre 17 rfl), trivial⟩
          obtain ⟨r0, rfl⟩ := hH.ex
          refine q_build (vs := [(0, Value.int .i64 (min 5 (w64 (a1.Before + (Int.tmod (w64 (a7)) 3))))), (1, Value.int .i64 (min 5 (w64 (a1.Behind + (Int.tmod (w64 (a8)) 3))))), (2, Value.slice A48 (([] : List ByteArray) ++ a1.Keep).length c49)]) (cs := [Value.int .i64 (min 5 (w64 (a1.Before + (Int.tmod (w64 (a7)) 3)))), Value.int .i64 (min 5 (w64 (a1.Behind + (Int.tmod (w64 (a8)) 3)))), Value.slice A48 (([] : List ByteArray) ++ a1.Keep).length c49]) ze24 pl24 rfl rfl ?_
          refine wpq_nil ?_
          exact ⟨rfl, (.inr (.inr (.inr (.inr (.inr (.inl ⟨hd14, hd17, hd19, hd20, g41, A48, c49, g62, _, hG68, hD46, hl54, hD55, ho53, (Regs.step hReg70 hDi rfl rfl rfl rfl), hI69⟩))))))⟩
        · cases (hpost 20 rfl).symm.trans hd20
      · intro D r wd71 hR hDi hpre hpost
        rcases hR with ⟨hd14, hd17, hd19, hd20, G67, hG68, hReg70, hI69⟩ | ⟨hd14, hd17, hd19, hd20, g41, G67, hG68, hD46, hReg70, hI69⟩ | ⟨hd14, hd17, hd19, hd20, g62, G67, hG68, hReg70, hI69⟩ | ⟨hd14, hd17, hd19, hd20, g41, A48, c49, G67, hG68, hD46, hl54, hD55, ho53, hReg70, hI69⟩ | ⟨hd14, hd17, hd19, hd20, g41, g62, G67, hG68, hD46, hReg70, hI69⟩ | ⟨hd14, hd17, hd19, hd20, g41, A48, c49, g62, G67, hG68, hD46, hl54, hD55, ho53, hReg70, hI69⟩ | ⟨hd14, hd17, hd19, hd20, g41, A48, c49, g62, G67, hG68, hD46, hl54, hD55, ho53, hReg70, hI69⟩
        · have hH : Has [] r := trivial
          obtain ⟨r0, rfl⟩ := hH.ex
          refine q_alloc hI69 ze24 (fun g62 wd63 hI64 => ?_)
          refine wpq_nil ?_
          exact ⟨rfl, (.inr (.inr (.inl ⟨hd14, hd17, rfl, hd20, g62, _, hG68, (Regs.step (Regs.re (vals' := [(0, 25, Value.pointer (some ⟨g13, 0, none⟩)), (1, 26, Value.int .i64 a1.Before), (2, 27, Value.int .u8 a7), (3, 28, Value.int .i64 (w64 (a7))), (4, 29, Value.int .i64 (Int.tmod (w64 (a7)) 3)), (5, 30, Value.int .i64 (w64 (a1.Before + (Int.tmod (w64 (a7)) 3)))), (6, 31, Value.int .i64 (min 5 (w64 (a1.Before + (Int.tmod (w64 (a7)) 3))))), (7, 32, Value.pointer (some ⟨g13, 1, none⟩)), (8, 33, Value.int .i64 a1.Behind), (9, 34, Value.int .u8 a8), (10, 35, Value.int .i64 (w64 (a8))), (11, 36, Value.int .i64 (Int.tmod (w64 (a8)) 3)), (12, 37, Value.int .i64 (w64 (a1.Behind + (Int.tmod (w64 (a8)) 3)))), (13, 38, Value.int .i64 (min 5 (w64 (a1.Behind + (Int.tmod (w64 (a8)) 3))))), (15, 40, Value.pointer (some ⟨g13, 2, none⟩)), (16, 41, Value.slice A2 a1.Keep.length c3), (19, 12, Value.pointer (some ⟨g62, 0, none⟩))]) hReg70 (List.forall_mem_cons.2 ⟨.inl (List.mem_of_getElem? (i := 0) rfl), (List.forall_mem_cons.2 ⟨.inl (List.mem_of_getElem? (i := 1) rfl), (List.forall_mem_cons.2 ⟨.inl (List.mem_of_getElem? (i := 2) rfl), (List.forall_mem_cons.2 ⟨.inl (List.mem_of_getElem? (i := 3) rfl), (List.forall_mem_cons.2 ⟨.inl (List.mem_of_getElem? (i := 4) rfl), (List.forall_mem_cons.2 ⟨.inl (List.mem_of_getElem? (i := 5) rfl), (List.forall_mem_cons.2 ⟨.inl (List.mem_of_getElem? (i := 6) rfl), (List.forall_mem_cons.2 ⟨.inl (List.mem_of_getElem? (i := 7) rfl), (List.forall_mem_cons.2 ⟨.inl (List.mem_of_getElem? (i := 8) rfl), (List.forall_mem_cons.2 ⟨.inl (List.mem_of_getElem? (i := 9) rfl), (List.forall_mem_cons.2 ⟨.inl (List.mem_of_getElem? (i := 10) rfl), (List.forall_mem_cons.2 ⟨.inl (List.mem_of_getElem? (i := 11) rfl), (List.forall_mem_cons.2 ⟨.inl (List.mem_of_getElem? (i := 12) rfl), (List.forall_mem_cons.2 ⟨.inl (List.mem_of_getElem? (i := 13) rfl), (List.forall_mem_cons.2 ⟨.inl (List.mem_of_getElem? (i := 14) rfl), (List.forall_mem_cons.2 ⟨.inl (List.mem_of_getElem? (i := 15) rfl), (List.forall_mem_cons.2 ⟨.inr hDi, (fun _ h => nomatch h)⟩)⟩)⟩)⟩)⟩)⟩)⟩)⟩)⟩)⟩)⟩)⟩)⟩)⟩)⟩)⟩)⟩)) hDi rfl rfl rfl rfl), hI64⟩)))⟩
        · have hH : Has [] r := trivial
          obtain ⟨r0, rfl⟩ := hH.ex
          refine q_alloc hI69 ze24 (fun g62 wd63 hI64 => ?_)
          refine wpq_nil ?_
          exact ⟨rfl, (.inr (.inr (.inr (.inr (.inl ⟨hd14, hd17, rfl, hd20, g41, g62, _, hG68, hD46, (Regs.step (Regs.re (vals' := [(0, 25, Value.pointer (some ⟨g13, 0, none⟩)), (1, 26, Value.int .i64 a1.Before), (2, 27, Value.int .u8 a7), (3, 28, Value.int .i64 (w64 (a7))), (4, 29, Value.int .i64 (Int.tmod (w64 (a7)) 3)), (5, 30, Value.int .i64 (w64 (a1.Before + (Int.tmod (w64 (a7)) 3)))), (6, 31, Value.int .i64 (min 5 (w64 (a1.Before + (Int.tmod (w64 (a7)) 3))))), (7, 32, Value.pointer (some ⟨g13, 1, none⟩)), (8, 33, Value.int .i64 a1.Behind), (9, 34, Value.int .u8 a8), (10, 35, Value.int .i64 (w64 (a8))), (11, 36, Value.int .i64 (Int.tmod (w64 (a8)) 3)), (12, 37, Value.int .i64 (w64 (a1.Behind + (Int.tmod (w64 (a8)) 3)))), (13, 38, Value.int .i64 (min 5 (w64 (a1.Behind + (Int.tmod (w64 (a8)) 3))))), (14, 39, Value.slice (some ⟨g41, 0, none⟩) 0 0), (15, 40, Value.pointer (some ⟨g13, 2, none⟩)), (16, 41, Value.slice A2 a1.Keep.length c3), (19, 12, Value.pointer (some ⟨g62, 0, none⟩))]) hReg70 (List.forall_mem_cons.2 ⟨.inl (List.mem_of_getElem? (i := 0) rfl), (List.forall_mem_cons.2 ⟨.inl (List.mem_of_getElem? (i := 1) rfl), (List.forall_mem_cons.2 ⟨.inl (List.mem_of_getElem? (i := 2) rfl), (List.forall_mem_cons.2 ⟨.inl (List.mem_of_getElem? (i := 3) rfl), (List.forall_mem_cons.2 ⟨.inl (List.mem_of_getElem? (i := 4) rfl), (List.forall_mem_cons.2 ⟨.inl (List.mem_of_getElem? (i := 5) rfl), (List.forall_mem_cons.2 ⟨.inl (List.mem_of_getElem? (i := 6) rfl), (List.forall_mem_cons.2 ⟨.inl (List.mem_of_getElem? (i := 7) rfl), (List.forall_mem_cons.2 ⟨.inl (List.mem_of_getElem? (i := 8) rfl), (List.forall_mem_cons.2 ⟨.inl (List.mem_of_getElem? (i := 9) rfl), (List.forall_mem_cons.2 ⟨.inl (List.mem_of_getElem? (i := 10) rfl), (List.forall_mem_cons.2 ⟨.inl (List.mem_of_getElem? (i := 11) rfl), (List.forall_mem_cons.2 ⟨.inl (List.mem_of_getElem? (i := 12) rfl), (List.forall_mem_cons.2 ⟨.inl (List.mem_of_getElem? (i := 13) rfl), (List.forall_mem_cons.2 ⟨.inl (List.mem_of_getElem? (i := 14) rfl), (List.forall_mem_cons.2 ⟨.inl (List.mem_of_getElem? (i := 15) rfl), (List.forall_mem_cons.2 ⟨.inl (List.mem_of_getElem? (i := 16) rfl), (List.forall_mem_cons.2 ⟨.inr hDi, (fun _ h => nomatch h)⟩)⟩)⟩)⟩)⟩)⟩)⟩)⟩)⟩)⟩)⟩)⟩)⟩)⟩)⟩)⟩)⟩)⟩)) hDi rfl rfl rfl rfl), hI64⟩)))))⟩
        · cases hDi.symm.trans hd19
        · have hH : Has [] r := trivial
          obtain ⟨r0, rfl⟩ := hH.ex
          refine q_alloc hI69 ze24 (fun g62 wd63 hI64 => ?_)
          refine wpq_nil ?_
          exact ⟨rfl, (.inr (.inr (.inr (.inr (.inr (.inl ⟨hd14, hd17, rfl, hd20, g41, A48, c49, g62, _, hG68, hD46, hl54, hD55, ho53, (Regs.step (Regs.re (vals' := [(0, 25, Value.pointer (some ⟨g13, 0, none⟩)), (1, 26, Value.int .i64 a1.Before), (2, 27, Value.int .u8 a7), (3, 28, Value.int .i64 (w64 (a7))), (4, 29, Value.int .i64 (Int.tmod (w64 (a7)) 3)), (5, 30, Value.int .i64 (w64 (a1.Before + (Int.tmod (w64 (a7)) 3)))), (6, 31, Value.int .i64 (min 5 (w64 (a1.Before + (Int.tmod (w64 (a7)) 3))))), (7, 32, Value.pointer (some ⟨g13, 1, none⟩)), (8, 33, Value.int .i64 a1.Behind), (9, 34, Value.int .u8 a8), (10, 35, Value.int .i64 (w64 (a8))), (11, 36, Value.int .i64 (Int.tmod (w64 (a8)) 3)), (12, 37, Value.int .i64 (w64 (a1.Behind + (Int.tmod (w64 (a8)) 3)))), (13, 38, Value.int .i64 (min 5 (w64 (a1.Behind + (Int.tmod (w64 (a8)) 3))))), (14, 39, Value.slice (some ⟨g41, 0, none⟩) 0 0), (15, 40, Value.pointer (some ⟨g13, 2, none⟩)), (16, 41, Value.slice A2 a1.Keep.length c3), (17, 42, Value.slice A48 (([] : List ByteArray) ++ a1.Keep).length c49), (18, 43, Value.agg [Value.int .i64 (min 5 (w64 (a1.Before + (Int.tmod (w64 (a7)) 3)))), Value.int .i64 (min 5 (w64 (a1.Behind + (Int.tmod (w64 (a8)) 3)))), Value.slice A48 (([] : List ByteArray) ++ a1.Keep).length c49].toArray), (19, 12, Value.pointer (some ⟨g62, 0, none⟩))]) hReg70 (List.forall_mem_cons.2 ⟨.inl (List.mem_of_getElem? (i := 0) rfl), (List.forall_mem_cons.2 ⟨.inl (List.mem_of_getElem? (i := 1) rfl), (List.forall_mem_cons.2 ⟨.inl (List.mem_of_getElem? (i := 2) rfl), (List.forall_mem_cons.2 ⟨.inl (List.mem_of_getElem? (i := 3) rfl), (List.forall_mem_cons.2 ⟨.inl (List.mem_of_getElem? (i := 4) rfl), (List.forall_mem_cons.2 ⟨.inl (List.mem_of_getElem? (i := 5) rfl), (List.forall_mem_cons.2 ⟨.inl (List.mem_of_getElem? (i := 6) rfl), (List.forall_mem_cons.2 ⟨.inl (List.mem_of_getElem? (i := 7) rfl), (List.forall_mem_cons.2 ⟨.inl (List.mem_of_getElem? (i := 8) rfl), (List.forall_mem_cons.2 ⟨.inl (List.mem_of_getElem? (i := 9) rfl), (List.forall_mem_cons.2 ⟨.inl (List.mem_of_getElem? (i := 10) rfl), (List.forall_mem_cons.2 ⟨.inl (List.mem_of_getElem? (i := 11) rfl), (List.forall_mem_cons.2 ⟨.inl (List.mem_of_getElem? (i := 12) rfl), (List.forall_mem_cons.2 ⟨.inl (List.mem_of_getElem? (i := 13) rfl), (List.forall_mem_cons.2 ⟨.inl (List.mem_of_getElem? (i := 14) rfl), (List.forall_mem_cons.2 ⟨.inl (List.mem_of_getElem? (i := 15) rfl), (List.forall_mem_cons.2 ⟨.inl (List.mem_of_getElem? (i := 16) rfl), (List.forall_mem_cons.2 ⟨.inl (List.mem_of_getElem? (i := 17) rfl), (List.forall_mem_cons.2 ⟨.inl (List.mem_of_getElem? (i := 18) rfl), (List.forall_mem_cons.2 ⟨.inr hDi, (fun _ h => nomatch h)⟩)⟩)⟩)⟩)⟩)⟩)⟩)⟩)⟩)⟩)⟩)⟩)⟩)⟩)⟩)⟩)⟩)⟩)⟩)⟩)) hDi rfl rfl rfl rfl), hI64⟩))))))⟩
        · cases hDi.symm.trans hd19
        · cases hDi.symm.trans hd19
        · cases hDi.symm.trans hd19
      · intro D r wd71 hR hDi hpre hpost
        rcases hR with ⟨hd14, hd17, hd19, hd20, G67, hG68, hReg70, hI69⟩ | ⟨hd14, hd17, hd19, hd20, g41, G67, hG68, hD46, hReg70, hI69⟩ | ⟨hd14, hd17, hd19, hd20, g62, G67, hG68, hReg70, hI69⟩ | ⟨hd14, hd17, hd19, hd20, g41, A48, c49, G67, hG68, hD46, hl54, hD55, ho53, hReg70, hI69⟩ | ⟨hd14, hd17, hd19, hd20, g41, g62, G67, hG68, hD46, hReg70, hI69⟩ | ⟨hd14, hd17, hd19, hd20, g41, A48, c49, g62, G67, hG68, hD46, hl54, hD55, ho53, hReg70, hI69⟩ | ⟨hd14, hd17, hd19, hd20, g41, A48, c49, g62, G67, hG68, hD46, hl54, hD55, ho53, hReg70, hI69⟩
        · cases (hpre 14 rfl).symm.trans hd14
        · cases (hpre 17 rfl).symm.trans hd17
        · cases (hpre 14 rfl).symm.trans hd14
        · cases (hpre 19 rfl).symm.trans hd19
        · cases (hpre 17 rfl).symm.trans hd17
        · have hH : Has [(12, Value.pointer (some ⟨g62, 0, none⟩)), (43, Value.agg [Value.int .i64 (min 5 (w64 (a1.Before + (Int.tmod (w64 (a7)) 3)))), Value.int .i64 (min 5 (w64 (a1.Behind + (Int.tmod (w64 (a8)) 3)))), Value.slice A48 (([] : List ByteArray) ++ a1.Keep).length c49].toArray)] r := ⟨hReg70.get 19 rfl (hpre 19 rfl), hReg70.get 18 rfl (hpre 18 rfl), trivial⟩
          obtain ⟨r0, rfl⟩ := hH.ex
          refine q_stA hI69 0 (v := Value.agg [Value.int .i64 (min 5 (w64 (a1.Before + (Int.tmod (w64 (a7)) 3)))), Value.int .i64 (min 5 (w64 (a1.Behind + (Int.tmod (w64 (a8)) 3)))), Value.slice A48 (([] : List ByteArray) ++ a1.Keep).length c49].toArray) (cs := [Value.int .i64 (min 5 (w64 (a1.Before + (Int.tmod (w64 (a7)) 3)))), Value.int .i64 (min 5 (w64 (a1.Behind + (Int.tmod (w64 (a8)) 3)))), Value.slice A48 (([] : List ByteArray) ++ a1.Keep).length c49]) (vs' := [Value.int .i64 (min 5 (w64 (a1.Before + (Int.tmod (w64 (a7)) 3)))), Value.int .i64 (min 5 (w64 (a1.Behind + (Int.tmod (w64 (a8)) 3)))), Value.slice A48 (([] : List ByteArray) ++ a1.Keep).length c49]) ag24 rfl rfl rfl rfl rfl rfl (Nat.le_of_ble_eq_true rfl) rfl (fun wd65 hI66 => ?_)
          refine wpq_nil ?_
          exact ⟨rfl, (.inr (.inr (.inr (.inr (.inr (.inr ⟨hd14, hd17, hd19, rfl, g41, A48, c49, g62, _, hG68, hD46, hl54, hD55, ho53, (Regs.stepN (Regs.re (vals' := [(0, 25, Value.pointer (some ⟨g13, 0, none⟩)), (1, 26, Value.int .i64 a1.Before), (2, 27, Value.int .u8 a7), (3, 28, Value.int .i64 (w64 (a7))), (4, 29, Value.int .i64 (Int.tmod (w64 (a7)) 3)), (5, 30, Value.int .i64 (w64 (a1.Before + (Int.tmod (w64 (a7)) 3)))), (6, 31, Value.int .i64 (min 5 (w64 (a1.Before + (Int.tmod (w64 (a7)) 3))))), (7, 32, Value.pointer (some ⟨g13, 1, none⟩)), (8, 33, Value.int .i64 a1.Behind), (9, 34, Value.int .u8 a8), (10, 35, Value.int .i64 (w64 (a8))), (11, 36, Value.int .i64 (Int.tmod (w64 (a8)) 3)), (12, 37, Value.int .i64 (w64 (a1.Behind + (Int.tmod (w64 (a8)) 3)))), (13, 38, Value.int .i64 (min 5 (w64 (a1.Behind + (Int.tmod (w64 (a8)) 3))))), (14, 39, Value.slice (some ⟨g41, 0, none⟩) 0 0), (15, 40, Value.pointer (some ⟨g13, 2, none⟩)), (16, 41, Value.slice A2 a1.Keep.length c3), (17, 42, Value.slice A48 (([] : List ByteArray) ++ a1.Keep).length c49), (18, 43, Value.agg [Value.int .i64 (min 5 (w64 (a1.Before + (Int.tmod (w64 (a7)) 3)))), Value.int .i64 (min 5 (w64 (a1.Behind + (Int.tmod (w64 (a8)) 3)))), Value.slice A48 (([] : List ByteArray) ++ a1.Keep).length c49].toArray), (19, 12, Value.pointer (some ⟨g62, 0, none⟩))]) hReg70 (List.forall_mem_cons.2 ⟨.inl (List.mem_of_getElem? (i := 0) rfl), (List.forall_mem_cons.2 ⟨.inl (List.mem_of_getElem? (i := 1) rfl), (List.forall_mem_cons.2 ⟨.inl (List.mem_of_getElem? (i := 2) rfl), (List.forall_mem_cons.2 ⟨.inl (List.mem_of_getElem? (i := 3) rfl), (List.forall_mem_cons.2 ⟨.inl (List.mem_of_getElem? (i := 4) rfl), (List.forall_mem_cons.2 ⟨.inl (List.mem_of_getElem? (i := 5) rfl), (List.forall_mem_cons.2 ⟨.inl (List.mem_of_getElem? (i := 6) rfl), (List.forall_mem_cons.2 ⟨.inl (List.mem_of_getElem? (i := 7) rfl), (List.forall_mem_cons.2 ⟨.inl (List.mem_of_getElem? (i := 8) rfl), (List.forall_mem_cons.2 ⟨.inl (List.mem_of_getElem? (i := 9) rfl), (List.forall_mem_cons.2 ⟨.inl (List.mem_of_getElem? (i := 10) rfl), (List.forall_mem_cons.2 ⟨.inl (List.mem_of_getElem? (i := 11) rfl), (List.forall_mem_cons.2 ⟨.inl (List.mem_of_getElem? (i := 12) rfl), (List.forall_mem_cons.2 ⟨.inl (List.mem_of_getElem? (i := 13) rfl), (List.forall_mem_cons.2 ⟨.inl (List.mem_of_getElem? (i := 14) rfl), (List.forall_mem_cons.2 ⟨.inl (List.mem_of_getElem? (i := 15) rfl), (List.forall_mem_cons.2 ⟨.inl (List.mem_of_getElem? (i := 16) rfl), (List.forall_mem_cons.2 ⟨.inl (List.mem_of_getElem? (i := 17) rfl), (List.forall_mem_cons.2 ⟨.inl (List.mem_of_getElem? (i := 18) rfl), (List.forall_mem_cons.2 ⟨.inl (List.mem_of_getElem? (i := 19) rfl), (fun _ h => nomatch h)⟩)⟩)⟩)⟩)⟩)⟩)⟩)⟩)⟩)⟩)⟩)⟩)⟩)⟩)⟩)⟩)⟩)⟩)⟩)⟩)) rfl rfl), hI66⟩))))))⟩
        · cases hDi.symm.trans hd20
    · intro D r wd71 hall hR
      rcases hR with ⟨hd14, hd17, hd19, hd20, G67, hG68, hReg70, hI69⟩ | ⟨hd14, hd17, hd19, hd20, g41, G67, hG68, hD46, hReg70, hI69⟩ | ⟨hd14, hd17, hd19, hd20, g62, G67, hG68, hReg70, hI69⟩ | ⟨hd14, hd17, hd19, hd20, g41, A48, c49, G67, hG68, hD46, hl54, hD55, ho53, hReg70, hI69⟩ | ⟨hd14, hd17, hd19, hd20, g41, g62, G67, hG68, hD46, hReg70, hI69⟩ | ⟨hd14, hd17, hd19, hd20, g41, A48, c49, g62, G67, hG68, hD46, hl54, hD55, ho53, hReg70, hI69⟩ | ⟨hd14, hd17, hd19, hd20, g41, A48, c49, g62, G67, hG68, hD46, hl54, hD55, ho53, hReg70, hI69⟩
      · cases (hall 14 (Nat.le_of_ble_eq_true rfl)).symm.trans hd14
      · cases (hall 17 (Nat.le_of_ble_eq_true rfl)).symm.trans hd17
      · cases (hall 14 (Nat.le_of_ble_eq_true rfl)).symm.trans hd14
      · cases (hall 19 (Nat.le_of_ble_eq_true rfl)).symm.trans hd19
      · cases (hall 17 (Nat.le_of_ble_eq_true rfl)).symm.trans hd17
      · cases (hall 20 (Nat.le_of_ble_eq_true rfl)).symm.trans hd20
      · have hH : Has [(1, Value.string a6), (4, Value.string a9), (5, Value.pointer (some ⟨g13, 0, none⟩)), (11, Value.bool y23), (12, Value.pointer (some ⟨g62, 0, none⟩))] r := ⟨hReg70.ins.get 0 rfl, hReg70.ins.get 3 rfl, hReg70.ins.get 4 rfl, hReg70.ins.get 5 rfl, hReg70.get 19 rfl (hall 19 (Nat.le_of_ble_eq_true rfl)), trivial⟩
        obtain ⟨r0, rfl⟩ := hH.ex
        refine hK39 _ _ _ ?_
        refine wpc_seq_k fun K75 hK76 => ?_
        refine wpc_region ?_
        refine q_fa (a' := ⟨g62, 2, none⟩) fl24_2 rfl (add_plain _ _ _) ?_
        refine q_ld hI69 0 (v := Value.slice A48 (([] : List ByteArray) ++ a1.Keep).length c49) ag22 rfl rfl rfl ?_
        refine q_mv (v := Value.string a9) rfl ?_
        refine q_bs hI69 (vs := [(0, Value.string a9)]) (cs := [Value.string a9]) el22 ze9 rfl (by decide) rfl rfl (fun g78 wd79 hI80 => ?_)
        obtain ⟨h90, H⟩ := ite_some H
        refine q_app (xs := ([] : List ByteArray) ++ a1.Keep) (ys := [a9]) Kd.str hI80 2 el22 ze9 rfl rfl rfl rfl ho53 hl54 hD55 (src_bx hI80 0 so22 rfl rfl) ⟨[Value.string a9], _, rfl, rfl, rfl⟩ rfl (by simp only [List.length_cons, List.length_nil]; omega) (by simp only [List.length_cons, List.length_nil]; omega) (fun A81 c82 G83 wd84 hG85 ho86 hl87 hD88 hI89 => ?_)
        refine q_fa (a' := ⟨g62, 2, none⟩) fl24_2 rfl (add_plain _ _ _) ?_
        refine q_stA hI89 1 (v := Value.slice A81 ((([] : List ByteArray) ++ a1.Keep) ++ [a9]).length c82) (cs := [Value.slice A81 ((([] : List ByteArray) ++ a1.Keep) ++ [a9]).length c82]) (vs' := [Value.int .i64 (min 5 (w64 (a1.Before + (Int.tmod (w64 (a7)) 3)))), Value.int .i64 (min 5 (w64 (a1.Behind + (Int.tmod (w64 (a8)) 3)))), Value.slice A81 ((([] : List ByteArray) ++ a1.Keep) ++ [a9]).length c82]) ag22 rfl rfl rfl rfl rfl rfl (Nat.le_of_ble_eq_true rfl) rfl (fun wd91 hI92 => ?_)
        refine wpq_nil ?_
        refine hK76 _ _ _ ?_
        refine wpc_seq_k fun K93 hK94 => ?_
        refine wpc_seq_k fun K95 hK96 => ?_
        refine wpc_region ?_
        refine q_ldA hI92 1 (cs := [Value.int .i64 (min 5 (w64 (a1.Before + (Int.tmod (w64 (a7)) 3)))), Value.int .i64 (min 5 (w64 (a1.Behind + (Int.tmod (w64 (a8)) 3)))), Value.slice A81 ((([] : List ByteArray) ++ a1.Keep) ++ [a9]).length c82]) ag24 rfl rfl rfl rfl ?_
        obtain ⟨y102, hy97, H⟩ := bind_some H
        refine q_cv (vs := [Value.agg [Value.int .i64 (min 5 (w64 (a1.Before + (Int.tmod (w64 (a7)) 3)))), Value.int .i64 (min 5 (w64 (a1.Behind + (Int.tmod (w64 (a8)) 3)))), Value.slice A81 ((([] : List ByteArray) ++ a1.Keep) ++ [a9]).length c82].toArray]) bo13 rfl rfl (formeref08_Valid_spec (a1 := (⟨min 5 (w64 (a1.Before + (Int.tmod (w64 (a7)) 3))), min 5 (w64 (a1.Behind + (Int.tmod (w64 (a8)) 3))), (([] : List ByteArray) ++ a1.Keep) ++ [a9]⟩ : api_Breaks)) hI92 hl87 hD88 hy97) ?_
        rintro _ wd100 ⟨G98, hG99, hI101, rfl⟩
        refine ⟨_, rfl, ?_⟩
        refine q_not rfl ?_
        refine wpq_nil ?_
        refine hK96 _ _ _ ?_
        by_cases h103 : (!y102) = true
        · replace H := ite_yes h103 H
          refine wpc_true (bval_yes h103) ?_
          refine wpc_region ?_
          refine q_fa (a' := ⟨g62, 2, none⟩) fl24_2 rfl (add_plain _ _ _) ?_
          refine q_ld hI101 1 (v := Value.slice A81 ((([] : List ByteArray) ++ a1.Keep) ++ [a9]).length c82) ag22 rfl rfl rfl ?_
          refine q_fa (a' := ⟨g13, 2, none⟩) fl24_2 rfl (add_plain _ _ _) ?_
          refine q_ld hI101 3 (v := Value.slice A2 a1.Keep.length c3) ag22 rfl rfl rfl ?_
          refine q_len so22 rfl ?_
          obtain ⟨⟨h105, h106⟩, H⟩ := ite_some H
          obtain ⟨hn111, hl109, hD110⟩ := Dat.cut (l := 0) (h := (a1.Keep.length : Int)) (Dat.mono hG99 hD88) hl87 (Int.le_refl 0) h105 h106
          refine q_sl (l := 0) (h := (a1.Keep.length : Int)) el22 rfl (.inl ⟨rfl, rfl⟩) (.inr ⟨_, rfl, rfl⟩) hl87 (Int.le_refl 0) h105 h106 ?_
          rw [hn111]
          replace hD110 : Dat Kd.str G98 (if c82 = Int.toNat 0 then A81 else Option.map (fun a => Addr.add a (Int.toNat 0 * 1)) A81) (cutl ((([] : List ByteArray) ++ a1.Keep) ++ [a9]) 0 (a1.Keep.length : Int)) := hD110
          generalize (if c82 = Int.toNat 0 then A81 else Option.map (fun a => Addr.add a (Int.toNat 0 * 1)) A81) = A107 at hD110 ⊢
          generalize c82 - Int.toNat 0 = c108 at hl109 ⊢
          refine q_fa (a' := ⟨g62, 2, none⟩) fl24_2 rfl (add_plain _ _ _) ?_
          refine q_stA hI101 1 (v := Value.slice A107 (cutl ((([] : List ByteArray) ++ a1.Keep) ++ [a9]) 0 (a1.Keep.length : Int)).length c108) (cs := [Value.slice A107 (cutl ((([] : List ByteArray) ++ a1.Keep) ++ [a9]) 0 (a1.Keep.length : Int)).length c108]) (vs' := [Value.int .i64 (min 5 (w64 (a1.Before + (Int.tmod (w64 (a7)) 3)))), Value.int .i64 (min 5 (w64 (a1.Behind + (Int.tmod (w64 (a8)) 3)))), Value.slice A107 (cutl ((([] : List ByteArray) ++ a1.Keep) ++ [a9]) 0 (a1.Keep.length : Int)).length c108]) ag22 rfl rfl rfl rfl rfl rfl (Nat.le_of_ble_eq_true rfl) rfl (fun wd112 hI113 => ?_)
          refine wpq_nil ?_
          refine hK94 _ _ _ ?_
          refine wpc_seq_k fun K114 hK115 => ?_
          refine wpc_region ?_
          refine q_ldA hI113 3 (cs := [Value.int .i64 a1.Before, Value.int .i64 a1.Behind, Value.slice A2 a1.Keep.length c3]) ag24 rfl rfl rfl rfl ?_
          refine q_mv (v := Value.string a6) rfl ?_
          obtain ⟨⟨y121, y128⟩, hy116, H⟩ := bind_some H
          refine q_cv (vs := [Value.agg [Value.int .i64 a1.Before, Value.int .i64 a1.Behind, Value.slice A2 a1.Keep.length c3].toArray, Value.string a6]) bo10 rfl rfl (breaks_List_spec (a1 := a1) (a6 := a6) hI113 hl4 (Dat.mono (Gh.le_trans (Gh.le_trans (Gh.le_trans (Gh.le_trans hG20 hG30) hG68) hG85) hG99) hD5) hy116) ?_
          rintro _ wd119 ⟨A122, c123, G117, hG118, hI120, hl124, hD125, ho126, rfl⟩
          refine ⟨_, rfl, ?_⟩
          refine q_mv (v := Value.tuple [Value.slice A122 y121.length c123, Value.int .i64 y128].toArray) rfl ?_
          refine q_ex (v := Value.slice A122 y121.length c123) rfl rfl ?_
          refine q_ex (v := Value.int .i64 y128) rfl rfl ?_
          refine q_as (v := Value.slice A122 y121.length c123) rfl ?_
          refine q_as (v := Value.int .i64 y128) rfl ?_
          refine wpq_nil ?_
          refine hK115 _ _ _ ?_
          refine wpc_seq_k fun K129 hK130 => ?_
          refine wpc_region ?_
          refine q_ldA hI120 2 (cs := [Value.int .i64 (min 5 (w64 (a1.Before + (Int.tmod (w64 (a7)) 3)))), Value.int .i64 (min 5 (w64 (a1.Behind + (Int.tmod (w64 (a8)) 3)))), Value.slice A107 (cutl ((([] : List ByteArray) ++ a1.Keep) ++ [a9]) 0 (a1.Keep.length : Int)).length c108]) ag24 rfl rfl rfl rfl ?_
          refine q_mv (v := Value.string a6) rfl ?_
          obtain ⟨⟨y136, y143⟩, hy131, H⟩ := bind_some H
          refine q_cv (vs := [Value.agg [Value.int .i64 (min 5 (w64 (a1.Before + (Int.tmod (w64 (a7)) 3)))), Value.int .i64 (min 5 (w64 (a1.Behind + (Int.tmod (w64 (a8)) 3)))), Value.slice A107 (cutl ((([] : List ByteArray) ++ a1.Keep) ++ [a9]) 0 (a1.Keep.length : Int)).length c108].toArray, Value.string a6]) bo10 rfl rfl (breaks_List_spec (a1 := (⟨min 5 (w64 (a1.Before + (Int.tmod (w64 (a7)) 3))), min 5 (w64 (a1.Behind + (Int.tmod (w64 (a8)) 3))), cutl ((([] : List ByteArray) ++ a1.Keep) ++ [a9]) 0 (a1.Keep.length : Int)⟩ : api_Breaks)) (a6 := a6) hI120 hl109 (Dat.mono hG118 hD110) hy131) ?_
          rintro _ wd134 ⟨A137, c138, G132, hG133, hI135, hl139, hD140, ho141, rfl⟩
          refine ⟨_, rfl, ?_⟩
          refine q_mv (v := Value.tuple [Value.slice A137 y136.length c138, Value.int .i64 y143].toArray) rfl ?_
          refine q_ex (v := Value.slice A137 y136.length c138) rfl rfl ?_
          refine q_ex (v := Value.int .i64 y143) rfl rfl ?_
          refine q_as (v := Value.slice A137 y136.length c138) rfl ?_
          refine q_as (v := Value.int .i64 y143) rfl ?_
          refine wpq_nil ?_
          refine hK130 _ _ _ ?_
          refine wpc_seq_k fun K144 hK145 => ?_
          refine wpc_region ?_
          refine q_as (v := Value.int .i64 0) rfl ?_
          refine wpq_nil ?_
          refine hK145 _ _ _ ?_
          refine wpc_seq_k fun K146 hK147 => ?_
          refine wpc_seq_k fun K148 hK149 => ?_
          refine wpc_region ?_
          refine q_as (v := Value.int .i64 0) rfl ?_
          refine wpq_nil ?_
          refine hK149 _ _ _ ?_
          refine wpc_block ?_
          obtain ⟨o172, hC, H⟩ := bind_some H
          refine wpc_mono (Q := fun e r ds w => match (generalizing := false) o172 with | (Sum.inl _) => e = .ret ∧ ∃ (G164 : Gh), ds = [] ∧ G132 ≤ G164 ∧ Has [(10, Value.bool false)] r ∧ Hp G164 (bx g78 [Value.string a9] 9 :: bx g62 [Value.int .i64 (min 5 (w64 (a1.Before + (Int.tmod (w64 (a7)) 3)))), Value.int .i64 (min 5 (w64 (a1.Behind + (Int.tmod (w64 (a8)) 3)))), Value.slice A107 (cutl ((([] : List ByteArray) ++ a1.Keep) ++ [a9]) 0 (a1.Keep.length : Int)).length c108] 24 :: bx g13 [Value.int .i64 a1.Before, Value.int .i64 a1.Behind, Value.slice A2 a1.Keep.length c3] 24 :: tk (Value.slice A137 y136.length c138) 2 37 :: tk (Value.slice A122 y121.length c123) 2 37 :: tk (Value.slice A81 ((([] : List ByteArray) ++ a1.Keep) ++ [a9]).length c82) 1 9 :: L) w ∧ True | (Sum.inr v163) => e = .exit 0 ∧ ∃ (G168 : Gh), ds = [] ∧ G132 ≤ G168 ∧ Has [(11, Value.bool y23), (14, Value.int .i64 y128), (15, Value.slice A137 y136.length c138), (16, Value.int .i64 y143), (17, Value.int .i64 v163)] r ∧ Hp G168 (bx g78 [Value.string a9] 9 :: bx g62 [Value.int .i64 (min 5 (w64 (a1.Before + (Int.tmod (w64 (a7)) 3)))), Value.int .i64 (min 5 (w64 (a1.Behind + (Int.tmod (w64 (a8)) 3)))), Value.slice A107 (cutl ((([] : List ByteArray) ++ a1.Keep) ++ [a9]) 0 (a1.Keep.length : Int)).length c108] 24 :: bx g13 [Value.int .i64 a1.Before, Value.int .i64 a1.Behind, Value.slice A2 a1.Keep.length c3] 24 :: tk (Value.slice A137 y136.length c138) 2 37 :: tk (Value.slice A122 y121.length c123) 2 37 :: tk (Value.slice A81 ((([] : List ByteArray) ++ a1.Keep) ++ [a9]).length c82) 1 9 :: L) w ∧ True) ?_ ?_
          · clear H
            have hI244 := Hp.front hI135 4 rfl
            have hI245 := Hp.front hI244 2 rfl
            have hI246 := Hp.front hI245 2 rfl
            have hI247 := Hp.front hI246 5 rfl
            have hI248 := Hp.front hI247 5 rfl
            have hI249 := Hp.front hI248 5 rfl
            refine wpc_loop fun I hLp => ?_
            refine formelaw08_BreaksStricter_l162.partial_correctness y121 y136 (fun v154 v155 o => ∀ (G173 : Gh) (r : Rg) (w : World), G132 ≤ G173 → Has [(11, Value.bool y23), (13, Value.slice A122 y121.length c123), (14, Value.int .i64 y128), (15, Value.slice A137 y136.length c138), (16, Value.int .i64 y143), (17, Value.int .i64 v154), (18, Value.int .i64 v155)] r → Hp G173 (bx g78 [Value.string a9] 9 :: bx g62 [Value.int .i64 (min 5 (w64 (a1.Before + (Int.tmod (w64 (a7)) 3)))), Value.int .i64 (min 5 (w64 (a1.Behind + (Int.tmod (w64 (a8)) 3)))), Value.slice A107 (cutl ((([] : List ByteArray) ++ a1.Keep) ++ [a9]) 0 (a1.Keep.length : Int)).length c108] 24 :: bx g13 [Value.int .i64 a1.Before, Value.int .i64 a1.Behind, Value.slice A2 a1.Keep.length c3] 24 :: tk (Value.slice A137 y136.length c138) 2 37 :: tk (Value.slice A122 y121.length c123) 2 37 :: tk (Value.slice A81 ((([] : List ByteArray) ++ a1.Keep) ++ [a9]).length c82) 1 9 :: L) w → o = o172 → I r [] w) ?_ 0 0 _ hC _ _ _ (Gh.le_refl _) ⟨rfl, rfl, rfl, rfl, rfl, rfl, rfl, trivial⟩ hI249 rfl
            intro _ ih v154 v155 o H G173 r wd175 hG174 hHas hI176 ho
            rw [ho] at H; clear ho
            rw [hHas.eq]; clear hHas
            refine hLp _ _ _ ?_
            refine wpc_seq_k fun K177 hK178 => ?_
            refine wpc_seq_k fun K179 hK180 => ?_
            refine wpc_region ?_
            refine q_mv (v := Value.int .i64 v155) rfl ?_
            refine q_mv (v := Value.slice A122 y121.length c123) rfl ?_
            refine q_len so26 rfl ?_
            refine q_lss rfl rfl ?_
            refine wpq_nil ?_
            refine hK180 _ _ _ ?_
            by_cases h181 : v155 < (y121.length : Int)
            · replace H := ite_yes h181 H
              refine wpc_true (bool_yes h181) ?_
              refine wpc_skip ?_
              refine hK178 _ _ _ ?_
              refine wpc_seq_k fun K182 hK183 => ?_
              obtain ⟨o193, hC, H⟩ := bind_some H
              refine wpc_mono (Q := fun e r ds w => match (generalizing := false) o193 with | (Sum.inl _) => e = .ret ∧ ∃ (G185 : Gh), ds = [] ∧ G173 ≤ G185 ∧ Has [(10, Value.bool false)] r ∧ Hp G185 (bx g78 [Value.string a9] 9 :: bx g62 [Value.int .i64 (min 5 (w64 (a1.Before + (Int.tmod (w64 (a7)) 3)))), Value.int .i64 (min 5 (w64 (a1.Behind + (Int.tmod (w64 (a8)) 3)))), Value.slice A107 (cutl ((([] : List ByteArray) ++ a1.Keep) ++ [a9]) 0 (a1.Keep.length : Int)).length c108] 24 :: bx g13 [Value.int .i64 a1.Before, Value.int .i64 a1.Behind, Value.slice A2 a1.Keep.length c3] 24 :: tk (Value.slice A137 y136.length c138) 2 37 :: tk (Value.slice A122 y121.length c123) 2 37 :: tk (Value.slice A81 ((([] : List ByteArray) ++ a1.Keep) ++ [a9]).length c82) 1 9 :: L) w ∧ True | (Sum.inr v184) => e = .normal ∧ ∃ (G189 : Gh), ds = [] ∧ G173 ≤ G189 ∧ Has [(11, Value.bool y23), (13, Value.slice A122 y121.length c123), (14, Value.int .i64 y128), (15, Value.slice A137 y136.length c138), (16, Value.int .i64 y143), (17, Value.int .i64 v184), (18, Value.int .i64 v155)] r ∧ Hp G189 (bx g78 [Value.string a9] 9 :: bx g62 [Value.int .i64 (min 5 (w64 (a1.Before + (Int.tmod (w64 (a7)) 3)))), Value.int .i64 (min 5 (w64 (a1.Behind + (Int.tmod (w64 (a8)) 3)))), Value.slice A107 (cutl ((([] : List ByteArray) ++ a1.Keep) ++ [a9]) 0 (a1.Keep.length : Int)).length c108] 24 :: bx g13 [Value.int .i64 a1.Before, Value.int .i64 a1.Behind, Value.slice A2 a1.Keep.length c3] 24 :: tk (Value.slice A137 y136.length c138) 2 37 :: tk (Value.slice A122 y121.length c123) 2 37 :: tk (Value.slice A81 ((([] : List ByteArray) ++ a1.Keep) ++ [a9]).length c82) 1 9 :: L) w ∧ True) ?_ ?_
              · replace H := hC
                refine wpc_block ?_
                refine wpc_seq_k fun K194 hK195 => ?_
                refine wpc_seq_k fun K196 hK197 => ?_
                obtain ⟨v198, hC, H⟩ := bind_some H
                refine wpc_mono (Q := fun e r ds w => e = .normal ∧ ∃ (G199 : Gh), ds = [] ∧ G173 ≤ G199 ∧ Has [(11, Value.bool y23), (13, Value.slice A122 y121.length c123), (14, Value.int .i64 y128), (15, Value.slice A137 y136.length c138), (16, Value.int .i64 y143), (17, Value.int .i64 v154), (18, Value.int .i64 v155), (92, Value.bool v198)] r ∧ Hp G199 (bx g78 [Value.string a9] 9 :: bx g62 [Value.int .i64 (min 5 (w64 (a1.Before + (Int.tmod (w64 (a7)) 3)))), Value.int .i64 (min 5 (w64 (a1.Behind + (Int.tmod (w64 (a8)) 3)))), Value.slice A107 (cutl ((([] : List ByteArray) ++ a1.Keep) ++ [a9]) 0 (a1.Keep.length : Int)).length c108] 24 :: bx g13 [Value.int .i64 a1.Before, Value.int .i64 a1.Behind, Value.slice A2 a1.Keep.length c3] 24 :: tk (Value.slice A137 y136.length c138) 2 37 :: tk (Value.slice A122 y121.length c123) 2 37 :: tk (Value.slice A81 ((([] : List ByteArray) ++ a1.Keep) ++ [a9]).length c82) 1 9 :: L) w ∧ True) ?_ ?_
                · replace H := hC
                  by_cases h204 : v154 < (y136.length : Int)
                  · replace H := ite_yes h204 H
                    obtain ⟨⟨h205, h205'⟩, H⟩ := ite_some H
                    obtain ⟨ad206, cs207, hA208, hK209, hn210, hc211⟩ := Dat.get (Dat.mono hG174 hD140) z_api_Break (v154) h205 h205'
                    obtain ⟨rfl⟩ := open_api_Break hK209
                    obtain ⟨⟨h212, h212'⟩, H⟩ := ite_some H
                    obtain ⟨ad213, cs214, hA215, hK216, hn217, hc218⟩ := Dat.get (Dat.mono (Gh.le_trans hG133 hG174) hD125) z_api_Break (v155) h212 h212'
                    obtain ⟨rfl⟩ := open_api_Break hK216
                    refine wpc_drawL [0, 0, 2, 7, 15, 31, 31, 127, 255, 31, 31, 1567, 3615, 8191, 16383] (fun D r w => (∃ (G' : Gh), G173 ≤ G' ∧ Regs [(11, Value.bool y23), (13, Value.slice A122 y121.length c123), (14, Value.int .i64 y128), (15, Value.slice A137 y136.length c138), (16, Value.int .i64 y143), (17, Value.int .i64 v154), (18, Value.int .i64 v155)] [] [(0, 78, Value.int .i64 v154), (1, 79, Value.slice A137 y136.length c138), (2, 80, Value.int .i64 (y136.length : Int)), (3, 81, Value.bool (decide (v154 < (y136.length : Int)))), (4, 82, Value.bool (decide (v154 < (y136.length : Int)))), (5, 83, Value.slice A137 y136.length c138), (6, 84, Value.int .i64 v154), (7, 85, Value.pointer (some (ad206.add (Int.toNat v154 * 2)))), (8, 86, Value.agg [Value.int .i64 ((y136.getD (Int.toNat v154) z_api_Break).At), Value.bool ((y136.getD (Int.toNat v154) z_api_Break).Hyphen)].toArray), (9, 87, Value.slice A122 y121.length c123), (10, 88, Value.int .i64 v155), (11, 89, Value.pointer (some (ad213.add (Int.toNat v155 * 2)))), (12, 90, Value.agg [Value.int .i64 ((y121.getD (Int.toNat v155) z_api_Break).At), Value.bool ((y121.getD (Int.toNat v155) z_api_Break).Hyphen)].toArray), (13, 91, Value.bool (decide ((y136.getD (Int.toNat v154) z_api_Break) = (y121.getD (Int.toNat v155) z_api_Break)))), (14, 92, Value.bool (decide ((y136.getD (Int.toNat v154) z_api_Break) = (y121.getD (Int.toNat v155) z_api_Break))))] D r ∧ Hp G' (bx g78 [Value.string a9] 9 :: bx g62 [Value.int .i64 (min 5 (w64 (a1.Before + (Int.tmod (w64 (a7)) 3)))), Value.int .i64 (min 5 (w64 (a1.Behind + (Int.tmod (w64 (a8)) 3)))), Value.slice A107 (cutl ((([] : List ByteArray) ++ a1.Keep) ++ [a9]) 0 (a1.Keep.length : Int)).length c108] 24 :: bx g13 [Value.int .i64 a1.Before, Value.int .i64 a1.Behind, Value.slice A2 a1.Keep.length c3] 24 :: tk (Value.slice A137 y136.length c138) 2 37 :: tk (Value.slice A122 y121.length c123) 2 37 :: tk (Value.slice A81 ((([] : List ByteArray) ++ a1.Keep) ++ [a9]).length c82) 1 9 :: L) w)) mixo rfl rfl ?_ ?_ ?_
                    · exact ⟨_, Gh.le_refl _, Regs.start ⟨rfl, rfl, rfl, rfl, rfl, rfl, rfl, trivial⟩ trivial, hI176.drew⟩
                    · refine ⟨?_, ?_, ?_, ?_, ?_, ?_, ?_, ?_, ?_, ?_, ?_, ?_, ?_, ?_, ?_, trivial⟩
                      · intro D r wd223 hR hDi hpre hpost
                        obtain ⟨G219, hG220, hReg222, hI221⟩ := hR
                        have hH : Has [(17, Value.int .i64 v154)] r := ⟨hReg222.ins.get 5 rfl, trivial⟩
                        obtain ⟨r0, rfl⟩ := hH.ex
                        refine q_mv (v := Value.int .i64 v154) rfl ?_
                        refine wpq_nil ?_
                        exact ⟨rfl, ⟨_, hG220, (Regs.step hReg222 hDi rfl rfl rfl rfl), hI221⟩⟩
                      · intro D r wd223 hR hDi hpre hpost
                        obtain ⟨G219, hG220, hReg222, hI221⟩ := hR
                        have hH : Has [(15, Value.slice A137 y136.length c138)] r := ⟨hReg222.ins.get 3 rfl, trivial⟩
                        obtain ⟨r0, rfl⟩ := hH.ex
                        refine q_mv (v := Value.slice A137 y136.length c138) rfl ?_
                        refine wpq_nil ?_
                        exact ⟨rfl, ⟨_, hG220, (Regs.step hReg222 hDi rfl rfl rfl rfl), hI221⟩⟩
                      · intro D r wd223 hR hDi hpre hpost
                        obtain ⟨G219, hG220, hReg222, hI221⟩ := hR
                        have hH : Has [(79, Value.slice A137 y136.length c138)] r := ⟨hReg222.get 1 rfl (hpre 1 rfl), trivial⟩
                        obtain ⟨r0, rfl⟩ := hH.ex
                        refine q_len so26 rfl ?_
                        refine wpq_nil ?_
                        exact ⟨rfl, ⟨_, hG220, (Regs.step hReg222 hDi rfl rfl rfl rfl), hI221⟩⟩
                      · intro D r wd223 hR hDi hpre hpost
                        obtain ⟨G219, hG220, hReg222, hI221⟩ := hR
                        have hH : Has [(78, Value.int .i64 v154), (80, Value.int .i64 (y136.length : Int))] r := ⟨hReg222.get 0 rfl (hpre 0 rfl), hReg222.get 2 rfl (hpre 2 rfl), trivial⟩
                        obtain ⟨r0, rfl⟩ := hH.ex
                        refine q_lss rfl rfl ?_
                        refine wpq_nil ?_
                        exact ⟨rfl, ⟨_, hG220, (Regs.step hReg222 hDi rfl rfl rfl rfl), hI221⟩⟩
                      · intro D r wd223 hR hDi hpre hpost
                        obtain ⟨G219, hG220, hReg222, hI221⟩ := hR
                        have hH : Has [(81, Value.bool (decide (v154 < (y136.length : Int))))] r := ⟨hReg222.get 3 rfl (hpre 3 rfl), trivial⟩
                        obtain ⟨r0, rfl⟩ := hH.ex
                        refine q_mv (v := Value.bool (decide (v154 < (y136.length : Int)))) rfl ?_
                        refine wpq_nil ?_
                        exact ⟨rfl, ⟨_, hG220, (Regs.step hReg222 hDi rfl rfl rfl rfl), hI221⟩⟩
                      · intro D r wd223 hR hDi hpre hpost
                        obtain ⟨G219, hG220, hReg222, hI221⟩ := hR
                        have hH : Has [(15, Value.slice A137 y136.length c138), (82, Value.bool (decide (v154 < (y136.length : Int))))] r := ⟨hReg222.ins.get 3 rfl, hReg222.get 4 rfl (hpre 4 rfl), trivial⟩
                        obtain ⟨r0, rfl⟩ := hH.ex
                        refine q_mv (v := Value.slice A137 y136.length c138) rfl ?_ (hw := guard_yes rfl rfl rfl (bool_yes h204))
                        refine wpq_nil ?_
                        exact ⟨rfl, ⟨_, hG220, (Regs.step hReg222 hDi rfl rfl rfl rfl), hI221⟩⟩
                      · intro D r wd223 hR hDi hpre hpost
                        obtain ⟨G219, hG220, hReg222, hI221⟩ := hR
                        have hH : Has [(17, Value.int .i64 v154), (82, Value.bool (decide (v154 < (y136.length : Int))))] r := ⟨hReg222.ins.get 5 rfl, hReg222.get 4 rfl (hpre 4 rfl), trivial⟩
                        obtain ⟨r0, rfl⟩ := hH.ex
                        refine q_mv (v := Value.int .i64 v154) rfl ?_ (hw := guard_yes rfl rfl rfl (bool_yes h204))
                        refine wpq_nil ?_
                        exact ⟨rfl, ⟨_, hG220, (Regs.step hReg222 hDi rfl rfl rfl rfl), hI221⟩⟩
                      · intro D r wd223 hR hDi hpre hpost
                        obtain ⟨G219, hG220, hReg222, hI221⟩ := hR
                        have hH : Has [(82, Value.bool (decide (v154 < (y136.length : Int)))), (83, Value.slice A137 y136.length c138), (84, Value.int .i64 v154)] r := ⟨hReg222.get 4 rfl (hpre 4 rfl), hReg222.get 5 rfl (hpre 5 rfl), hReg222.get 6 rfl (hpre 6 rfl), trivial⟩
                        obtain ⟨r0, rfl⟩ := hH.ex
                        refine q_ia el26 rfl hA208 rfl h205 h205' ?_ (hw := guard_yes rfl rfl rfl (bool_yes h204))
                        refine wpq_nil ?_
                        exact ⟨rfl, ⟨_, hG220, (Regs.step hReg222 hDi rfl rfl rfl rfl), hI221⟩⟩
                      · intro D r wd223 hR hDi hpre hpost
                        obtain ⟨G219, hG220, hReg222, hI221⟩ := hR
                        have hH : Has [(82, Value.bool (decide (v154 < (y136.length : Int)))), (85, Value.pointer (some (ad206.add (Int.toNat v154 * 2))))] r := ⟨hReg222.get 4 rfl (hpre 4 rfl), hReg222.get 7 rfl (hpre 7 rfl), trivial⟩
                        obtain ⟨r0, rfl⟩ := hH.ex
                        refine q_lfA hI221 ag37 rfl (cs := [Value.int .i64 ((y136.getD (Int.toNat v154) z_api_Break).At), Value.bool ((y136.getD (Int.toNat v154) z_api_Break).Hyphen)]) rfl (fun j v hv => hG220.cel _ _ (hc211 j v hv)) ?_ (hw := guard_yes rfl rfl rfl (bool_yes h204))
                        refine wpq_nil ?_
                        exact ⟨rfl, ⟨_, hG220, (Regs.step hReg222 hDi rfl rfl rfl rfl), hI221⟩⟩
                      · intro D r wd223 hR hDi hpre hpost
                        obtain ⟨G219, hG220, hReg222, hI221⟩ := hR
                        have hH : Has [(13, Value.slice A122 y121.length c123), (82, Value.bool (decide (v154 < (y136.length : Int))))] r := ⟨hReg222.ins.get 1 rfl, hReg222.get 4 rfl (hpre 4 rfl), trivial⟩
                        obtain ⟨r0, rfl⟩ := hH.ex
                        refine q_mv (v := Value.slice A122 y121.length c123) rfl ?_ (hw := guard_yes rfl rfl rfl (bool_yes h204))
                        refine wpq_nil ?_
                        exact ⟨rfl, ⟨_, hG220, (Regs.step hReg222 hDi rfl rfl rfl rfl), hI221⟩⟩
                      · intro D r wd223 hR hDi hpre hpost
                        obtain ⟨G219, hG220, hReg222, hI221⟩ := hR
                        have hH : Has [(18, Value.int .i64 v155), (82, Value.bool (decide (v154 < (y136.length : Int))))] r := ⟨hReg222.ins.get 6 rfl, hReg222.get 4 rfl (hpre 4 rfl), trivial⟩
                        obtain ⟨r0, rfl⟩ := hH.ex
                        refine q_mv (v := Value.int .i64 v155) rfl ?_ (hw := guard_yes rfl rfl rfl (bool_yes h204))
                        refine wpq_nil ?_
                        exact ⟨rfl, ⟨_, hG220, (Regs.step hReg222 hDi rfl rfl rfl rfl), hI221⟩⟩
                      · intro D r wd223 hR hDi hpre hpost
                        obtain ⟨G219, hG220, hReg222, hI221⟩ := hR
                        have hH : Has [(82, Value.bool (decide (v154 < (y136.length : Int)))), (87, Value.slice A122 y121.length c123), (88, Value.int .i64 v155)] r := ⟨hReg222.get 4 rfl (hpre 4 rfl), hReg222.get 9 rfl (hpre 9 rfl), hReg222.get 10 rfl (hpre 10 rfl), trivial⟩
                        obtain ⟨r0, rfl⟩ := hH.ex
                        refine q_ia el26 rfl hA215 rfl h212 h212' ?_ (hw := guard_yes rfl rfl rfl (bool_yes h204))
                        refine wpq_nil ?_
                        exact ⟨rfl, ⟨_, hG220, (Regs.step hReg222 hDi rfl rfl rfl rfl), hI221⟩⟩
                      · intro D r wd223 hR hDi hpre hpost
                        obtain ⟨G219, hG220, hReg222, hI221⟩ := hR
                        have hH : Has [(82, Value.bool (decide (v154 < (y136.length : Int)))), (89, Value.pointer (some (ad213.add (Int.toNat v155 * 2))))] r := ⟨hReg222.get 4 rfl (hpre 4 rfl), hReg222.get 11 rfl (hpre 11 rfl), trivial⟩
                        obtain ⟨r0, rfl⟩ := hH.ex
                        refine q_lfA hI221 ag37 rfl (cs := [Value.int .i64 ((y121.getD (Int.toNat v155) z_api_Break).At), Value.bool ((y121.getD (Int.toNat v155) z_api_Break).Hyphen)]) rfl (fun j v hv => hG220.cel _ _ (hc218 j v hv)) ?_ (hw := guard_yes rfl rfl rfl (bool_yes h204))
                        refine wpq_nil ?_
                        exact ⟨rfl, ⟨_, hG220, (Regs.step hReg222 hDi rfl rfl rfl rfl), hI221⟩⟩
                      · intro D r wd223 hR hDi hpre hpost
                        obtain ⟨G219, hG220, hReg222, hI221⟩ := hR
                        have hH : Has [(82, Value.bool (decide (v154 < (y136.length : Int)))), (86, Value.agg [Value.int .i64 ((y136.getD (Int.toNat v154) z_api_Break).At), Value.bool ((y136.getD (Int.toNat v154) z_api_Break).Hyphen)].toArray), (90, Value.agg [Value.int .i64 ((y121.getD (Int.toNat v155) z_api_Break).At), Value.bool ((y121.getD (Int.toNat v155) z_api_Break).Hyphen)].toArray)] r := ⟨hReg222.get 4 rfl (hpre 4 rfl), hReg222.get 8 rfl (hpre 8 rfl), hReg222.get 12 rfl (hpre 12 rfl), trivial⟩
                        obtain ⟨r0, rfl⟩ := hH.ex
                        refine q_st_eql (q := (y136.getD (Int.toNat v154) z_api_Break) = (y121.getD (Int.toNat v155) z_api_Break)) rfl rfl eqg_api_Break (eqs_api_Break (y136.getD (Int.toNat v154) z_api_Break) (y121.getD (Int.toNat v155) z_api_Break)) (eqd_api_Break _ _) ?_ (hw := guard_yes rfl rfl rfl (bool_yes h204))
                        refine wpq_nil ?_
                        exact ⟨rfl, ⟨_, hG220, (Regs.step hReg222 hDi rfl rfl rfl rfl), hI221⟩⟩
                      · intro D r wd223 hR hDi hpre hpost
                        obtain ⟨G219, hG220, hReg222, hI221⟩ := hR
                        have hH : Has [(82, Value.bool (decide (v154 < (y136.length : Int)))), (91, Value.bool (decide ((y136.getD (Int.toNat v154) z_api_Break) = (y121.getD (Int.toNat v155) z_api_Break))))] r := ⟨hReg222.get 4 rfl (hpre 4 rfl), hReg222.get 13 rfl (hpre 13 rfl), trivial⟩
                        obtain ⟨r0, rfl⟩ := hH.ex
                        refine q_pick true (v := Value.bool (decide ((y136.getD (Int.toNat v154) z_api_Break) = (y121.getD (Int.toNat v155) z_api_Break)))) (bool_yes h204) rfl ?_
                        refine wpq_nil ?_
                        exact ⟨rfl, ⟨_, hG220, (Regs.step hReg222 hDi rfl rfl rfl rfl), hI221⟩⟩
                    · intro D r wd223 hall hR
                      obtain ⟨G219, hG220, hReg222, hI221⟩ := hR
                      have hH : Has [(11, Value.bool y23), (13, Value.slice A122 y121.length c123), (14, Value.int .i64 y128), (15, Value.slice A137 y136.length c138), (16, Value.int .i64 y143), (17, Value.int .i64 v154), (18, Value.int .i64 v155), (83, Value.slice A137 y136.length c138), (84, Value.int .i64 v154), (85, Value.pointer (some (ad206.add (Int.toNat v154 * 2)))), (86, Value.agg [Value.int .i64 ((y136.getD (Int.toNat v154) z_api_Break).At), Value.bool ((y136.getD (Int.toNat v154) z_api_Break).Hyphen)].toArray), (87, Value.slice A122 y121.length c123), (88, Value.int .i64 v155), (89, Value.pointer (some (ad213.add (Int.toNat v155 * 2)))), (90, Value.agg [Value.int .i64 ((y121.getD (Int.toNat v155) z_api_Break).At), Value.bool ((y121.getD (Int.toNat v155) z_api_Break).Hyphen)].toArray), (91, Value.bool (decide ((y136.getD (Int.toNat v154) z_api_Break) = (y121.getD (Int.toNat v155) z_api_Break)))), (92, Value.bool (decide ((y136.getD (Int.toNat v154) z_api_Break) = (y121.getD (Int.toNat v155) z_api_Break))))] r := ⟨hReg222.ins.get 0 rfl, hReg222.ins.get 1 rfl, hReg222.ins.get 2 rfl, hReg222.ins.get 3 rfl, hReg222.ins.get 4 rfl, hReg222.ins.get 5 rfl, hReg222.ins.get 6 rfl, hReg222.get 5 rfl (hall 5 (Nat.le_of_ble_eq_true rfl)), hReg222.get 6 rfl (hall 6 (Nat.le_of_ble_eq_true rfl)), hReg222.get 7 rfl (hall 7 (Nat.le_of_ble_eq_true rfl)), hReg222.get 8 rfl (hall 8 (Nat.le_of_ble_eq_true rfl)), hReg222.get 9 rfl (hall 9 (Nat.le_of_ble_eq_true rfl)), hReg222.get 10 rfl (hall 10 (Nat.le_of_ble_eq_true rfl)), hReg222.get 11 rfl (hall 11 (Nat.le_of_ble_eq_true rfl)), hReg222.get 12 rfl (hall 12 (Nat.le_of_ble_eq_true rfl)), hReg222.get 13 rfl (hall 13 (Nat.le_of_ble_eq_true rfl)), hReg222.get 14 rfl (hall 14 (Nat.le_of_ble_eq_true rfl)), trivial⟩
                      obtain ⟨r0, rfl⟩ := hH.ex
                      cases H
                      exact ⟨rfl, _, rfl, hG220, ⟨rfl, rfl, rfl, rfl, rfl, rfl, rfl, rfl, trivial⟩, hI221, trivial⟩
                  · replace H := ite_no h204 H
                    refine wpc_drawL [0, 0, 2, 7, 15, 31, 31, 127, 255, 31, 31, 1567, 3615, 8191, 16383] (fun D r w => (∃ (G' : Gh), G173 ≤ G' ∧ Regs [(11, Value.bool y23), (13, Value.slice A122 y121.length c123), (14, Value.int .i64 y128), (15, Value.slice A137 y136.length c138), (16, Value.int .i64 y143), (17, Value.int .i64 v154), (18, Value.int .i64 v155)] [] [(0, 78, Value.int .i64 v154), (1, 79, Value.slice A137 y136.length c138), (2, 80, Value.int .i64 (y136.length : Int)), (3, 81, Value.bool (decide (v154 < (y136.length : Int)))), (4, 82, Value.bool (decide (v154 < (y136.length : Int)))), (5, 83, undef), (6, 84, undef), (7, 85, undef), (8, 86, undef), (9, 87, undef), (10, 88, undef), (11, 89, undef), (12, 90, undef), (13, 91, undef), (14, 92, Value.bool false)] D r ∧ Hp G' (bx g78 [Value.string a9] 9 :: bx g62 [Value.int .i64 (min 5 (w64 (a1.Before + (Int.tmod (w64 (a7)) 3)))), Value.int .i64 (min 5 (w64 (a1.Behind + (Int.tmod (w64 (a8)) 3)))), Value.slice A107 (cutl ((([] : List ByteArray) ++ a1.Keep) ++ [a9]) 0 (a1.Keep.length : Int)).length c108] 24 :: bx g13 [Value.int .i64 a1.Before, Value.int .i64 a1.Behind, Value.slice A2 a1.Keep.length c3] 24 :: tk (Value.slice A137 y136.length c138) 2 37 :: tk (Value.slice A122 y121.length c123) 2 37 :: tk (Value.slice A81 ((([] : List ByteArray) ++ a1.Keep) ++ [a9]).length c82) 1 9 :: L) w)) mixo rfl rfl ?_ ?_ ?_
                    · exact ⟨_, Gh.le_refl _, Regs.start ⟨rfl, rfl, rfl, rfl, rfl, rfl, rfl, trivial⟩ trivial, hI176.drew⟩
                    · refine ⟨?_, ?_, ?_, ?_, ?_, ?_, ?_, ?_, ?_, ?_, ?_, ?_, ?_, ?_, ?_, trivial⟩
                      · intro D r wd228 hR hDi hpre hpost
                        obtain ⟨G224, hG225, hReg227, hI226⟩ := hR
                        have hH : Has [(17, Value.int .i64 v154)] r := ⟨hReg227.ins.get 5 rfl, trivial⟩
                        obtain ⟨r0, rfl⟩ := hH.ex
                        refine q_mv (v := Value.int .i64 v154) rfl ?_
                        refine wpq_nil ?_
                        exact ⟨rfl, ⟨_, hG225, (Regs.step hReg227 hDi rfl rfl rfl rfl), hI226⟩⟩
                      · intro D r wd228 hR hDi hpre hpost
                        obtain ⟨G224, hG225, hReg227, hI226⟩ := hR
                        have hH : Has [(15, Value.slice A137 y136.length c138)] r := ⟨hReg227.ins.get 3 rfl, trivial⟩
                        obtain ⟨r0, rfl⟩ := hH.ex
                        refine q_mv (v := Value.slice A137 y136.length c138) rfl ?_
                        refine wpq_nil ?_
                        exact ⟨rfl, ⟨_, hG225, (Regs.step hReg227 hDi rfl rfl rfl rfl), hI226⟩⟩
                      · intro D r wd228 hR hDi hpre hpost
                        obtain ⟨G224, hG225, hReg227, hI226⟩ := hR
                        have hH : Has [(79, Value.slice A137 y136.length c138)] r := ⟨hReg227.get 1 rfl (hpre 1 rfl), trivial⟩
                        obtain ⟨r0, rfl⟩ := hH.ex
                        refine q_len so26 rfl ?_
                        refine wpq_nil ?_
                        exact ⟨rfl, ⟨_, hG225, (Regs.step hReg227 hDi rfl rfl rfl rfl), hI226⟩⟩
                      · intro D r wd228 hR hDi hpre hpost
                        obtain ⟨G224, hG225, hReg227, hI226⟩ := hR
                        have hH : Has [(78, Value.int .i64 v154), (80, Value.int .i64 (y136.length : Int))] r := ⟨hReg227.get 0 rfl (hpre 0 rfl), hReg227.get 2 rfl (hpre 2 rfl), trivial⟩
                        obtain ⟨r0, rfl⟩ := hH.ex
                        refine q_lss rfl rfl ?_
                        refine wpq_nil ?_
                        exact ⟨rfl, ⟨_, hG225, (Regs.step hReg227 hDi rfl rfl rfl rfl), hI226⟩⟩
                      · intro D r wd228 hR hDi hpre hpost
                        obtain ⟨G224, hG225, hReg227, hI226⟩ := hR
                        have hH : Has [(81, Value.bool (decide (v154 < (y136.length : Int))))] r := ⟨hReg227.get 3 rfl (hpre 3 rfl), trivial⟩
                        obtain ⟨r0, rfl⟩ := hH.ex
                        refine q_mv (v := Value.bool (decide (v154 < (y136.length : Int)))) rfl ?_
                        refine wpq_nil ?_
                        exact ⟨rfl, ⟨_, hG225, (Regs.step hReg227 hDi rfl rfl rfl rfl), hI226⟩⟩
                      · intro D r wd228 hR hDi hpre hpost
                        obtain ⟨G224, hG225, hReg227, hI226⟩ := hR
                        have hH : Has [(82, Value.bool (decide (v154 < (y136.length : Int))))] r := ⟨hReg227.get 4 rfl (hpre 4 rfl), trivial⟩
                        obtain ⟨r0, rfl⟩ := hH.ex
                        refine wpq_no (guard_no rfl rfl rfl (bool_no h204) rfl) ?_
                        refine wpq_nil ?_
                        exact ⟨rfl, ⟨_, hG225, (Regs.step hReg227 hDi rfl rfl rfl rfl), hI226⟩⟩
                      · intro D r wd228 hR hDi hpre hpost
                        obtain ⟨G224, hG225, hReg227, hI226⟩ := hR
                        have hH : Has [(82, Value.bool (decide (v154 < (y136.length : Int))))] r := ⟨hReg227.get 4 rfl (hpre 4 rfl), trivial⟩
                        obtain ⟨r0, rfl⟩ := hH.ex
                        refine wpq_no (guard_no rfl rfl rfl (bool_no h204) rfl) ?_
                        refine wpq_nil ?_
                        exact ⟨rfl, ⟨_, hG225, (Regs.step hReg227 hDi rfl rfl rfl rfl), hI226⟩⟩
                      · intro D r wd228 hR hDi hpre hpost
                        obtain ⟨G224, hG225, hReg227, hI226⟩ := hR
                        have hH : Has [(82, Value.bool (decide (v154 < (y136.length : Int))))] r := ⟨hReg227.get 4 rfl (hpre 4 rfl), trivial⟩
                        obtain ⟨r0, rfl⟩ := hH.ex
                        refine wpq_no (guard_no rfl rfl rfl (bool_no h204) rfl) ?_
                        refine wpq_nil ?_
                        exact ⟨rfl, ⟨_, hG225, (Regs.step hReg227 hDi rfl rfl rfl rfl), hI226⟩⟩
                      · intro D r wd228 hR hDi hpre hpost
                        obtain ⟨G224, hG225, hReg227, hI226⟩ := hR
                        have hH : Has [(82, Value.bool (decide (v154 < (y136.length : Int))))] r := ⟨hReg227.get 4 rfl (hpre 4 rfl), trivial⟩
                        obtain ⟨r0, rfl⟩ := hH.ex
                        refine wpq_no (guard_no rfl rfl rfl (bool_no h204) rfl) ?_
                        refine wpq_nil ?_
                        exact ⟨rfl, ⟨_, hG225, (Regs.step hReg227 hDi rfl rfl rfl rfl), hI226⟩⟩
                      · intro D r wd228 hR hDi hpre hpost
                        obtain ⟨G224, hG225, hReg227, hI226⟩ := hR
                        have hH : Has [(82, Value.bool (decide (v154 < (y136.length : Int))))] r := ⟨hReg227.get 4 rfl (hpre 4 rfl), trivial⟩
                        obtain ⟨r0, rfl⟩ := hH.ex
                        refine wpq_no (guard_no rfl rfl rfl (bool_no h204) rfl) ?_
                        refine wpq_nil ?_
                        exact ⟨rfl, ⟨_, hG225, (Regs.step hReg227 hDi rfl rfl rfl rfl), hI226⟩⟩
                      · intro D r wd228 hR hDi hpre hpost
                        obtain ⟨G224, hG225, hReg227, hI226⟩ := hR
                        have hH : Has [(82, Value.bool (decide (v154 < (y136.length : Int))))] r := ⟨hReg227.get 4 rfl (hpre 4 rfl), trivial⟩
                        obtain ⟨r0, rfl⟩ := hH.ex
                        refine wpq_no (guard_no rfl rfl rfl (bool_no h204) rfl) ?_
                        refine wpq_nil ?_
                        exact ⟨rfl, ⟨_, hG225, (Regs.step hReg227 hDi rfl rfl rfl rfl), hI226⟩⟩
                      · intro D r wd228 hR hDi hpre hpost
                        obtain ⟨G224, hG225, hReg227, hI226⟩ := hR
                        have hH : Has [(82, Value.bool (decide (v154 < (y136.length : Int))))] r := ⟨hReg227.get 4 rfl (hpre 4 rfl), trivial⟩
                        obtain ⟨r0, rfl⟩ := hH.ex
                        refine wpq_no (guard_no rfl rfl rfl (bool_no h204) rfl) ?_
                        refine wpq_nil ?_
                        exact ⟨rfl, ⟨_, hG225, (Regs.step hReg227 hDi rfl rfl rfl rfl), hI226⟩⟩
                      · intro D r wd228 hR hDi hpre hpost
                        obtain ⟨G224, hG225, hReg227, hI226⟩ := hR
                        have hH : Has [(82, Value.bool (decide (v154 < (y136.length : Int))))] r := ⟨hReg227.get 4 rfl (hpre 4 rfl), trivial⟩
                        obtain ⟨r0, rfl⟩ := hH.ex
                        refine wpq_no (guard_no rfl rfl rfl (bool_no h204) rfl) ?_
                        refine wpq_nil ?_
                        exact ⟨rfl, ⟨_, hG225, (Regs.step hReg227 hDi rfl rfl rfl rfl), hI226⟩⟩
                      · intro D r wd228 hR hDi hpre hpost
                        obtain ⟨G224, hG225, hReg227, hI226⟩ := hR
                        have hH : Has [(82, Value.bool (decide (v154 < (y136.length : Int))))] r := ⟨hReg227.get 4 rfl (hpre 4 rfl), trivial⟩
                        obtain ⟨r0, rfl⟩ := hH.ex
                        refine wpq_no (guard_no rfl rfl rfl (bool_no h204) rfl) ?_
                        refine wpq_nil ?_
                        exact ⟨rfl, ⟨_, hG225, (Regs.step hReg227 hDi rfl rfl rfl rfl), hI226⟩⟩
                      · intro D r wd228 hR hDi hpre hpost
                        obtain ⟨G224, hG225, hReg227, hI226⟩ := hR
                        have hH : Has [(82, Value.bool (decide (v154 < (y136.length : Int)))), (91, undef)] r := ⟨hReg227.get 4 rfl (hpre 4 rfl), hReg227.get 13 rfl (hpre 13 rfl), trivial⟩
                        obtain ⟨r0, rfl⟩ := hH.ex
                        refine q_pick false (v := Value.bool false) (bool_no h204) rfl ?_
                        refine wpq_nil ?_
                        exact ⟨rfl, ⟨_, hG225, (Regs.step hReg227 hDi rfl rfl rfl rfl), hI226⟩⟩
                    · intro D r wd228 hall hR
                      obtain ⟨G224, hG225, hReg227, hI226⟩ := hR
                      have hH : Has [(11, Value.bool y23), (13, Value.slice A122 y121.length c123), (14, Value.int .i64 y128), (15, Value.slice A137 y136.length c138), (16, Value.int .i64 y143), (17, Value.int .i64 v154), (18, Value.int .i64 v155), (92, Value.bool false)] r := ⟨hReg227.ins.get 0 rfl, hReg227.ins.get 1 rfl, hReg227.ins.get 2 rfl, hReg227.ins.get 3 rfl, hReg227.ins.get 4 rfl, hReg227.ins.get 5 rfl, hReg227.ins.get 6 rfl, hReg227.get 14 rfl (hall 14 (Nat.le_of_ble_eq_true rfl)), trivial⟩
                      obtain ⟨r0, rfl⟩ := hH.ex
                      cases H
                      exact ⟨rfl, _, rfl, hG225, ⟨rfl, rfl, rfl, rfl, rfl, rfl, rfl, rfl, trivial⟩, hI226, trivial⟩
                · clear hC
                  rintro e r ds wd201 ⟨rfl, G199, rfl, hG200, hHas, hI202, _⟩
                  rw [hHas.eq]; clear hHas
                  refine hK197 _ _ _ ?_
                  by_cases h229 : v198 = true
                  · replace H := ite_yes h229 H
                    refine wpc_true (bval_yes h229) ?_
                    refine wpc_seq_k fun K230 hK231 => ?_
                    refine wpc_region ?_
                    refine q_mv (v := Value.int .i64 v154) rfl ?_
                    refine q_add rfl rfl ?_
                    refine q_as (v := Value.int .i64 (w64 (v154 + 1))) rfl ?_
                    refine wpq_nil ?_
                    refine hK231 _ _ _ ?_
                    refine wpc_exit ?_
                    cases H
                    exact ⟨rfl, _, rfl, hG200, ⟨rfl, rfl, rfl, rfl, rfl, rfl, rfl, trivial⟩, hI202, trivial⟩
                  · replace H := ite_no h229 H
                    refine wpc_false (bval_no h229) ?_
                    refine wpc_skip ?_
                    refine hK195 _ _ _ ?_
                    refine wpc_seq_k fun K232 hK233 => ?_
                    refine wpc_region ?_
                    refine q_mv (v := Value.slice A122 y121.length c123) rfl ?_
                    refine q_mv (v := Value.int .i64 v155) rfl ?_
                    obtain ⟨⟨h234, h234'⟩, H⟩ := ite_some H
                    obtain ⟨ad235, cs236, hA237, hK238, hn239, hc240⟩ := Dat.get (Dat.mono (Gh.le_trans (Gh.le_trans hG133 hG174) hG200) hD125) z_api_Break (v155) h234 h234'
                    obtain ⟨rfl⟩ := open_api_Break hK238
                    refine q_ia el26 rfl hA237 rfl h234 h234' ?_
                    refine q_fa (a' := (ad235.add (Int.toNat v155 * 2)).add 1) fl37_1 rfl rfl ?_
                    refine q_lf hI202 (v := Value.bool ((y121.getD (Int.toNat v155) z_api_Break).Hyphen)) ag4 rfl ((Gh.le_refl _).cel _ _ (hc240 1 _ rfl)) ?_
                    refine q_not rfl ?_
                    refine wpq_nil ?_
                    refine hK233 _ _ _ ?_
                    by_cases h241 : (!((y121.getD (Int.toNat v155) z_api_Break).Hyphen)) = true
                    · replace H := ite_yes h241 H
                      refine wpc_true (bval_yes h241) ?_
                      refine wpc_seq_k fun K242 hK243 => ?_
                      refine wpc_region ?_
                      refine q_as (v := Value.bool false) rfl ?_
                      refine wpq_nil ?_
                      refine hK243 _ _ _ ?_
                      refine wpc_ret ?_
                      cases H
                      exact ⟨rfl, _, rfl, hG200, ⟨rfl, trivial⟩, hI202, trivial⟩
                    · replace H := ite_no h241 H
                      refine wpc_false (bval_no h241) ?_
                      refine wpc_skip ?_
                      cases H
                      exact ⟨rfl, _, rfl, hG200, ⟨rfl, rfl, rfl, rfl, rfl, rfl, rfl, trivial⟩, hI202, trivial⟩
              · clear hC
                rcases o193 with _ | v184
                · rintro e r ds wd187 ⟨rfl, G185, rfl, hG186, hHas, hI188, _⟩
                  rw [hHas.eq]; clear hHas
                  cases H
                  exact ⟨rfl, _, rfl, (Gh.le_trans hG174 hG186), ⟨rfl, trivial⟩, hI188, trivial⟩
                · rintro e r ds wd191 ⟨rfl, G189, rfl, hG190, hHas, hI192, _⟩
                  rw [hHas.eq]; clear hHas
                  refine hK183 _ _ _ ?_
                  refine wpc_region ?_
                  refine q_mv (v := Value.int .i64 v155) rfl ?_
                  refine q_add rfl rfl ?_
                  refine q_as (v := Value.int .i64 (w64 (v155 + 1))) rfl ?_
                  refine wpq_nil ?_
                  exact ih _ _ _ H _ _ _ (Gh.le_trans hG174 hG190) ⟨rfl, rfl, rfl, rfl, rfl, rfl, rfl, trivial⟩ hI192 rfl
            · replace H := ite_no h181 H
              refine wpc_false (bool_no h181) ?_
              refine wpc_exit ?_
              cases H
              exact ⟨rfl, _, rfl, hG174, ⟨rfl, rfl, rfl, rfl, rfl, trivial⟩, hI176, trivial⟩
          · clear hC
            rcases o172 with _ | v163
            · rintro e r ds wd166 ⟨rfl, G164, rfl, hG165, hHas, hI167, _⟩
              rw [hHas.eq]; clear hHas
              have hI250 := Hp.sub (L := bx g78 [Value.string a9] 9 :: bx g62 [Value.int .i64 (min 5 (w64 (a1.Before + (Int.tmod (w64 (a7)) 3)))), Value.int .i64 (min 5 (w64 (a1.Behind + (Int.tmod (w64 (a8)) 3)))), Value.slice A107 (cutl ((([] : List ByteArray) ++ a1.Keep) ++ [a9]) 0 (a1.Keep.length : Int)).length c108] 24 :: bx g13 [Value.int .i64 a1.Before, Value.int .i64 a1.Behind, Value.slice A2 a1.Keep.length c3] 24 :: tk (Value.slice A137 y136.length c138) 2 37 :: tk (Value.slice A122 y121.length c123) 2 37 :: tk (Value.slice A81 ((([] : List ByteArray) ++ a1.Keep) ++ [a9]).length c82) 1 9 :: L) (L' := L) hI167 (List.Sublist.cons _ (List.Sublist.cons _ (List.Sublist.cons _ (List.Sublist.cons _ (List.Sublist.cons _ (List.Sublist.cons _ (List.Sublist.refl _)))))))
              cases H
              exact ⟨.inr rfl, rfl, _, ⟨_, _, rfl, rfl, rfl⟩, _, (Gh.le_trans (Gh.le_trans (Gh.le_trans (Gh.le_trans (Gh.le_trans (Gh.le_trans (Gh.le_trans hG20 hG30) hG68) hG85) hG99) hG118) hG133) hG165), hI250, rfl⟩
            · rintro e r ds wd170 ⟨rfl, G168, rfl, hG169, hHas, hI171, _⟩
              rw [hHas.eq]; clear hHas
              refine hK147 _ _ _ ?_
              refine wpc_seq_k fun K251 hK252 => ?_
              refine wpc_region ?_
              refine q_mv (v := Value.bool y23) rfl ?_
              refine q_mv (v := Value.bool y23) rfl ?_
              obtain ⟨v253, hC, H⟩ := bind_some H
              refine wpq_split 3 (K := fun e r ds w => e = .normal ∧ ∃ (G254 : Gh), ds = [] ∧ G168 ≤ G254 ∧ Has [(15, Value.slice A137 y136.length c138), (16, Value.int .i64 y143), (17, Value.int .i64 v163), (105, Value.bool v253)] r ∧ Hp G254 (bx g78 [Value.string a9] 9 :: bx g62 [Value.int .i64 (min 5 (w64 (a1.Before + (Int.tmod (w64 (a7)) 3)))), Value.int .i64 (min 5 (w64 (a1.Behind + (Int.tmod (w64 (a8)) 3)))), Value.slice A107 (cutl ((([] : List ByteArray) ++ a1.Keep) ++ [a9]) 0 (a1.Keep.length : Int)).length c108] 24 :: bx g13 [Value.int .i64 a1.Before, Value.int .i64 a1.Behind, Value.slice A2 a1.Keep.length c3] 24 :: tk (Value.slice A137 y136.length c138) 2 37 :: tk (Value.slice A122 y121.length c123) 2 37 :: tk (Value.slice A81 ((([] : List ByteArray) ++ a1.Keep) ++ [a9]).length c82) 1 9 :: L) w ∧ True) ?_ ?_
              · replace H := hC
                by_cases h259 : y23 = true
                · replace H := ite_yes h259 H
                  refine q_mv (v := Value.int .i64 y128) rfl ?_ (hw := guard_yes rfl rfl rfl (bval_yes h259))
                  refine q_eql rfl rfl ?_ (hw := guard_yes rfl rfl rfl (bval_yes h259))
                  refine q_pick true (v := Value.bool (decide (y128 = 0))) (bval_yes h259) rfl ?_
                  refine wpq_nil ?_
                  cases H
                  exact ⟨rfl, _, rfl, (Gh.le_refl _), ⟨rfl, rfl, rfl, rfl, trivial⟩, hI171, trivial⟩
                · replace H := ite_no h259 H
                  refine wpq_no (guard_no rfl rfl rfl (bval_no h259) rfl) ?_
                  refine wpq_no (guard_no rfl rfl rfl (bval_no h259) rfl) ?_
                  refine q_pick false (v := Value.bool false) (bval_no h259) rfl ?_
                  refine wpq_nil ?_
                  cases H
                  exact ⟨rfl, _, rfl, (Gh.le_refl _), ⟨rfl, rfl, rfl, rfl, trivial⟩, hI171, trivial⟩
              · clear hC
                rintro e r ds wd256 ⟨rfl, G254, rfl, hG255, hHas, hI257, _⟩
                rw [hHas.eq]; clear hHas
                refine q_mv (v := Value.bool v253) rfl ?_
                obtain ⟨v260, hC, H⟩ := bind_some H
                refine wpq_split 3 (K := fun e r ds w => e = .normal ∧ ∃ (G261 : Gh), ds = [] ∧ G254 ≤ G261 ∧ Has [(15, Value.slice A137 y136.length c138), (17, Value.int .i64 v163), (109, Value.bool v260)] r ∧ Hp G261 (bx g78 [Value.string a9] 9 :: bx g62 [Value.int .i64 (min 5 (w64 (a1.Before + (Int.tmod (w64 (a7)) 3)))), Value.int .i64 (min 5 (w64 (a1.Behind + (Int.tmod (w64 (a8)) 3)))), Value.slice A107 (cutl ((([] : List ByteArray) ++ a1.Keep) ++ [a9]) 0 (a1.Keep.length : Int)).length c108] 24 :: bx g13 [Value.int .i64 a1.Before, Value.int .i64 a1.Behind, Value.slice A2 a1.Keep.length c3] 24 :: tk (Value.slice A137 y136.length c138) 2 37 :: tk (Value.slice A122 y121.length c123) 2 37 :: tk (Value.slice A81 ((([] : List ByteArray) ++ a1.Keep) ++ [a9]).length c82) 1 9 :: L) w ∧ True) ?_ ?_
                · replace H := hC
                  by_cases h266 : v253 = true
                  · replace H := ite_yes h266 H
                    refine q_mv (v := Value.int .i64 y143) rfl ?_ (hw := guard_yes rfl rfl rfl (bval_yes h266))
                    refine q_eql rfl rfl ?_ (hw := guard_yes rfl rfl rfl (bval_yes h266))
                    refine q_pick true (v := Value.bool (decide (y143 = 0))) (bval_yes h266) rfl ?_
                    refine wpq_nil ?_
                    cases H
                    exact ⟨rfl, _, rfl, (Gh.le_refl _), ⟨rfl, rfl, rfl, trivial⟩, hI257, trivial⟩
                  · replace H := ite_no h266 H
                    refine wpq_no (guard_no rfl rfl rfl (bval_no h266) rfl) ?_
                    refine wpq_no (guard_no rfl rfl rfl (bval_no h266) rfl) ?_
                    refine q_pick false (v := Value.bool false) (bval_no h266) rfl ?_
                    refine wpq_nil ?_
                    cases H
                    exact ⟨rfl, _, rfl, (Gh.le_refl _), ⟨rfl, rfl, rfl, trivial⟩, hI257, trivial⟩
                · clear hC
                  rintro e r ds wd263 ⟨rfl, G261, rfl, hG262, hHas, hI264, _⟩
                  rw [hHas.eq]; clear hHas
                  refine q_mv (v := Value.bool v260) rfl ?_
                  obtain ⟨v267, hC, H⟩ := bind_some H
                  refine wpq_split 5 (K := fun e r ds w => e = .normal ∧ ∃ (G268 : Gh), ds = [] ∧ G261 ≤ G268 ∧ Has [(115, Value.bool v267)] r ∧ Hp G268 (bx g78 [Value.string a9] 9 :: bx g62 [Value.int .i64 (min 5 (w64 (a1.Before + (Int.tmod (w64 (a7)) 3)))), Value.int .i64 (min 5 (w64 (a1.Behind + (Int.tmod (w64 (a8)) 3)))), Value.slice A107 (cutl ((([] : List ByteArray) ++ a1.Keep) ++ [a9]) 0 (a1.Keep.length : Int)).length c108] 24 :: bx g13 [Value.int .i64 a1.Before, Value.int .i64 a1.Behind, Value.slice A2 a1.Keep.length c3] 24 :: tk (Value.slice A137 y136.length c138) 2 37 :: tk (Value.slice A122 y121.length c123) 2 37 :: tk (Value.slice A81 ((([] : List ByteArray) ++ a1.Keep) ++ [a9]).length c82) 1 9 :: L) w ∧ True) ?_ ?_
                  · replace H := hC
                    by_cases h273 : v260 = true
                    · replace H := ite_yes h273 H
                      refine q_mv (v := Value.int .i64 v163) rfl ?_ (hw := guard_yes rfl rfl rfl (bval_yes h273))
                      refine q_mv (v := Value.slice A137 y136.length c138) rfl ?_ (hw := guard_yes rfl rfl rfl (bval_yes h273))
                      refine q_len so26 rfl ?_ (hw := guard_yes rfl rfl rfl (bval_yes h273))
                      refine q_eql rfl rfl ?_ (hw := guard_yes rfl rfl rfl (bval_yes h273))
                      refine q_pick true (v := Value.bool (decide (v163 = (y136.length : Int)))) (bval_yes h273) rfl ?_
                      refine wpq_nil ?_
                      cases H
                      exact ⟨rfl, _, rfl, (Gh.le_refl _), ⟨rfl, trivial⟩, hI264, trivial⟩
                    · replace H := ite_no h273 H
                      refine wpq_no (guard_no rfl rfl rfl (bval_no h273) rfl) ?_
                      refine wpq_no (guard_no rfl rfl rfl (bval_no h273) rfl) ?_
                      refine wpq_no (guard_no rfl rfl rfl (bval_no h273) rfl) ?_
                      refine wpq_no (guard_no rfl rfl rfl (bval_no h273) rfl) ?_
                      refine q_pick false (v := Value.bool false) (bval_no h273) rfl ?_
                      refine wpq_nil ?_
                      cases H
                      exact ⟨rfl, _, rfl, (Gh.le_refl _), ⟨rfl, trivial⟩, hI264, trivial⟩
                  · clear hC
                    rintro e r ds wd270 ⟨rfl, G268, rfl, hG269, hHas, hI271, _⟩
                    rw [hHas.eq]; clear hHas
                    refine q_as (v := Value.bool v267) rfl ?_
                    refine wpq_nil ?_
                    refine hK252 _ _ _ ?_
                    refine wpc_ret ?_
                    have hI274 := Hp.sub (L := bx g78 [Value.string a9] 9 :: bx g62 [Value.int .i64 (min 5 (w64 (a1.Before + (Int.tmod (w64 (a7)) 3)))), Value.int .i64 (min 5 (w64 (a1.Behind + (Int.tmod (w64 (a8)) 3)))), Value.slice A107 (cutl ((([] : List ByteArray) ++ a1.Keep) ++ [a9]) 0 (a1.Keep.length : Int)).length c108] 24 :: bx g13 [Value.int .i64 a1.Before, Value.int .i64 a1.Behind, Value.slice A2 a1.Keep.length c3] 24 :: tk (Value.slice A137 y136.length c138) 2 37 :: tk (Value.slice A122 y121.length c123) 2 37 :: tk (Value.slice A81 ((([] : List ByteArray) ++ a1.Keep) ++ [a9]).length c82) 1 9 :: L) (L' := L) hI271 (List.Sublist.cons _ (List.Sublist.cons _ (List.Sublist.cons _ (List.Sublist.cons _ (List.Sublist.cons _ (List.Sublist.cons _ (List.Sublist.refl _)))))))
                    cases H
                    exact ⟨.inr rfl, rfl, _, ⟨_, _, rfl, rfl, rfl⟩, _, (Gh.le_trans (Gh.le_trans (Gh.le_trans (Gh.le_trans (Gh.le_trans (Gh.le_trans (Gh.le_trans (Gh.le_trans (Gh.le_trans (Gh.le_trans hG20 hG30) hG68) hG85) hG99) hG118) hG133) hG169) hG255) hG262) hG269), hI274, rfl⟩
        · replace H := ite_no h103 H
          refine wpc_false (bval_no h103) ?_
          refine wpc_skip ?_
          refine hK94 _ _ _ ?_
          refine wpc_seq_k fun K275 hK276 => ?_
          refine wpc_region ?_
          refine q_ldA hI101 3 (cs := [Value.int .i64 a1.Before, Value.int .i64 a1.Behind, Value.slice A2 a1.Keep.length c3]) ag24 rfl rfl rfl rfl ?_
          refine q_mv (v := Value.string a6) rfl ?_
          obtain ⟨⟨y282, y289⟩, hy277, H⟩ := bind_some H
          refine q_cv (vs := [Value.agg [Value.int .i64 a1.Before, Value.int .i64 a1.Behind, Value.slice A2 a1.Keep.length c3].toArray, Value.string a6]) bo10 rfl rfl (breaks_List_spec (a1 := a1) (a6 := a6) hI101 hl4 (Dat.mono (Gh.le_trans (Gh.le_trans (Gh.le_trans (Gh.le_trans hG20 hG30) hG68) hG85) hG99) hD5) hy277) ?_
          rintro _ wd280 ⟨A283, c284, G278, hG279, hI281, hl285, hD286, ho287, rfl⟩
          refine ⟨_, rfl, ?_⟩
          refine q_mv (v := Value.tuple [Value.slice A283 y282.length c284, Value.int .i64 y289].toArray) rfl ?_
          refine q_ex (v := Value.slice A283 y282.length c284) rfl rfl ?_
          refine q_ex (v := Value.int .i64 y289) rfl rfl ?_
          refine q_as (v := Value.slice A283 y282.length c284) rfl ?_
          refine q_as (v := Value.int .i64 y289) rfl ?_
          refine wpq_nil ?_
          refine hK276 _ _ _ ?_
          refine wpc_seq_k fun K290 hK291 => ?_
          refine wpc_region ?_
          refine q_ldA hI281 2 (cs := [Value.int .i64 (min 5 (w64 (a1.Before + (Int.tmod (w64 (a7)) 3)))), Value.int .i64 (min 5 (w64 (a1.Behind + (Int.tmod (w64 (a8)) 3)))), Value.slice A81 ((([] : List ByteArray) ++ a1.Keep) ++ [a9]).length c82]) ag24 rfl rfl rfl rfl ?_
          refine q_mv (v := Value.string a6) rfl ?_
          obtain ⟨⟨y297, y304⟩, hy292, H⟩ := bind_some H
          refine q_cv (vs := [Value.agg [Value.int .i64 (min 5 (w64 (a1.Before + (Int.tmod (w64 (a7)) 3)))), Value.int .i64 (min 5 (w64 (a1.Behind + (Int.tmod (w64 (a8)) 3)))), Value.slice A81 ((([] : List ByteArray) ++ a1.Keep) ++ [a9]).length c82].toArray, Value.string a6]) bo10 rfl rfl (breaks_List_spec (a1 := (⟨min 5 (w64 (a1.Before + (Int.tmod (w64 (a7)) 3))), min 5 (w64 (a1.Behind + (Int.tmod (w64 (a8)) 3))), (([] : List ByteArray) ++ a1.Keep) ++ [a9]⟩ : api_Breaks)) (a6 := a6) hI281 hl87 (Dat.mono (Gh.le_trans hG99 hG279) hD88) hy292) ?_
          rintro _ wd295 ⟨A298, c299, G293, hG294, hI296, hl300, hD301, ho302, rfl⟩
          refine ⟨_, rfl, ?_⟩
          refine q_mv (v := Value.tuple [Value.slice A298 y297.length c299, Value.int .i64 y304].toArray) rfl ?_
          refine q_ex (v := Value.slice A298 y297.length c299) rfl rfl ?_
          refine q_ex (v := Value.int .i64 y304) rfl rfl ?_
          refine q_as (v := Value.slice A298 y297.length c299) rfl ?_
          refine q_as (v := Value.int .i64 y304) rfl ?_
          refine wpq_nil ?_
          refine hK291 _ _ _ ?_
          refine wpc_seq_k fun K305 hK306 => ?_
          refine wpc_region ?_
          refine q_as (v := Value.int .i64 0) rfl ?_
          refine wpq_nil ?_
          refine hK306 _ _ _ ?_
          refine wpc_seq_k fun K307 hK308 => ?_
          refine wpc_seq_k fun K309 hK310 => ?_
          refine wpc_region ?_
          refine q_as (v := Value.int .i64 0) rfl ?_
          refine wpq_nil ?_
          refine hK310 _ _ _ ?_
          refine wpc_block ?_
          obtain ⟨o333, hC, H⟩ := bind_some H
          refine wpc_mono (Q := fun e r ds w => match (generalizing := false) o333 with | (Sum.inl _) => e = .ret ∧ ∃ (G325 : Gh), ds = [] ∧ G293 ≤ G325 ∧ Has [(10, Value.bool false)] r ∧ Hp G325 (bx g78 [Value.string a9] 9 :: bx g62 [Value.int .i64 (min 5 (w64 (a1.Before + (Int.tmod (w64 (a7)) 3)))), Value.int .i64 (min 5 (w64 (a1.Behind + (Int.tmod (w64 (a8)) 3)))), Value.slice A81 ((([] : List ByteArray) ++ a1.Keep) ++ [a9]).length c82] 24 :: bx g13 [Value.int .i64 a1.Before, Value.int .i64 a1.Behind, Value.slice A2 a1.Keep.length c3] 24 :: tk (Value.slice A298 y297.length c299) 2 37 :: tk (Value.slice A283 y282.length c284) 2 37 :: tk (Value.slice A81 ((([] : List ByteArray) ++ a1.Keep) ++ [a9]).length c82) 1 9 :: L) w ∧ True | (Sum.inr v324) => e = .exit 0 ∧ ∃ (G329 : Gh), ds = [] ∧ G293 ≤ G329 ∧ Has [(11, Value.bool y23), (14, Value.int .i64 y289), (15, Value.slice A298 y297.length c299), (16, Value.int .i64 y304), (17, Value.int .i64 v324)] r ∧ Hp G329 (bx g78 [Value.string a9] 9 :: bx g62 [Value.int .i64 (min 5 (w64 (a1.Before + (Int.tmod (w64 (a7)) 3)))), Value.int .i64 (min 5 (w64 (a1.Behind + (Int.tmod (w64 (a8)) 3)))), Value.slice A81 ((([] : List ByteArray) ++ a1.Keep) ++ [a9]).length c82] 24 :: bx g13 [Value.int .i64 a1.Before, Value.int .i64 a1.Behind, Value.slice A2 a1.Keep.length c3] 24 :: tk (Value.slice A298 y297.length c299) 2 37 :: tk (Value.slice A283 y282.length c284) 2 37 :: tk (Value.slice A81 ((([] : List ByteArray) ++ a1.Keep) ++ [a9]).length c82) 1 9 :: L) w ∧ True) ?_ ?_
          · clear H
            have hI405 := Hp.front hI296 4 rfl
            have hI406 := Hp.front hI405 2 rfl
            have hI407 := Hp.front hI406 2 rfl
            have hI408 := Hp.front hI407 5 rfl
            have hI409 := Hp.front hI408 5 rfl
            have hI410 := Hp.front hI409 5 rfl
            refine wpc_loop fun I hLp => ?_
            refine formelaw08_BreaksStricter_l323.partial_correctness y282 y297 (fun v315 v316 o => ∀ (G334 : Gh) (r : Rg) (w : World), G293 ≤ G334 → Has [(11, Value.bool y23), (13, Value.slice A283 y282.length c284), (14, Value.int .i64 y289), (15, Value.slice A298 y297.length c299), (16, Value.int .i64 y304), (17, Value.int .i64 v315), (18, Value.int .i64 v316)] r → Hp G334 (bx g78 [Value.string a9] 9 :: bx g62 [Value.int .i64 (min 5 (w64 (a1.Before + (Int.tmod (w64 (a7)) 3)))), Value.int .i64 (min 5 (w64 (a1.Behind + (Int.tmod (w64 (a8)) 3)))), Value.slice A81 ((([] : List ByteArray) ++ a1.Keep) ++ [a9]).length c82] 24 :: bx g13 [Value.int .i64 a1.Before, Value.int .i64 a1.Behind, Value.slice A2 a1.Keep.length c3] 24 :: tk (Value.slice A298 y297.length c299) 2 37 :: tk (Value.slice A283 y282.length c284) 2 37 :: tk (Value.slice A81 ((([] : List ByteArray) ++ a1.Keep) ++ [a9]).length c82) 1 9 :: L) w → o = o333 → I r [] w) ?_ 0 0 _ hC _ _ _ (Gh.le_refl _) ⟨rfl, rfl, rfl, rfl, rfl, rfl, rfl, trivial⟩ hI410 rfl
            intro _ ih v315 v316 o H G334 r wd336 hG335 hHas hI337 ho
            rw [ho] at H; clear ho
            rw [hHas.eq]; clear hHas
            refine hLp _ _ _ ?_
            refine wpc_seq_k fun K338 hK339 => ?_
            refine wpc_seq_k fun K340 hK341 => ?_
            refine wpc_region ?_
            refine q_mv (v := Value.int .i64 v316) rfl ?_
            refine q_mv (v := Value.slice A283 y282.length c284) rfl ?_
            refine q_len so26 rfl ?_
            refine q_lss rfl rfl ?_
            refine wpq_nil ?_
            refine hK341 _ _ _ ?_
            by_cases h342 : v316 < (y282.length : Int)
            · replace H := ite_yes h342 H
              refine wpc_true (bool_yes h342) ?_
              refine wpc_skip ?_
              refine hK339 _ _ _ ?_
              refine wpc_seq_k fun K343 hK344 => ?_
              obtain ⟨o354, hC, H⟩ := bind_some H
              refine wpc_mono (Q := fun e r ds w => match (generalizing := false) o354 with | (Sum.inl _) => e = .ret ∧ ∃ (G346 : Gh), ds = [] ∧ G334 ≤ G346 ∧ Has [(10, Value.bool false)] r ∧ Hp G346 (bx g78 [Value.string a9] 9 :: bx g62 [Value.int .i64 (min 5 (w64 (a1.Before + (Int.tmod (w64 (a7)) 3)))), Value.int .i64 (min 5 (w64 (a1.Behind + (Int.tmod (w64 (a8)) 3)))), Value.slice A81 ((([] : List ByteArray) ++ a1.Keep) ++ [a9]).length c82] 24 :: bx g13 [Value.int .i64 a1.Before, Value.int .i64 a1.Behind, Value.slice A2 a1.Keep.length c3] 24 :: tk (Value.slice A298 y297.length c299) 2 37 :: tk (Value.slice A283 y282.length c284) 2 37 :: tk (Value.slice A81 ((([] : List ByteArray) ++ a1.Keep) ++ [a9]).length c82) 1 9 :: L) w ∧ True | (Sum.inr v345) => e = .normal ∧ ∃ (G350 : Gh), ds = [] ∧ G334 ≤ G350 ∧ Has [(11, Value.bool y23), (13, Value.slice A283 y282.length c284), (14, Value.int .i64 y289), (15, Value.slice A298 y297.length c299), (16, Value.int .i64 y304), (17, Value.int .i64 v345), (18, Value.int .i64 v316)] r ∧ Hp G350 (bx g78 [Value.string a9] 9 :: bx g62 [Value.int .i64 (min 5 (w64 (a1.Before + (Int.tmod (w64 (a7)) 3)))), Value.int .i64 (min 5 (w64 (a1.Behind + (Int.tmod (w64 (a8)) 3)))), Value.slice A81 ((([] : List ByteArray) ++ a1.Keep) ++ [a9]).length c82] 24 :: bx g13 [Value.int .i64 a1.Before, Value.int .i64 a1.Behind, Value.slice A2 a1.Keep.length c3] 24 :: tk (Value.slice A298 y297.length c299) 2 37 :: tk (Value.slice A283 y282.length c284) 2 37 :: tk (Value.slice A81 ((([] : List ByteArray) ++ a1.Keep) ++ [a9]).length c82) 1 9 :: L) w ∧ True) ?_ ?_
              · replace H := hC
                refine wpc_block ?_
                refine wpc_seq_k fun K355 hK356 => ?_
                refine wpc_seq_k fun K357 hK358 => ?_
                obtain ⟨v359, hC, H⟩ := bind_some H
                refine wpc_mono (Q := fun e r ds w => e = .normal ∧ ∃ (G360 : Gh), ds = [] ∧ G334 ≤ G360 ∧ Has [(11, Value.bool y23), (13, Value.slice A283 y282.length c284), (14, Value.int .i64 y289), (15, Value.slice A298 y297.length c299), (16, Value.int .i64 y304), (17, Value.int .i64 v315), (18, Value.int .i64 v316), (92, Value.bool v359)] r ∧ Hp G360 (bx g78 [Value.string a9] 9 :: bx g62 [Value.int .i64 (min 5 (w64 (a1.Before + (Int.tmod (w64 (a7)) 3)))), Value.int .i64 (min 5 (w64 (a1.Behind + (Int.tmod (w64 (a8)) 3)))), Value.slice A81 ((([] : List ByteArray) ++ a1.Keep) ++ [a9]).length c82] 24 :: bx g13 [Value.int .i64 a1.Before, Value.int .i64 a1.Behind, Value.slice A2 a1.Keep.length c3] 24 :: tk (Value.slice A298 y297.length c299) 2 37 :: tk (Value.slice A283 y282.length c284) 2 37 :: tk (Value.slice A81 ((([] : List ByteArray) ++ a1.Keep) ++ [a9]).length c82) 1 9 :: L) w ∧ True) ?_ ?_
                · replace H := hC
                  by_cases h365 : v315 < (y297.length : Int)
                  · replace H := ite_yes h365 H
                    obtain ⟨⟨h366, h366'⟩, H⟩ := ite_some H
                    obtain ⟨ad367, cs368, hA369, hK370, hn371, hc372⟩ := Dat.get (Dat.mono hG335 hD301) z_api_Break (v315) h366 h366'
                    obtain ⟨rfl⟩ := open_api_Break hK370
                    obtain ⟨⟨h373, h373'⟩, H⟩ := ite_some H
                    obtain ⟨ad374, cs375, hA376, hK377, hn378, hc379⟩ := Dat.get (Dat.mono (Gh.le_trans hG294 hG335) hD286) z_api_Break (v316) h373 h373'
                    obtain ⟨rfl⟩ := open_api_Break hK377
                    refine wpc_drawL [0, 0, 2, 7, 15, 31, 31, 127, 255, 31, 31, 1567, 3615, 8191, 16383] (fun D r w => (∃ (G' : Gh), G334 ≤ G' ∧ Regs [(11, Value.bool y23), (13, Value.slice A283 y282.length c284), (14, Value.int .i64 y289), (15, Value.slice A298 y297.length c299), (16, Value.int .i64 y304), (17, Value.int .i64 v315), (18, Value.int .i64 v316)] [] [(0, 78, Value.int .i64 v315), (1, 79, Value.slice A298 y297.length c299), (2, 80, Value.int .i64 (y297.length : Int)), (3, 81, Value.bool (decide (v315 < (y297.length : Int)))), (4, 82, Value.bool (decide (v315 < (y297.length : Int)))), (5, 83, Value.slice A298 y297.length c299), (6, 84, Value.int .i64 v315), (7, 85, Value.pointer (some (ad367.add (Int.toNat v315 * 2)))), (8, 86, Value.agg [Value.int .i64 ((y297.getD (Int.toNat v315) z_api_Break).At), Value.bool ((y297.getD (Int.toNat v315) z_api_Break).Hyphen)].toArray), (9, 87, Value.slice A283 y282.length c284), (10, 88, Value.int .i64 v316), (11, 89, Value.pointer (some (ad374.add (Int.toNat v316 * 2)))), (12, 90, Value.agg [Value.int .i64 ((y282.getD (Int.toNat v316) z_api_Break).At), Value.bool ((y282.getD (Int.toNat v316) z_api_Break).Hyphen)].toArray), (13, 91, Value.bool (decide ((y297.getD (Int.toNat v315) z_api_Break) = (y282.getD (Int.toNat v316) z_api_Break)))), (14, 92, Value.bool (decide ((y297.getD (Int.toNat v315) z_api_Break) = (y282.getD (Int.toNat v316) z_api_Break))))] D r ∧ Hp G' (bx g78 [Value.string a9] 9 :: bx g62 [Value.int .i64 (min 5 (w64 (a1.Before + (Int.tmod (w64 (a7)) 3)))), Value.int .i64 (min 5 (w64 (a1.Behind + (Int.tmod (w64 (a8)) 3)))), Value.slice A81 ((([] : List ByteArray) ++ a1.Keep) ++ [a9]).length c82] 24 :: bx g13 [Value.int .i64 a1.Before, Value.int .i64 a1.Behind, Value.slice A2 a1.Keep.length c3] 24 :: tk (Value.slice A298 y297.length c299) 2 37 :: tk (Value.slice A283 y282.length c284) 2 37 :: tk (Value.slice A81 ((([] : List ByteArray) ++ a1.Keep) ++ [a9]).length c82) 1 9 :: L) w)) mixo rfl rfl ?_ ?_ ?_
                    · exact ⟨_, Gh.le_refl _, Regs.start ⟨rfl, rfl, rfl, rfl, rfl, rfl, rfl, trivial⟩ trivial, hI337.drew⟩
                    · refine ⟨?_, ?_, ?_, ?_, ?_, ?_, ?_, ?_, ?_, ?_, ?_, ?_, ?_, ?_, ?_, trivial⟩
                      · intro D r wd384 hR hDi hpre hpost
                        obtain ⟨G380, hG381, hReg383, hI382⟩ := hR
                        have hH : Has [(17, Value.int .i64 v315)] r := ⟨hReg383.ins.get 5 rfl, trivial⟩
                        obtain ⟨r0, rfl⟩ := hH.ex
                        refine q_mv (v := Value.int .i64 v315) rfl ?_
                        refine wpq_nil ?_
                        exact ⟨rfl, ⟨_, hG381, (Regs.step hReg383 hDi rfl rfl rfl rfl), hI382⟩⟩
                      · intro D r wd384 hR hDi hpre hpost
                        obtain ⟨G380, hG381, hReg383, hI382⟩ := hR
                        have hH : Has [(15, Value.slice A298 y297.length c299)] r := ⟨hReg383.ins.get 3 rfl, trivial⟩
                        obtain ⟨r0, rfl⟩ := hH.ex
                        refine q_mv (v := Value.slice A298 y297.length c299) rfl ?_
                        refine wpq_nil ?_
                        exact ⟨rfl, ⟨_, hG381, (Regs.step hReg383 hDi rfl rfl rfl rfl), hI382⟩⟩
                      · intro D r wd384 hR hDi hpre hpost
                        obtain ⟨G380, hG381, hReg383, hI382⟩ := hR
                        have hH : Has [(79, Value.slice A298 y297.length c299)] r := ⟨hReg383.get 1 rfl (hpre 1 rfl), trivial⟩
                        obtain ⟨r0, rfl⟩ := hH.ex
                        refine q_len so26 rfl ?_
                        refine wpq_nil ?_
                        exact ⟨rfl, ⟨_, hG381, (Regs.step hReg383 hDi rfl rfl rfl rfl), hI382⟩⟩
                      · intro D r wd384 hR hDi hpre hpost
                        obtain ⟨G380, hG381, hReg383, hI382⟩ := hR
                        have hH : Has [(78, Value.int .i64 v315), (80, Value.int .i64 (y297.length : Int))] r := ⟨hReg383.get 0 rfl (hpre 0 rfl), hReg383.get 2 rfl (hpre 2 rfl), trivial⟩
                        obtain ⟨r0, rfl⟩ := hH.ex
                        refine q_lss rfl rfl ?_
                        refine wpq_nil ?_
                        exact ⟨rfl, ⟨_, hG381, (Regs.step hReg383 hDi rfl rfl rfl rfl), hI382⟩⟩
                      · intro D r wd384 hR hDi hpre hpost
                        obtain ⟨G380, hG381, hReg383, hI382⟩ := hR
                        have hH : Has [(81, Value.bool (decide (v315 < (y297.length : Int))))] r := ⟨hReg383.get 3 rfl (hpre 3 rfl), trivial⟩
                        obtain ⟨r0, rfl⟩ := hH.ex
                        refine q_mv (v := Value.bool (decide (v315 < (y297.length : Int)))) rfl ?_
                        refine wpq_nil ?_
                        exact ⟨rfl, ⟨_, hG381, (Regs.step hReg383 hDi rfl rfl rfl rfl), hI382⟩⟩
                      · intro D r wd384 hR hDi hpre hpost
                        obtain ⟨G380, hG381, hReg383, hI382⟩ := hR
                        have hH : Has [(15, Value.slice A298 y297.length c299), (82, Value.bool (decide (v315 < (y297.length : Int))))] r := ⟨hReg383.ins.get 3 rfl, hReg383.get 4 rfl (hpre 4 rfl), trivial⟩
                        obtain ⟨r0, rfl⟩ := hH.ex
                        refine q_mv (v := Value.slice A298 y297.length c299) rfl ?_ (hw := guard_yes rfl rfl rfl (bool_yes h365))
                        refine wpq_nil ?_
                        exact ⟨rfl, ⟨_, hG381, (Regs.step hReg383 hDi rfl rfl rfl rfl), hI382⟩⟩
                      · intro D r wd384 hR hDi hpre hpost
                        obtain ⟨G380, hG381, hReg383, hI382⟩ := hR
                        have hH : Has [(17, Value.int .i64 v315), (82, Value.bool (decide (v315 < (y297.length : Int))))] r := ⟨hReg383.ins.get 5 rfl, hReg383.get 4 rfl (hpre 4 rfl), trivial⟩
                        obtain ⟨r0, rfl⟩ := hH.ex
                        refine q_mv (v := Value.int .i64 v315) rfl ?_ (hw := guard_yes rfl rfl rfl (bool_yes h365))
                        refine wpq_nil ?_
                        exact ⟨rfl, ⟨_, hG381, (Regs.step hReg383 hDi rfl rfl rfl rfl), hI382⟩⟩
                      · intro D r wd384 hR hDi hpre hpost
                        obtain ⟨G380, hG381, hReg383, hI382⟩ := hR
                        have hH : Has [(82, Value.bool (decide (v315 < (y297.length : Int)))), (83, Value.slice A298 y297.length c299), (84, Value.int .i64 v315)] r := ⟨hReg383.get 4 rfl (hpre 4 rfl), hReg383.get 5 rfl (hpre 5 rfl), hReg383.get 6 rfl (hpre 6 rfl), trivial⟩
                        obtain ⟨r0, rfl⟩ := hH.ex
                        refine q_ia el26 rfl hA369 rfl h366 h366' ?_ (hw := guard_yes rfl rfl rfl (bool_yes h365))
                        refine wpq_nil ?_
                        exact ⟨rfl, ⟨_, hG381, (Regs.step hReg383 hDi rfl rfl rfl rfl), hI382⟩⟩
                      · intro D r wd384 hR hDi hpre hpost
                        obtain ⟨G380, hG381, hReg383, hI382⟩ := hR
                        have hH : Has [(82, Value.bool (decide (v315 < (y297.length : Int)))), (85, Value.pointer (some (ad367.add (Int.toNat v315 * 2))))] r := ⟨hReg383.get 4 rfl (hpre 4 rfl), hReg383.get 7 rfl (hpre 7 rfl), trivial⟩
                        obtain ⟨r0, rfl⟩ := hH.ex
                        refine q_lfA hI382 ag37 rfl (cs := [Value.int .i64 ((y297.getD (Int.toNat v315) z_api_Break).At), Value.bool ((y297.getD (Int.toNat v315) z_api_Break).Hyphen)]) rfl (fun j v hv => hG381.cel _ _ (hc372 j v hv)) ?_ (hw := guard_yes rfl rfl rfl (bool_yes h365))
                        refine wpq_nil ?_
                        exact ⟨rfl, ⟨_, hG381, (Regs.step hReg383 hDi rfl rfl rfl rfl), hI382⟩⟩
                      · intro D r wd384 hR hDi hpre hpost
                        obtain ⟨G380, hG381, hReg383, hI382⟩ := hR
                        have hH : Has [(13, Value.slice A283 y282.length c284), (82, Value.bool (decide (v315 < (y297.length : Int))))] r := ⟨hReg383.ins.get 1 rfl, hReg383.get 4 rfl (hpre 4 rfl), trivial⟩
                        obtain ⟨r0, rfl⟩ := hH.ex
                        refine q_mv (v := Value.slice A283 y282.length c284) rfl ?_ (hw := guard_yes rfl rfl rfl (bool_yes h365))
                        refine wpq_nil ?_
                        exact ⟨rfl, ⟨_, hG381, (Regs.step hReg383 hDi rfl rfl rfl rfl), hI382⟩⟩
                      · intro D r wd384 hR hDi hpre hpost
                        obtain ⟨G380, hG381, hReg383, hI382⟩ := hR
                        have hH : Has [(18, Value.int .i64 v316), (82, Value.bool (decide (v315 < (y297.length : Int))))] r := ⟨hReg383.ins.get 6 rfl, hReg383.get 4 rfl (hpre 4 rfl), trivial⟩
                        obtain ⟨r0, rfl⟩ := hH.ex
                        refine q_mv (v := Value.int .i64 v316) rfl ?_ (hw := guard_yes rfl rfl rfl (bool_yes h365))
                        refine wpq_nil ?_
                        exact ⟨rfl, ⟨_, hG381, (Regs.step hReg383 hDi rfl rfl rfl rfl), hI382⟩⟩
                      · intro D r wd384 hR hDi hpre hpost
                        obtain ⟨G380, hG381, hReg383, hI382⟩ := hR
                        have hH : Has [(82, Value.bool (decide (v315 < (y297.length : Int)))), (87, Value.slice A283 y282.length c284), (88, Value.int .i64 v316)] r := ⟨hReg383.get 4 rfl (hpre 4 rfl), hReg383.get 9 rfl (hpre 9 rfl), hReg383.get 10 rfl (hpre 10 rfl), trivial⟩
                        obtain ⟨r0, rfl⟩ := hH.ex
                        refine q_ia el26 rfl hA376 rfl h373 h373' ?_ (hw := guard_yes rfl rfl rfl (bool_yes h365))
                        refine wpq_nil ?_
                        exact ⟨rfl, ⟨_, hG381, (Regs.step hReg383 hDi rfl rfl rfl rfl), hI382⟩⟩
                      · intro D r wd384 hR hDi hpre hpost
                        obtain ⟨G380, hG381, hReg383, hI382⟩ := hR
                        have hH : Has [(82, Value.bool (decide (v315 < (y297.length : Int)))), (89, Value.pointer (some (ad374.add (Int.toNat v316 * 2))))] r := ⟨hReg383.get 4 rfl (hpre 4 rfl), hReg383.get 11 rfl (hpre 11 rfl), trivial⟩
                        obtain ⟨r0, rfl⟩ := hH.ex
                        refine q_lfA hI382 ag37 rfl (cs := [Value.int .i64 ((y282.getD (Int.toNat v316) z_api_Break).At), Value.bool ((y282.getD (Int.toNat v316) z_api_Break).Hyphen)]) rfl (fun j v hv => hG381.cel _ _ (hc379 j v hv)) ?_ (hw := guard_yes rfl rfl rfl (bool_yes h365))
                        refine wpq_nil ?_
                        exact ⟨rfl, ⟨_, hG381, (Regs.step hReg383 hDi rfl rfl rfl rfl), hI382⟩⟩
                      · intro D r wd384 hR hDi hpre hpost
                        obtain ⟨G380, hG381, hReg383, hI382⟩ := hR
                        have hH : Has [(82, Value.bool (decide (v315 < (y297.length : Int)))), (86, Value.agg [Value.int .i64 ((y297.getD (Int.toNat v315) z_api_Break).At), Value.bool ((y297.getD (Int.toNat v315) z_api_Break).Hyphen)].toArray), (90, Value.agg [Value.int .i64 ((y282.getD (Int.toNat v316) z_api_Break).At), Value.bool ((y282.getD (Int.toNat v316) z_api_Break).Hyphen)].toArray)] r := ⟨hReg383.get 4 rfl (hpre 4 rfl), hReg383.get 8 rfl (hpre 8 rfl), hReg383.get 12 rfl (hpre 12 rfl), trivial⟩
                        obtain ⟨r0, rfl⟩ := hH.ex
                        refine q_st_eql (q := (y297.getD (Int.toNat v315) z_api_Break) = (y282.getD (Int.toNat v316) z_api_Break)) rfl rfl eqg_api_Break (eqs_api_Break (y297.getD (Int.toNat v315) z_api_Break) (y282.getD (Int.toNat v316) z_api_Break)) (eqd_api_Break _ _) ?_ (hw := guard_yes rfl rfl rfl (bool_yes h365))
                        refine wpq_nil ?_
                        exact ⟨rfl, ⟨_, hG381, (Regs.step hReg383 hDi rfl rfl rfl rfl), hI382⟩⟩
                      · intro D r wd384 hR hDi hpre hpost
                        obtain ⟨G380, hG381, hReg383, hI382⟩ := hR
                        have hH : Has [(82, Value.bool (decide (v315 < (y297.length : Int)))), (91, Value.bool (decide ((y297.getD (Int.toNat v315) z_api_Break) = (y282.getD (Int.toNat v316) z_api_Break))))] r := ⟨hReg383.get 4 rfl (hpre 4 rfl), hReg383.get 13 rfl (hpre 13 rfl), trivial⟩
                        obtain ⟨r0, rfl⟩ := hH.ex
                        refine q_pick true (v := Value.bool (decide ((y297.getD (Int.toNat v315) z_api_Break) = (y282.getD (Int.toNat v316) z_api_Break)))) (bool_yes h365) rfl ?_
                        refine wpq_nil ?_
                        exact ⟨rfl, ⟨_, hG381, (Regs.step hReg383 hDi rfl rfl rfl rfl), hI382⟩⟩
                    · intro D r wd384 hall hR
                      obtain ⟨G380, hG381, hReg383, hI382⟩ := hR
                      have hH : Has [(11, Value.bool y23), (13, Value.slice A283 y282.length c284), (14, Value.int .i64 y289), (15, Value.slice A298 y297.length c299), (16, Value.int .i64 y304), (17, Value.int .i64 v315), (18, Value.int .i64 v316), (83, Value.slice A298 y297.length c299), (84, Value.int .i64 v315), (85, Value.pointer (some (ad367.add (Int.toNat v315 * 2)))), (86, Value.agg [Value.int .i64 ((y297.getD (Int.toNat v315) z_api_Break).At), Value.bool ((y297.getD (Int.toNat v315) z_api_Break).Hyphen)].toArray), (87, Value.slice A283 y282.length c284), (88, Value.int .i64 v316), (89, Value.pointer (some (ad374.add (Int.toNat v316 * 2)))), (90, Value.agg [Value.int .i64 ((y282.getD (Int.toNat v316) z_api_Break).At), Value.bool ((y282.getD (Int.toNat v316) z_api_Break).Hyphen)].toArray), (91, Value.bool (decide ((y297.getD (Int.toNat v315) z_api_Break) = (y282.getD (Int.toNat v316) z_api_Break)))), (92, Value.bool (decide ((y297.getD (Int.toNat v315) z_api_Break) = (y282.getD (Int.toNat v316) z_api_Break))))] r := ⟨hReg383.ins.get 0 rfl, hReg383.ins.get 1 rfl, hReg383.ins.get 2 rfl, hReg383.ins.get 3 rfl, hReg383.ins.get 4 rfl, hReg383.ins.get 5 rfl, hReg383.ins.get 6 rfl, hReg383.get 5 rfl (hall 5 (Nat.le_of_ble_eq_true rfl)), hReg383.get 6 rfl (hall 6 (Nat.le_of_ble_eq_true rfl)), hReg383.get 7 rfl (hall 7 (Nat.le_of_ble_eq_true rfl)), hReg383.get 8 rfl (hall 8 (Nat.le_of_ble_eq_true rfl)), hReg383.get 9 rfl (hall 9 (Nat.le_of_ble_eq_true rfl)), hReg383.get 10 rfl (hall 10 (Nat.le_of_ble_eq_true rfl)), hReg383.get 11 rfl (hall 11 (Nat.le_of_ble_eq_true rfl)), hReg383.get 12 rfl (hall 12 (Nat.le_of_ble_eq_true rfl)), hReg383.get 13 rfl (hall 13 (Nat.le_of_ble_eq_true rfl)), hReg383.get 14 rfl (hall 14 (Nat.le_of_ble_eq_true rfl)), trivial⟩
                      obtain ⟨r0, rfl⟩ := hH.ex
                      cases H
                      exact ⟨rfl, _, rfl, hG381, ⟨rfl, rfl, rfl, rfl, rfl, rfl, rfl, rfl, trivial⟩, hI382, trivial⟩
                  · replace H := ite_no h365 H
                    refine wpc_drawL [0, 0, 2, 7, 15, 31, 31, 127, 255, 31, 31, 1567, 3615, 8191, 16383] (fun D r w => (∃ (G' : Gh), G334 ≤ G' ∧ Regs [(11, Value.bool y23), (13, Value.slice A283 y282.length c284), (14, Value.int .i64 y289), (15, Value.slice A298 y297.length c299), (16, Value.int .i64 y304), (17, Value.int .i64 v315), (18, Value.int .i64 v316)] [] [(0, 78, Value.int .i64 v315), (1, 79, Value.slice A298 y297.length c299), (2, 80, Value.int .i64 (y297.length : Int)), (3, 81, Value.bool (decide (v315 < (y297.length : Int)))), (4, 82, Value.bool (decide (v315 < (y297.length : Int)))), (5, 83, undef), (6, 84, undef), (7, 85, undef), (8, 86, undef), (9, 87, undef), (10, 88, undef), (11, 89, undef), (12, 90, undef), (13, 91, undef), (14, 92, Value.bool false)] D r ∧ Hp G' (bx g78 [Value.string a9] 9 :: bx g62 [Value.int .i64 (min 5 (w64 (a1.Before + (Int.tmod (w64 (a7)) 3)))), Value.int .i64 (min 5 (w64 (a1.Behind + (Int.tmod (w64 (a8)) 3)))), Value.slice A81 ((([] : List ByteArray) ++ a1.Keep) ++ [a9]).length c82] 24 :: bx g13 [Value.int .i64 a1.Before, Value.int .i64 a1.Behind, Value.slice A2 a1.Keep.length c3] 24 :: tk (Value.slice A298 y297.length c299) 2 37 :: tk (Value.slice A283 y282.length c284) 2 37 :: tk (Value.slice A81 ((([] : List ByteArray) ++ a1.Keep) ++ [a9]).length c82) 1 9 :: L) w)) mixo rfl rfl ?_ ?_ ?_
                    · exact ⟨_, Gh.le_refl _, Regs.start ⟨rfl, rfl, rfl, rfl, rfl, rfl, rfl, trivial⟩ trivial, hI337.drew⟩
                    · refine ⟨?_, ?_, ?_, ?_, ?_, ?_, ?_, ?_, ?_, ?_, ?_, ?_, ?_, ?_, ?_, trivial⟩
                      · intro D r wd389 hR hDi hpre hpost
                        obtain ⟨G385, hG386, hReg388, hI387⟩ := hR
                        have hH : Has [(17, Value.int .i64 v315)] r := ⟨hReg388.ins.get 5 rfl, trivial⟩
                        obtain ⟨r0, rfl⟩ := hH.ex
                        refine q_mv (v := Value.int .i64 v315) rfl ?_
                        refine wpq_nil ?_
                        exact ⟨rfl, ⟨_, hG386, (Regs.step hReg388 hDi rfl rfl rfl rfl), hI387⟩⟩
                      · intro D r wd389 hR hDi hpre hpost
                        obtain ⟨G385, hG386, hReg388, hI387⟩ := hR
                        have hH : Has [(15, Value.slice A298 y297.length c299)] r := ⟨hReg388.ins.get 3 rfl, trivial⟩
                        obtain ⟨r0, rfl⟩ := hH.ex
                        refine q_mv (v := Value.slice A298 y297.length c299) rfl ?_
                        refine wpq_nil ?_
                        exact ⟨rfl, ⟨_, hG386, (Regs.step hReg388 hDi rfl rfl rfl rfl), hI387⟩⟩
                      · intro D r wd389 hR hDi hpre hpost
                        obtain ⟨G385, hG386, hReg388, hI387⟩ := hR
                        have hH : Has [(79, Value.slice A298 y297.length c299)] r := ⟨hReg388.get 1 rfl (hpre 1 rfl), trivial⟩
                        obtain ⟨r0, rfl⟩ := hH.ex
                        refine q_len so26 rfl ?_
                        refine wpq_nil ?_
                        exact ⟨rfl, ⟨_, hG386, (Regs.step hReg388 hDi rfl rfl rfl rfl), hI387⟩⟩
                      · intro D r wd389 hR hDi hpre hpost
                        obtain ⟨G385, hG386, hReg388, hI387⟩ := hR
                        have hH : Has [(78, Value.int .i64 v315), (80, Value.int .i64 (y297.length : Int))] r := ⟨hReg388.get 0 rfl (hpre 0 rfl), hReg388.get 2 rfl (hpre 2 rfl), trivial⟩
                        obtain ⟨r0, rfl⟩ := hH.ex
                        refine q_lss rfl rfl ?_
                        refine wpq_nil ?_
                        exact ⟨rfl, ⟨_, hG386, (Regs.step hReg388 hDi rfl rfl rfl rfl), hI387⟩⟩
                      · intro D r wd389 hR hDi hpre hpost
                        obtain ⟨G385, hG386, hReg388, hI387⟩ := hR
                        have hH : Has [(81, Value.bool (decide (v315 < (y297.length : Int))))] r := ⟨hReg388.get 3 rfl (hpre 3 rfl), trivial⟩
                        obtain ⟨r0, rfl⟩ := hH.ex
                        refine q_mv (v := Value.bool (decide (v315 < (y297.length : Int)))) rfl ?_
                        refine wpq_nil ?_
                        exact ⟨rfl, ⟨_, hG386, (Regs.step hReg388 hDi rfl rfl rfl rfl), hI387⟩⟩
                      · intro D r wd389 hR hDi hpre hpost
                        obtain ⟨G385, hG386, hReg388, hI387⟩ := hR
                        have hH : Has [(82, Value.bool (decide (v315 < (y297.length : Int))))] r := ⟨hReg388.get 4 rfl (hpre 4 rfl), trivial⟩
                        obtain ⟨r0, rfl⟩ := hH.ex
                        refine wpq_no (guard_no rfl rfl rfl (bool_no h365) rfl) ?_
                        refine wpq_nil ?_
                        exact ⟨rfl, ⟨_, hG386, (Regs.step hReg388 hDi rfl rfl rfl rfl), hI387⟩⟩
                      · intro D r wd389 hR hDi hpre hpost
                        obtain ⟨G385, hG386, hReg388, hI387⟩ := hR
                        have hH : Has [(82, Value.bool (decide (v315 < (y297.length : Int))))] r := ⟨hReg388.get 4 rfl (hpre 4 rfl), trivial⟩
                        obtain ⟨r0, rfl⟩ := hH.ex
                        refine wpq_no (guard_no rfl rfl rfl (bool_no h365) rfl) ?_
                        refine wpq_nil ?_
                        exact ⟨rfl, ⟨_, hG386, (Regs.step hReg388 hDi rfl rfl rfl rfl), hI387⟩⟩
                      · intro D r wd389 hR hDi hpre hpost
                        obtain ⟨G385, hG386, hReg388, hI387⟩ := hR
                        have hH : Has [(82, Value.bool (decide (v315 < (y297.length : Int))))] r := ⟨hReg388.get 4 rfl (hpre 4 rfl), trivial⟩
                        obtain ⟨r0, rfl⟩ := hH.ex
                        refine wpq_no (guard_no rfl rfl rfl (bool_no h365) rfl) ?_
                        refine wpq_nil ?_
                        exact ⟨rfl, ⟨_, hG386, (Regs.step hReg388 hDi rfl rfl rfl rfl), hI387⟩⟩
                      · intro D r wd389 hR hDi hpre hpost
                        obtain ⟨G385, hG386, hReg388, hI387⟩ := hR
                        have hH : Has [(82, Value.bool (decide (v315 < (y297.length : Int))))] r := ⟨hReg388.get 4 rfl (hpre 4 rfl), trivial⟩
                        obtain ⟨r0, rfl⟩ := hH.ex
                        refine wpq_no (guard_no rfl rfl rfl (bool_no h365) rfl) ?_
                        refine wpq_nil ?_
                        exact ⟨rfl, ⟨_, hG386, (Regs.step hReg388 hDi rfl rfl rfl rfl), hI387⟩⟩
                      · intro D r wd389 hR hDi hpre hpost
                        obtain ⟨G385, hG386, hReg388, hI387⟩ := hR
                        have hH : Has [(82, Value.bool (decide (v315 < (y297.length : Int))))] r := ⟨hReg388.get 4 rfl (hpre 4 rfl), trivial⟩
                        obtain ⟨r0, rfl⟩ := hH.ex
                        refine wpq_no (guard_no rfl rfl rfl (bool_no h365) rfl) ?_
                        refine wpq_nil ?_
                        exact ⟨rfl, ⟨_, hG386, (Regs.step hReg388 hDi rfl rfl rfl rfl), hI387⟩⟩
                      · intro D r wd389 hR hDi hpre hpost
                        obtain ⟨G385, hG386, hReg388, hI387⟩ := hR
                        have hH : Has [(82, Value.bool (decide (v315 < (y297.length : Int))))] r := ⟨hReg388.get 4 rfl (hpre 4 rfl), trivial⟩
                        obtain ⟨r0, rfl⟩ := hH.ex
                        refine wpq_no (guard_no rfl rfl rfl (bool_no h365) rfl) ?_
                        refine wpq_nil ?_
                        exact ⟨rfl, ⟨_, hG386, (Regs.step hReg388 hDi rfl rfl rfl rfl), hI387⟩⟩
                      · intro D r wd389 hR hDi hpre hpost
                        obtain ⟨G385, hG386, hReg388, hI387⟩ := hR
                        have hH : Has [(82, Value.bool (decide (v315 < (y297.length : Int))))] r := ⟨hReg388.get 4 rfl (hpre 4 rfl), trivial⟩
                        obtain ⟨r0, rfl⟩ := hH.ex
                        refine wpq_no (guard_no rfl rfl rfl (bool_no h365) rfl) ?_
                        refine wpq_nil ?_
                        exact ⟨rfl, ⟨_, hG386, (Regs.step hReg388 hDi rfl rfl rfl rfl), hI387⟩⟩
                      · intro D r wd389 hR hDi hpre hpost
                        obtain ⟨G385, hG386, hReg388, hI387⟩ := hR
                        have hH : Has [(82, Value.bool (decide (v315 < (y297.length : Int))))] r := ⟨hReg388.get 4 rfl (hpre 4 rfl), trivial⟩
                        obtain ⟨r0, rfl⟩ := hH.ex
                        refine wpq_no (guard_no rfl rfl rfl (bool_no h365) rfl) ?_
                        refine wpq_nil ?_
                        exact ⟨rfl, ⟨_, hG386, (Regs.step hReg388 hDi rfl rfl rfl rfl), hI387⟩⟩
                      · intro D r wd389 hR hDi hpre hpost
                        obtain ⟨G385, hG386, hReg388, hI387⟩ := hR
                        have hH : Has [(82, Value.bool (decide (v315 < (y297.length : Int))))] r := ⟨hReg388.get 4 rfl (hpre 4 rfl), trivial⟩
                        obtain ⟨r0, rfl⟩ := hH.ex
                        refine wpq_no (guard_no rfl rfl rfl (bool_no h365) rfl) ?_
                        refine wpq_nil ?_
                        exact ⟨rfl, ⟨_, hG386, (Regs.step hReg388 hDi rfl rfl rfl rfl), hI387⟩⟩
                      · intro D r wd389 hR hDi hpre hpost
                        obtain ⟨G385, hG386, hReg388, hI387⟩ := hR
                        have hH : Has [(82, Value.bool (decide (v315 < (y297.length : Int)))), (91, undef)] r := ⟨hReg388.get 4 rfl (hpre 4 rfl), hReg388.get 13 rfl (hpre 13 rfl), trivial⟩
                        obtain ⟨r0, rfl⟩ := hH.ex
                        refine q_pick false (v := Value.bool false) (bool_no h365) rfl ?_
                        refine wpq_nil ?_
                        exact ⟨rfl, ⟨_, hG386, (Regs.step hReg388 hDi rfl rfl rfl rfl), hI387⟩⟩
                    · intro D r wd389 hall hR
                      obtain ⟨G385, hG386, hReg388, hI387⟩ := hR
                      have hH : Has [(11, Value.bool y23), (13, Value.slice A283 y282.length c284), (14, Value.int .i64 y289), (15, Value.slice A298 y297.length c299), (16, Value.int .i64 y304), (17, Value.int .i64 v315), (18, Value.int .i64 v316), (92, Value.bool false)] r := ⟨hReg388.ins.get 0 rfl, hReg388.ins.get 1 rfl, hReg388.ins.get 2 rfl, hReg388.ins.get 3 rfl, hReg388.ins.get 4 rfl, hReg388.ins.get 5 rfl, hReg388.ins.get 6 rfl, hReg388.get 14 rfl (hall 14 (Nat.le_of_ble_eq_true rfl)), trivial⟩
                      obtain ⟨r0, rfl⟩ := hH.ex
                      cases H
                      exact ⟨rfl, _, rfl, hG386, ⟨rfl, rfl, rfl, rfl, rfl, rfl, rfl, rfl, trivial⟩, hI387, trivial⟩
                · clear hC
                  rintro e r ds wd362 ⟨rfl, G360, rfl, hG361, hHas, hI363, _⟩
                  rw [hHas.eq]; clear hHas
                  refine hK358 _ _ _ ?_
                  by_cases h390 : v359 = true
                  · replace H := ite_yes h390 H
                    refine wpc_true (bval_yes h390) ?_
                    refine wpc_seq_k fun K391 hK392 => ?_
                    refine wpc_region ?_
                    refine q_mv (v := Value.int .i64 v315) rfl ?_
                    refine q_add rfl rfl ?_
                    refine q_as (v := Value.int .i64 (w64 (v315 + 1))) rfl ?_
                    refine wpq_nil ?_
                    refine hK392 _ _ _ ?_
                    refine wpc_exit ?_
                    cases H
                    exact ⟨rfl, _, rfl, hG361, ⟨rfl, rfl, rfl, rfl, rfl, rfl, rfl, trivial⟩, hI363, trivial⟩
                  · replace H := ite_no h390 H
                    refine wpc_false (bval_no h390) ?_
                    refine wpc_skip ?_
                    refine hK356 _ _ _ ?_
                    refine wpc_seq_k fun K393 hK394 => ?_
                    refine wpc_region ?_
                    refine q_mv (v := Value.slice A283 y282.length c284) rfl ?_
                    refine q_mv (v := Value.int .i64 v316) rfl ?_
                    obtain ⟨⟨h395, h395'⟩, H⟩ := ite_some H
                    obtain ⟨ad396, cs397, hA398, hK399, hn400, hc401⟩ := Dat.get (Dat.mono (Gh.le_trans (Gh.le_trans hG294 hG335) hG361) hD286) z_api_Break (v316) h395 h395'
                    obtain ⟨rfl⟩ := open_api_Break hK399
                    refine q_ia el26 rfl hA398 rfl h395 h395' ?_
                    refine q_fa (a' := (ad396.add (Int.toNat v316 * 2)).add 1) fl37_1 rfl rfl ?_
                    refine q_lf hI363 (v := Value.bool ((y282.getD (Int.toNat v316) z_api_Break).Hyphen)) ag4 rfl ((Gh.le_refl _).cel _ _ (hc401 1 _ rfl)) ?_
                    refine q_not rfl ?_
                    refine wpq_nil ?_
                    refine hK394 _ _ _ ?_
                    by_cases h402 : (!((y282.getD (Int.toNat v316) z_api_Break).Hyphen)) = true
                    · replace H := ite_yes h402 H
                      refine wpc_true (bval_yes h402) ?_
                      refine wpc_seq_k fun K403 hK404 => ?_
                      refine wpc_region ?_
                      refine q_as (v := Value.bool false) rfl ?_
                      refine wpq_nil ?_
                      refine hK404 _ _ _ ?_
                      refine wpc_ret ?_
                      cases H
                      exact ⟨rfl, _, rfl, hG361, ⟨rfl, trivial⟩, hI363, trivial⟩
                    · replace H := ite_no h402 H
                      refine wpc_false (bval_no h402) ?_
                      refine wpc_skip ?_
                      cases H
                      exact ⟨rfl, _, rfl, hG361, ⟨rfl, rfl, rfl, rfl, rfl, rfl, rfl, trivial⟩, hI363, trivial⟩
              · clear hC
                rcases o354 with _ | v345
                · rintro e r ds wd348 ⟨rfl, G346, rfl, hG347, hHas, hI349, _⟩
                  rw [hHas.eq]; clear hHas
                  cases H
                  exact ⟨rfl, _, rfl, (Gh.le_trans hG335 hG347), ⟨rfl, trivial⟩, hI349, trivial⟩
                · rintro e r ds wd352 ⟨rfl, G350, rfl, hG351, hHas, hI353, _⟩
                  rw [hHas.eq]; clear hHas
                  refine hK344 _ _ _ ?_
                  refine wpc_region ?_
                  refine q_mv (v := Value.int .i64 v316) rfl ?_
                  refine q_add rfl rfl ?_
                  refine q_as (v := Value.int .i64 (w64 (v316 + 1))) rfl ?_
                  refine wpq_nil ?_
                  exact ih _ _ _ H _ _ _ (Gh.le_trans hG335 hG351) ⟨rfl, rfl, rfl, rfl, rfl, rfl, rfl, trivial⟩ hI353 rfl
            · replace H := ite_no h342 H
              refine wpc_false (bool_no h342) ?_
              refine wpc_exit ?_
              cases H
              exact ⟨rfl, _, rfl, hG335, ⟨rfl, rfl, rfl, rfl, rfl, trivial⟩, hI337, trivial⟩
          · clear hC
            rcases o333 with _ | v324
            · rintro e r ds wd327 ⟨rfl, G325, rfl, hG326, hHas, hI328, _⟩
              rw [hHas.eq]; clear hHas
              have hI411 := Hp.sub (L := bx g78 [Value.string a9] 9 :: bx g62 [Value.int .i64 (min 5 (w64 (a1.Before + (Int.tmod (w64 (a7)) 3)))), Value.int .i64 (min 5 (w64 (a1.Behind + (Int.tmod (w64 (a8)) 3)))), Value.slice A81 ((([] : List ByteArray) ++ a1.Keep) ++ [a9]).length c82] 24 :: bx g13 [Value.int .i64 a1.Before, Value.int .i64 a1.Behind, Value.slice A2 a1.Keep.length c3] 24 :: tk (Value.slice A298 y297.length c299) 2 37 :: tk (Value.slice A283 y282.length c284) 2 37 :: tk (Value.slice A81 ((([] : List ByteArray) ++ a1.Keep) ++ [a9]).length c82) 1 9 :: L) (L' := L) hI328 (List.Sublist.cons _ (List.Sublist.cons _ (List.Sublist.cons _ (List.Sublist.cons _ (List.Sublist.cons _ (List.Sublist.cons _ (List.Sublist.refl _)))))))
              cases H
              exact ⟨.inr rfl, rfl, _, ⟨_, _, rfl, rfl, rfl⟩, _, (Gh.le_trans (Gh.le_trans (Gh.le_trans (Gh.le_trans (Gh.le_trans (Gh.le_trans (Gh.le_trans hG20 hG30) hG68) hG85) hG99) hG279) hG294) hG326), hI411, rfl⟩
            · rintro e r ds wd331 ⟨rfl, G329, rfl, hG330, hHas, hI332, _⟩
              rw [hHas.eq]; clear hHas
              refine hK308 _ _ _ ?_
              refine wpc_seq_k fun K412 hK413 => ?_
              refine wpc_region ?_
              refine q_mv (v := Value.bool y23) rfl ?_
              refine q_mv (v := Value.bool y23) rfl ?_
              obtain ⟨v414, hC, H⟩ := bind_some H
              refine wpq_split 3 (K := fun e r ds w => e = .normal ∧ ∃ (G415 : Gh), ds = [] ∧ G329 ≤ G415 ∧ Has [(15, Value.slice A298 y297.length c299), (16, Value.int .i64 y304), (17, Value.int .i64 v324), (105, Value.bool v414)] r ∧ Hp G415 (bx g78 [Value.string a9] 9 :: bx g62 [Value.int .i64 (min 5 (w64 (a1.Before + (Int.tmod (w64 (a7)) 3)))), Value.int .i64 (min 5 (w64 (a1.Behind + (Int.tmod (w64 (a8)) 3)))), Value.slice A81 ((([] : List ByteArray) ++ a1.Keep) ++ [a9]).length c82] 24 :: bx g13 [Value.int .i64 a1.Before, Value.int .i64 a1.Behind, Value.slice A2 a1.Keep.length c3] 24 :: tk (Value.slice A298 y297.length c299) 2 37 :: tk (Value.slice A283 y282.length c284) 2 37 :: tk (Value.slice A81 ((([] : List ByteArray) ++ a1.Keep) ++ [a9]).length c82) 1 9 :: L) w ∧ True) ?_ ?_
              · replace H := hC
                by_cases h420 : y23 = true
                · replace H := ite_yes h420 H
                  refine q_mv (v := Value.int .i64 y289) rfl ?_ (hw := guard_yes rfl rfl rfl (bval_yes h420))
                  refine q_eql rfl rfl ?_ (hw := guard_yes rfl rfl rfl (bval_yes h420))
                  refine q_pick true (v := Value.bool (decide (y289 = 0))) (bval_yes h420) rfl ?_
                  refine wpq_nil ?_
                  cases H
                  exact ⟨rfl, _, rfl, (Gh.le_refl _), ⟨rfl, rfl, rfl, rfl, trivial⟩, hI332, trivial⟩
                · replace H := ite_no h420 H
                  refine wpq_no (guard_no rfl rfl rfl (bval_no h420) rfl) ?_
                  refine wpq_no (guard_no rfl rfl rfl (bval_no h420) rfl) ?_
                  refine q_pick false (v := Value.bool false) (bval_no h420) rfl ?_
                  refine wpq_nil ?_
                  cases H
                  exact ⟨rfl, _, rfl, (Gh.le_refl _), ⟨rfl, rfl, rfl, rfl, trivial⟩, hI332, trivial⟩
              · clear hC
                rintro e r ds wd417 ⟨rfl, G415, rfl, hG416, hHas, hI418, _⟩
                rw [hHas.eq]; clear hHas
                refine q_mv (v := Value.bool v414) rfl ?_
                obtain ⟨v421, hC, H⟩ := bind_some H
                refine wpq_split 3 (K := fun e r ds w => e = .normal ∧ ∃ (G422 : Gh), ds = [] ∧ G415 ≤ G422 ∧ Has [(15, Value.slice A298 y297.length c299), (17, Value.int .i64 v324), (109, Value.bool v421)] r ∧ Hp G422 (bx g78 [Value.string a9] 9 :: bx g62 [Value.int .i64 (min 5 (w64 (a1.Before + (Int.tmod (w64 (a7)) 3)))), Value.int .i64 (min 5 (w64 (a1.Behind + (Int.tmod (w64 (a8)) 3)))), Value.slice A81 ((([] : List ByteArray) ++ a1.Keep) ++ [a9]).length c82] 24 :: bx g13 [Value.int .i64 a1.Before, Value.int .i64 a1.Behind, Value.slice A2 a1.Keep.length c3] 24 :: tk (Value.slice A298 y297.length c299) 2 37 :: tk (Value.slice A283 y282.length c284) 2 37 :: tk (Value.slice A81 ((([] : List ByteArray) ++ a1.Keep) ++ [a9]).length c82) 1 9 :: L) w ∧ True) ?_ ?_
                · replace H := hC
                  by_cases h427 : v414 = true
                  · replace H := ite_yes h427 H
                    refine q_mv (v := Value.int .i64 y304) rfl ?_ (hw := guard_yes rfl rfl rfl (bval_yes h427))
                    refine q_eql rfl rfl ?_ (hw := guard_yes rfl rfl rfl (bval_yes h427))
                    refine q_pick true (v := Value.bool (decide (y304 = 0))) (bval_yes h427) rfl ?_
                    refine wpq_nil ?_
                    cases H
                    exact ⟨rfl, _, rfl, (Gh.le_refl _), ⟨rfl, rfl, rfl, trivial⟩, hI418, trivial⟩
                  · replace H := ite_no h427 H
                    refine wpq_no (guard_no rfl rfl rfl (bval_no h427) rfl) ?_
                    refine wpq_no (guard_no rfl rfl rfl (bval_no h427) rfl) ?_
                    refine q_pick false (v := Value.bool false) (bval_no h427) rfl ?_
                    refine wpq_nil ?_
                    cases H
                    exact ⟨rfl, _, rfl, (Gh.le_refl _), ⟨rfl, rfl, rfl, trivial⟩, hI418, trivial⟩
                · clear hC
                  rintro e r ds wd424 ⟨rfl, G422, rfl, hG423, hHas, hI425, _⟩
                  rw [hHas.eq]; clear hHas
                  refine q_mv (v := Value.bool v421) rfl ?_
                  obtain ⟨v428, hC, H⟩ := bind_some H
                  refine wpq_split 5 (K := fun e r ds w => e = .normal ∧ ∃ (G429 : Gh), ds = [] ∧ G422 ≤ G429 ∧ Has [(115, Value.bool v428)] r ∧ Hp G429 (bx g78 [Value.string a9] 9 :: bx g62 [Value.int .i64 (min 5 (w64 (a1.Before + (Int.tmod (w64 (a7)) 3)))), Value.int .i64 (min 5 (w64 (a1.Behind + (Int.tmod (w64 (a8)) 3)))), Value.slice A81 ((([] : List ByteArray) ++ a1.Keep) ++ [a9]).length c82] 24 :: bx g13 [Value.int .i64 a1.Before, Value.int .i64 a1.Behind, Value.slice A2 a1.Keep.length c3] 24 :: tk (Value.slice A298 y297.length c299) 2 37 :: tk (Value.slice A283 y282.length c284) 2 37 :: tk (Value.slice A81 ((([] : List ByteArray) ++ a1.Keep) ++ [a9]).length c82) 1 9 :: L) w ∧ True) ?_ ?_
                  · replace H := hC
                    by_cases h434 : v421 = true
                    · replace H := ite_yes h434 H
                      refine q_mv (v := Value.int .i64 v324) rfl ?_ (hw := guard_yes rfl rfl rfl (bval_yes h434))
                      refine q_mv (v := Value.slice A298 y297.length c299) rfl ?_ (hw := guard_yes rfl rfl rfl (bval_yes h434))
                      refine q_len so26 rfl ?_ (hw := guard_yes rfl rfl rfl (bval_yes h434))
                      refine q_eql rfl rfl ?_ (hw := guard_yes rfl rfl rfl (bval_yes h434))
                      refine q_pick true (v := Value.bool (decide (v324 = (y297.length : Int)))) (bval_yes h434) rfl ?_
                      refine wpq_nil ?_
                      cases H
                      exact ⟨rfl, _, rfl, (Gh.le_refl _), ⟨rfl, trivial⟩, hI425, trivial⟩
                    · replace H := ite_no h434 H
                      refine wpq_no (guard_no rfl rfl rfl (bval_no h434) rfl) ?_
                      refine wpq_no (guard_no rfl rfl rfl (bval_no h434) rfl) ?_
                      refine wpq_no (guard_no rfl rfl rfl (bval_no h434) rfl) ?_
                      refine wpq_no (guard_no rfl rfl rfl (bval_no h434) rfl) ?_
                      refine q_pick false (v := Value.bool false) (bval_no h434) rfl ?_
                      refine wpq_nil ?_
                      cases H
                      exact ⟨rfl, _, rfl, (Gh.le_refl _), ⟨rfl, trivial⟩, hI425, trivial⟩
                  · clear hC
                    rintro e r ds wd431 ⟨rfl, G429, rfl, hG430, hHas, hI432, _⟩
                    rw [hHas.eq]; clear hHas
                    refine q_as (v := Value.bool v428) rfl ?_
                    refine wpq_nil ?_
                    refine hK413 _ _ _ ?_
                    refine wpc_ret ?_
                    have hI435 := Hp.sub (L := bx g78 [Value.string a9] 9 :: bx g62 [Value.int .i64 (min 5 (w64 (a1.Before + (Int.tmod (w64 (a7)) 3)))), Value.int .i64 (min 5 (w64 (a1.Behind + (Int.tmod (w64 (a8)) 3)))), Value.slice A81 ((([] : List ByteArray) ++ a1.Keep) ++ [a9]).length c82] 24 :: bx g13 [Value.int .i64 a1.Before, Value.int .i64 a1.Behind, Value.slice A2 a1.Keep.length c3] 24 :: tk (Value.slice A298 y297.length c299) 2 37 :: tk (Value.slice A283 y282.length c284) 2 37 :: tk (Value.slice A81 ((([] : List ByteArray) ++ a1.Keep) ++ [a9]).length c82) 1 9 :: L) (L' := L) hI432 (List.Sublist.cons _ (List.Sublist.cons _ (List.Sublist.cons _ (List.Sublist.cons _ (List.Sublist.cons _ (List.Sublist.cons _ (List.Sublist.refl _)))))))
                    cases H
                    exact ⟨.inr rfl, rfl, _, ⟨_, _, rfl, rfl, rfl⟩, _, (Gh.le_trans (Gh.le_trans (Gh.le_trans (Gh.le_trans (Gh.le_trans (Gh.le_trans (Gh.le_trans (Gh.le_trans (Gh.le_trans (Gh.le_trans hG20 hG30) hG68) hG85) hG99) hG279) hG294) hG330) hG416) hG423) hG430), hI435, rfl⟩
end Go.Proofs.YtiahgcidgbalkaaDoor.LG
