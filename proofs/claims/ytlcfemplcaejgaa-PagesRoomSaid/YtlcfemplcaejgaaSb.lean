/-
  The walks: each function computes its plain function: printed by a program out of the translation.
-/
import Derived.Test.YtlcfemplcaejgaaSa
set_option linter.unusedVariables false
set_option linter.unusedSimpArgs false
set_option maxRecDepth 100000
namespace Go.Proofs.Ytlcfemplcaejgaa.LG
open Go Go.LG Go.RowKit Go.Value
set_option maxHeartbeats 20000000
theorem jA {a1} {a6 : List Bool} {A2 c3 A7 c8 bj G L w} (H : dp a1 a6 = some bj) (hI : Hp G L w) (cb : a1.length ≤ c3) (bk : Dat ah G A2 a1) (cc : a6.length ≤ c8) (cd : Dat Kd.bool G A7 a6) :
    Calls Try.prog 21 [slice A2 a1.length c3, slice A7 a6.length c8].toArray w fun e w' => Hp G L w' ∧ e = .returned (bool bj) := by
 refine aw (N := 71) Try.func21 z z (Nat.le_of_ble_eq_true z)<|?_
 unfold dp at H
 refine sr fun ce bz=>aK z<|nl<|bz _ _ _<|sQ fun cf bA=>sr fun cg bB=>mv z<|q_len dA z<|gq z z<|mv z<|bK H fun bl hC H=>js 6 hI [(0, slice A2 a1.length c3), (16, bool bl)] ?_ fun _ ch bo=>?_
 refine have H:=hC;dC (10000 < (a1.length : Int)) (fun aL=>?_) fun aL=>?_
 refine yK aL H fun H=>Sk 5 z z (bY aL) z<|cY (bY aL) z<|nl<|?_
 cases H
 exact je ⟨z, z, tv⟩ hI
 refine nK aL H fun H=>mv (hw:=gY z z z (bN aL)) z<|q_len (hw:=gY z z z (bN aL)) qL z<|mv (hw:=gY z z z (bN aL)) z<|q_len (hw:=gY z z z (bN aL)) dA z<|lx (hw:=gY z z z (bN aL)) z z<|dm (bN aL) z<|nl<|?_
 cases H
 exact je ⟨z, z, tv⟩ hI
 refine nl<|bB _ _ _<|dC (bl = true) (fun aZ=>?_) fun aZ=>?_
 refine yK aZ H fun H=>wt (vY aZ)<|sr fun ci bC=>aK z<|nl<|bC _ _ _<|wr<|?_
 cases H
 exact rt ⟨_, _, z, z, z⟩ bo
 refine nK aZ H fun H=>wf (vN aZ)<|ws<|bA _ _ _<|sQ fun cj bD=>sr fun ck bE=>mv z<|q_len dA z<|mv z<|nl<|bE _ _ _<|wb<|bK H fun bd hC H=>aP (Q := fun e r ds w => match (generalizing := false) bd with | (Sum.inl _) => e = .ret ∧ ds = [] ∧ Has [(4, bool false)] r ∧ Hp G (L) w ∧ True | (Sum.inr _) => e = .exit 0 ∧ ds = [] ∧ Has [] r ∧ Hp G (L) w ∧ True) ?_ ?_
 refine bH fun I bw=>?_
 refine bR.partial_correctness a1 (fun l o => ∀ (r : Rg) (w : World), Has [(0, slice A2 a1.length c3), (17, slice A2 a1.length c3), (18, int .i64 (a1.length : Int)), (19, int .i64 l)] r → Hp G (L) w → o = bd → I r [] w) ?_ 0 _ hC _ _ ⟨rfl, rfl, rfl, rfl, tv⟩ bo rfl
 intro _ ih l o H r cl aT be ho
 rw [ho] at H; clear ho
 rw [aT.eq]; clear aT
 refine bw _ _ _<|sr fun cn bF=>cZ z z<|nl<|bF _ _ _<|sQ fun co bG=>dC (l < (a1.length : Int)) (fun a0=>?_) fun a0=>?_
 refine yK a0 H fun H=>wt (bY a0)<|ws<|bG _ _ _<|sQ fun cp bI=>wb<|sr fun cq bJ=>mv z<|iK H fun⟨bp, bq⟩H=>?_
 obtain ⟨cr, ct, bM, bO, cu, bP⟩ := Dat.get bk aa (l) bp bq
 obtain ⟨rfl⟩ := aF bO
 refine bL cA z bM z bp bq<|fq be dx z (cs := [int .i64 ((a1.getD (Int.toNat l) aa).Node), int .i64 ((a1.getD (Int.toNat l) aa).Table), int .i64 ((a1.getD (Int.toNat l) aa).X), int .i64 ((a1.getD (Int.toNat l) aa).Y), int .i64 ((a1.getD (Int.toNat l) aa).H), string ((a1.getD (Int.toNat l) aa).Text), bool ((a1.getD (Int.toNat l) aa).Head), bool ((a1.getD (Int.toNat l) aa).Note)]) z (fun j v hv => gR.cel _ _ (bP j v hv))<|bQ be cP fun ad cw bS=>aK z<|f5 bS 0 dx z z z z z z z fun cx aU=>nl<|bJ _ _ _<|sQ fun cy bT=>bK H fun br hC H=>jc .normal aU [(0, slice A2 a1.length c3), (17, slice A2 a1.length c3), (18, int .i64 (a1.length : Int)), (19, int .i64 l), (69, bool br)] ?_ fun _ cz bs=>?_
 refine have H:=hC;bK H fun ax aV H=>dC ((!ax) = true) (fun av=>?_) fun av=>?_
 refine yK av H fun H=>?_
 refine aM [0, 1, 3, 7, 15, 31, 63, 127, 255, 511, 1023, 2047, 4095, 2047, 10239, 32767, 65535, 131071, 262143, 524287, 1048575, 2097151, 4194303, 8388607, 16777215, 33554431, 67108863, 134217727, 268435455, 536870911, 1073741823, 2147483647, 4294967295, 8589934591, 17179869183, 34359738367, 68719476735, 34359738367, 34359738367, 309237645311, 996432412671, 2095944040447, 4294967295999, 8796093022207, 17592186044415, 35184372088831] (fun D r w => (∃ (G' : Gh), G ≤ G' ∧ ag [(0, slice A2 a1.length c3), (6, pointer (some ⟨ad, 0, none⟩)), (17, slice A2 a1.length c3), (18, int .i64 (a1.length : Int)), (19, int .i64 l)] [] [(0, 24, pointer (some ⟨ad, 0, none⟩)), (1, 25, int .i64 ((a1.getD (Int.toNat l) aa).Node)), (2, 26, bool ax), (3, 27, bool (!ax)), (4, 28, bool (!ax)), (5, 29, undef), (6, 30, undef), (7, 31, undef), (8, 32, undef), (9, 33, bool true), (10, 34, bool true), (11, 35, undef), (12, 36, undef), (13, 37, undef), (14, 38, undef), (15, 39, undef), (16, 40, undef), (17, 41, undef), (18, 42, bool true), (19, 43, bool true), (20, 44, undef), (21, 45, undef), (22, 46, undef), (23, 47, undef), (24, 48, bool true), (25, 49, bool true), (26, 50, undef), (27, 51, undef), (28, 52, undef), (29, 53, undef), (30, 54, bool true), (31, 55, bool true), (32, 56, undef), (33, 57, undef), (34, 58, undef), (35, 59, undef), (36, 60, undef), (37, 61, undef), (38, 62, undef), (39, 63, undef), (40, 64, undef), (41, 65, undef), (42, 66, undef), (43, 67, undef), (44, 68, undef), (45, 69, bool true)] D r ∧ Hp G' (bx ad [int .i64 ((a1.getD (Int.toNat l) aa).Node), int .i64 ((a1.getD (Int.toNat l) aa).Table), int .i64 ((a1.getD (Int.toNat l) aa).X), int .i64 ((a1.getD (Int.toNat l) aa).Y), int .i64 ((a1.getD (Int.toNat l) aa).H), string ((a1.getD (Int.toNat l) aa).Text), bool ((a1.getD (Int.toNat l) aa).Head), bool ((a1.getD (Int.toNat l) aa).Note)] 36 :: L) w)) dJ z z ?_ ?_ ?_
 exact ⟨_, Gh.le_refl _, ag.start ⟨z, z, z, z, z, tv⟩ trivial, aU.drew⟩
 refine ⟨?_, ?_, ?_, ?_, ?_, ?_, ?_, ?_, ?_, ?_, ?_, ?_, ?_, ?_, ?_, ?_, ?_, ?_, ?_, ?_, ?_, ?_, ?_, ?_, ?_, ?_, ?_, ?_, ?_, ?_, ?_, ?_, ?_, ?_, ?_, ?_, ?_, ?_, ?_, ?_, ?_, ?_, ?_, ?_, ?_, ?_, tv⟩
 rintro D r af ⟨ai, T, x, S⟩ b a c
 obtain ⟨k, rfl⟩ := Has.ex (cC (x.ins.get 1 rfl) cN)
 exact fa iC z<|nl ⟨z, ⟨_, T, (ag.step x b z z z z), S⟩⟩
 rintro D r af ⟨ai, T, x, S⟩ b a c
 obtain ⟨k, rfl⟩ := Has.ex (cC (x.get 0 rfl (a 0 rfl)) cN)
 exact ld S 0 bb z z z<|nl ⟨z, ⟨_, T, (ag.step x b z z z z), S⟩⟩
 rintro D r af ⟨ai, T, x, S⟩ b a c
 obtain ⟨k, rfl⟩ := Has.ex (cC (x.get 1 rfl (a 1 rfl)) cN)
 exact cv gM (aD aV S) z z fun aX aJ=>nl ⟨z, ⟨_, T, (ag.step x b z z z z), aJ⟩⟩
 rintro D r af ⟨ai, T, x, S⟩ b a c
 obtain ⟨k, rfl⟩ := Has.ex (cC (x.get 2 rfl (a 2 rfl)) cN)
 exact bV z<|nl ⟨z, ⟨_, T, (ag.step x b z z z z), S⟩⟩
 rintro D r af ⟨ai, T, x, S⟩ b a c
 obtain ⟨k, rfl⟩ := Has.ex (cC (x.get 3 rfl (a 3 rfl)) cN)
 exact mv z<|nl ⟨z, ⟨_, T, (ag.step x b z z z z), S⟩⟩
 rintro D r af ⟨ai, T, x, S⟩ b a c
 obtain ⟨k, rfl⟩ := Has.ex (cC (x.get 4 rfl (a 4 rfl)) cN)
 exact wN (gN z z z (vY av) z)<|nl ⟨z, ⟨_, T, (ag.step x b z z z z), S⟩⟩
 rintro D r af ⟨ai, T, x, S⟩ b a c
 obtain ⟨k, rfl⟩ := Has.ex (cC (x.get 4 rfl (a 4 rfl)) cN)
 exact wN (gN z z z (vY av) z)<|nl ⟨z, ⟨_, T, (ag.step x b z z z z), S⟩⟩
 rintro D r af ⟨ai, T, x, S⟩ b a c
 obtain ⟨k, rfl⟩ := Has.ex (cC (x.get 4 rfl (a 4 rfl)) cN)
 exact wN (gN z z z (vY av) z)<|nl ⟨z, ⟨_, T, (ag.step x b z z z z), S⟩⟩
 rintro D r af ⟨ai, T, x, S⟩ b a c
 obtain ⟨k, rfl⟩ := Has.ex (cC (x.get 4 rfl (a 4 rfl)) cN)
 exact wN (gN z z z (vY av) z)<|nl ⟨z, ⟨_, T, (ag.step x b z z z z), S⟩⟩
 rintro D r af ⟨ai, T, x, S⟩ b a c
 obtain ⟨k, rfl⟩ := Has.ex (cC (x.get 4 rfl (a 4 rfl)) (cC (x.get 8 rfl (a 8 rfl)) cN))
 exact cY (vY av) z<|nl ⟨z, ⟨_, T, (ag.step x b z z z z), S⟩⟩
 rintro D r af ⟨ai, T, x, S⟩ b a c
 obtain ⟨k, rfl⟩ := Has.ex (cC (x.get 9 rfl (a 9 rfl)) cN)
 exact mv z<|nl ⟨z, ⟨_, T, (ag.step x b z z z z), S⟩⟩
 rintro D r af ⟨ai, T, x, S⟩ b a c
 obtain ⟨k, rfl⟩ := Has.ex (cC (x.get 10 rfl (a 10 rfl)) cN)
 exact wN (gN z z z z z)<|nl ⟨z, ⟨_, T, (ag.step x b z z z z), S⟩⟩
 rintro D r af ⟨ai, T, x, S⟩ b a c
 obtain ⟨k, rfl⟩ := Has.ex (cC (x.get 10 rfl (a 10 rfl)) cN)
 exact wN (gN z z z z z)<|nl ⟨z, ⟨_, T, (ag.step x b z z z z), S⟩⟩
 rintro D r af ⟨ai, T, x, S⟩ b a c
 obtain ⟨k, rfl⟩ := Has.ex (cC (x.get 10 rfl (a 10 rfl)) cN)
 exact wN (gN z z z z z)<|nl ⟨z, ⟨_, T, (ag.step x b z z z z), S⟩⟩
 rintro D r af ⟨ai, T, x, S⟩ b a c
 obtain ⟨k, rfl⟩ := Has.ex (cC (x.get 10 rfl (a 10 rfl)) cN)
 exact wN (gN z z z z z)<|nl ⟨z, ⟨_, T, (ag.step x b z z z z), S⟩⟩
 rintro D r af ⟨ai, T, x, S⟩ b a c
 obtain ⟨k, rfl⟩ := Has.ex (cC (x.get 10 rfl (a 10 rfl)) cN)
 exact wN (gN z z z z z)<|nl ⟨z, ⟨_, T, (ag.step x b z z z z), S⟩⟩
 rintro D r af ⟨ai, T, x, S⟩ b a c
 obtain ⟨k, rfl⟩ := Has.ex (cC (x.get 10 rfl (a 10 rfl)) cN)
 exact wN (gN z z z z z)<|nl ⟨z, ⟨_, T, (ag.step x b z z z z), S⟩⟩
 rintro D r af ⟨ai, T, x, S⟩ b a c
 obtain ⟨k, rfl⟩ := Has.ex (cC (x.get 10 rfl (a 10 rfl)) cN)
 exact wN (gN z z z z z)<|nl ⟨z, ⟨_, T, (ag.step x b z z z z), S⟩⟩
 rintro D r af ⟨ai, T, x, S⟩ b a c
 obtain ⟨k, rfl⟩ := Has.ex (cC (x.get 10 rfl (a 10 rfl)) (cC (x.get 17 rfl (a 17 rfl)) cN))
 exact cY z z<|nl ⟨z, ⟨_, T, (ag.step x b z z z z), S⟩⟩
 rintro D r af ⟨ai, T, x, S⟩ b a c
 obtain ⟨k, rfl⟩ := Has.ex (cC (x.get 18 rfl (a 18 rfl)) cN)
 exact mv z<|nl ⟨z, ⟨_, T, (ag.step x b z z z z), S⟩⟩
 rintro D r af ⟨ai, T, x, S⟩ b a c
 obtain ⟨k, rfl⟩ := Has.ex (cC (x.get 19 rfl (a 19 rfl)) cN)
 exact wN (gN z z z z z)<|nl ⟨z, ⟨_, T, (ag.step x b z z z z), S⟩⟩
 rintro D r af ⟨ai, T, x, S⟩ b a c
 obtain ⟨k, rfl⟩ := Has.ex (cC (x.get 19 rfl (a 19 rfl)) cN)
 exact wN (gN z z z z z)<|nl ⟨z, ⟨_, T, (ag.step x b z z z z), S⟩⟩
 rintro D r af ⟨ai, T, x, S⟩ b a c
 obtain ⟨k, rfl⟩ := Has.ex (cC (x.get 19 rfl (a 19 rfl)) cN)
 exact wN (gN z z z z z)<|nl ⟨z, ⟨_, T, (ag.step x b z z z z), S⟩⟩
 rintro D r af ⟨ai, T, x, S⟩ b a c
 obtain ⟨k, rfl⟩ := Has.ex (cC (x.get 19 rfl (a 19 rfl)) cN)
 exact wN (gN z z z z z)<|nl ⟨z, ⟨_, T, (ag.step x b z z z z), S⟩⟩
 rintro D r af ⟨ai, T, x, S⟩ b a c
 obtain ⟨k, rfl⟩ := Has.ex (cC (x.get 19 rfl (a 19 rfl)) (cC (x.get 23 rfl (a 23 rfl)) cN))
 exact cY z z<|nl ⟨z, ⟨_, T, (ag.step x b z z z z), S⟩⟩
 rintro D r af ⟨ai, T, x, S⟩ b a c
 obtain ⟨k, rfl⟩ := Has.ex (cC (x.get 24 rfl (a 24 rfl)) cN)
 exact mv z<|nl ⟨z, ⟨_, T, (ag.step x b z z z z), S⟩⟩
 rintro D r af ⟨ai, T, x, S⟩ b a c
 obtain ⟨k, rfl⟩ := Has.ex (cC (x.get 25 rfl (a 25 rfl)) cN)
 exact wN (gN z z z z z)<|nl ⟨z, ⟨_, T, (ag.step x b z z z z), S⟩⟩
 rintro D r af ⟨ai, T, x, S⟩ b a c
 obtain ⟨k, rfl⟩ := Has.ex (cC (x.get 25 rfl (a 25 rfl)) cN)
 exact wN (gN z z z z z)<|nl ⟨z, ⟨_, T, (ag.step x b z z z z), S⟩⟩
 rintro D r af ⟨ai, T, x, S⟩ b a c
 obtain ⟨k, rfl⟩ := Has.ex (cC (x.get 25 rfl (a 25 rfl)) cN)
 exact wN (gN z z z z z)<|nl ⟨z, ⟨_, T, (ag.step x b z z z z), S⟩⟩
 rintro D r af ⟨ai, T, x, S⟩ b a c
 obtain ⟨k, rfl⟩ := Has.ex (cC (x.get 25 rfl (a 25 rfl)) cN)
 exact wN (gN z z z z z)<|nl ⟨z, ⟨_, T, (ag.step x b z z z z), S⟩⟩
 rintro D r af ⟨ai, T, x, S⟩ b a c
 obtain ⟨k, rfl⟩ := Has.ex (cC (x.get 25 rfl (a 25 rfl)) (cC (x.get 29 rfl (a 29 rfl)) cN))
 exact cY z z<|nl ⟨z, ⟨_, T, (ag.step x b z z z z), S⟩⟩
 rintro D r af ⟨ai, T, x, S⟩ b a c
 obtain ⟨k, rfl⟩ := Has.ex (cC (x.get 30 rfl (a 30 rfl)) cN)
 exact mv z<|nl ⟨z, ⟨_, T, (ag.step x b z z z z), S⟩⟩
 rintro D r af ⟨ai, T, x, S⟩ b a c
 obtain ⟨k, rfl⟩ := Has.ex (cC (x.get 31 rfl (a 31 rfl)) cN)
 exact wN (gN z z z z z)<|nl ⟨z, ⟨_, T, (ag.step x b z z z z), S⟩⟩
 rintro D r af ⟨ai, T, x, S⟩ b a c
 obtain ⟨k, rfl⟩ := Has.ex (cC (x.get 31 rfl (a 31 rfl)) cN)
 exact wN (gN z z z z z)<|nl ⟨z, ⟨_, T, (ag.step x b z z z z), S⟩⟩
 rintro D r af ⟨ai, T, x, S⟩ b a c
 obtain ⟨k, rfl⟩ := Has.ex (cC (x.get 31 rfl (a 31 rfl)) cN)
 exact wN (gN z z z z z)<|nl ⟨z, ⟨_, T, (ag.step x b z z z z), S⟩⟩
 rintro D r af ⟨ai, T, x, S⟩ b a c
 obtain ⟨k, rfl⟩ := Has.ex (cC (x.get 34 rfl (a 34 rfl)) cN)
 exact wN (gN z z z z z)<|nl ⟨z, ⟨_, T, (ag.step x b z z z z), S⟩⟩
 rintro D r af ⟨ai, T, x, S⟩ b a c
 obtain ⟨k, rfl⟩ := Has.ex (cC (x.get 34 rfl (a 34 rfl)) cN)
 exact wN (gN z z z z z)<|nl ⟨z, ⟨_, T, (ag.step x b z z z z), S⟩⟩
 rintro D r af ⟨ai, T, x, S⟩ b a c
 obtain ⟨k, rfl⟩ := Has.ex (cC (x.get 34 rfl (a 34 rfl)) cN)
 exact wN (gN z z z z z)<|nl ⟨z, ⟨_, T, (ag.step x b z z z z), S⟩⟩
 rintro D r af ⟨ai, T, x, S⟩ b a c
 obtain ⟨k, rfl⟩ := Has.ex (cC (x.get 34 rfl (a 34 rfl)) cN)
 exact wN (gN z z z z z)<|nl ⟨z, ⟨_, T, (ag.step x b z z z z), S⟩⟩
 rintro D r af ⟨ai, T, x, S⟩ b a c
 obtain ⟨k, rfl⟩ := Has.ex (cC (x.get 34 rfl (a 34 rfl)) cN)
 exact wN (gN z z z z z)<|nl ⟨z, ⟨_, T, (ag.step x b z z z z), S⟩⟩
 rintro D r af ⟨ai, T, x, S⟩ b a c
 obtain ⟨k, rfl⟩ := Has.ex (cC (x.get 34 rfl (a 34 rfl)) cN)
 exact wN (gN z z z z z)<|nl ⟨z, ⟨_, T, (ag.step x b z z z z), S⟩⟩
 rintro D r af ⟨ai, T, x, S⟩ b a c
 obtain ⟨k, rfl⟩ := Has.ex (cC (x.get 34 rfl (a 34 rfl)) cN)
 exact wN (gN z z z z z)<|nl ⟨z, ⟨_, T, (ag.step x b z z z z), S⟩⟩
 rintro D r af ⟨ai, T, x, S⟩ b a c
 obtain ⟨k, rfl⟩ := Has.ex (cC (x.get 34 rfl (a 34 rfl)) cN)
 exact wN (gN z z z z z)<|nl ⟨z, ⟨_, T, (ag.step x b z z z z), S⟩⟩
 rintro D r af ⟨ai, T, x, S⟩ b a c
 obtain ⟨k, rfl⟩ := Has.ex (cC (x.get 34 rfl (a 34 rfl)) cN)
 exact wN (gN z z z z z)<|nl ⟨z, ⟨_, T, (ag.step x b z z z z), S⟩⟩
 rintro D r af ⟨ai, T, x, S⟩ b a c
 obtain ⟨k, rfl⟩ := Has.ex (cC (x.get 31 rfl (a 31 rfl)) cN)
 exact wN (gN z z z z z)<|nl ⟨z, ⟨_, T, (ag.step x b z z z z), S⟩⟩
 rintro D r af ⟨ai, T, x, S⟩ b a c
 obtain ⟨k, rfl⟩ := Has.ex (cC (x.get 31 rfl (a 31 rfl)) (cC (x.get 44 rfl (a 44 rfl)) cN))
 exact cY z z<|nl ⟨z, ⟨_, T, (ag.step x b z z z z), S⟩⟩
 intro D r af P hR
 obtain ⟨ai, T, x, S⟩ := hR
 obtain ⟨k, rfl⟩ := Has.ex (cC (x.ins.get 0 rfl) (cC (x.ins.get 2 rfl) (cC (x.ins.get 3 rfl) (cC (x.ins.get 4 rfl) (cC (x.get 45 rfl (P 45 (Nat.le_of_ble_eq_true rfl))) cN)))))
 cases H
 exact je ⟨z, z, z, z, z, tv⟩ (Hp.low T S)
 refine nK av H fun H=>bK H fun ar aY H=>dC ((!ar) = true) (fun ae=>?_) fun ae=>?_
 refine yK ae H fun H=>?_
 refine aM [0, 1, 3, 7, 15, 31, 63, 127, 255, 511, 1023, 2047, 4095, 2047, 10239, 32767, 65535, 131071, 262143, 524287, 1048575, 2097151, 4194303, 8388607, 16777215, 33554431, 67108863, 134217727, 268435455, 536870911, 1073741823, 2147483647, 4294967295, 8589934591, 17179869183, 34359738367, 68719476735, 34359738367, 34359738367, 309237645311, 996432412671, 2095944040447, 4294967295999, 8796093022207, 17592186044415, 35184372088831] (fun D r w => (∃ (G' : Gh), G ≤ G' ∧ ag [(0, slice A2 a1.length c3), (6, pointer (some ⟨ad, 0, none⟩)), (17, slice A2 a1.length c3), (18, int .i64 (a1.length : Int)), (19, int .i64 l)] [] [(0, 24, pointer (some ⟨ad, 0, none⟩)), (1, 25, int .i64 ((a1.getD (Int.toNat l) aa).Node)), (2, 26, bool ax), (3, 27, bool (!ax)), (4, 28, bool (!ax)), (5, 29, pointer (some ⟨ad, 1, none⟩)), (6, 30, int .i64 ((a1.getD (Int.toNat l) aa).Table)), (7, 31, bool ar), (8, 32, bool (!ar)), (9, 33, bool (!ar)), (10, 34, bool (!ar)), (11, 35, undef), (12, 36, undef), (13, 37, undef), (14, 38, undef), (15, 39, undef), (16, 40, undef), (17, 41, undef), (18, 42, bool true), (19, 43, bool true), (20, 44, undef), (21, 45, undef), (22, 46, undef), (23, 47, undef), (24, 48, bool true), (25, 49, bool true), (26, 50, undef), (27, 51, undef), (28, 52, undef), (29, 53, undef), (30, 54, bool true), (31, 55, bool true), (32, 56, undef), (33, 57, undef), (34, 58, undef), (35, 59, undef), (36, 60, undef), (37, 61, undef), (38, 62, undef), (39, 63, undef), (40, 64, undef), (41, 65, undef), (42, 66, undef), (43, 67, undef), (44, 68, undef), (45, 69, bool true)] D r ∧ Hp G' (bx ad [int .i64 ((a1.getD (Int.toNat l) aa).Node), int .i64 ((a1.getD (Int.toNat l) aa).Table), int .i64 ((a1.getD (Int.toNat l) aa).X), int .i64 ((a1.getD (Int.toNat l) aa).Y), int .i64 ((a1.getD (Int.toNat l) aa).H), string ((a1.getD (Int.toNat l) aa).Text), bool ((a1.getD (Int.toNat l) aa).Head), bool ((a1.getD (Int.toNat l) aa).Note)] 36 :: L) w)) dJ z z ?_ ?_ ?_
 exact ⟨_, Gh.le_refl _, ag.start ⟨z, z, z, z, z, tv⟩ trivial, aU.drew⟩
 refine ⟨?_, ?_, ?_, ?_, ?_, ?_, ?_, ?_, ?_, ?_, ?_, ?_, ?_, ?_, ?_, ?_, ?_, ?_, ?_, ?_, ?_, ?_, ?_, ?_, ?_, ?_, ?_, ?_, ?_, ?_, ?_, ?_, ?_, ?_, ?_, ?_, ?_, ?_, ?_, ?_, ?_, ?_, ?_, ?_, ?_, ?_, tv⟩
 rintro D r ak ⟨al, U, u, R⟩ b a c
 obtain ⟨k, rfl⟩ := Has.ex (cC (u.ins.get 1 rfl) cN)
 exact fa iC z<|nl ⟨z, ⟨_, U, (ag.step u b z z z z), R⟩⟩
 rintro D r ak ⟨al, U, u, R⟩ b a c
 obtain ⟨k, rfl⟩ := Has.ex (cC (u.get 0 rfl (a 0 rfl)) cN)
 exact ld R 0 bb z z z<|nl ⟨z, ⟨_, U, (ag.step u b z z z z), R⟩⟩
 rintro D r ak ⟨al, U, u, R⟩ b a c
 obtain ⟨k, rfl⟩ := Has.ex (cC (u.get 1 rfl (a 1 rfl)) cN)
 exact cv gM (aD aV R) z z fun aX aJ=>nl ⟨z, ⟨_, U, (ag.step u b z z z z), aJ⟩⟩
 rintro D r ak ⟨al, U, u, R⟩ b a c
 obtain ⟨k, rfl⟩ := Has.ex (cC (u.get 2 rfl (a 2 rfl)) cN)
 exact bV z<|nl ⟨z, ⟨_, U, (ag.step u b z z z z), R⟩⟩
 rintro D r ak ⟨al, U, u, R⟩ b a c
 obtain ⟨k, rfl⟩ := Has.ex (cC (u.get 3 rfl (a 3 rfl)) cN)
 exact mv z<|nl ⟨z, ⟨_, U, (ag.step u b z z z z), R⟩⟩
 rintro D r ak ⟨al, U, u, R⟩ b a c
 obtain ⟨k, rfl⟩ := Has.ex (cC (u.ins.get 1 rfl) (cC (u.get 4 rfl (a 4 rfl)) cN))
 exact fa (hw:=gY z z z (vN av)) hX z<|nl ⟨z, ⟨_, U, (ag.step u b z z z z), R⟩⟩
 rintro D r ak ⟨al, U, u, R⟩ b a c
 obtain ⟨k, rfl⟩ := Has.ex (cC (u.get 4 rfl (a 4 rfl)) (cC (u.get 5 rfl (a 5 rfl)) cN))
 exact ld (hw:=gY z z z (vN av)) R 0 bb z z z<|nl ⟨z, ⟨_, U, (ag.step u b z z z z), R⟩⟩
 rintro D r ak ⟨al, U, u, R⟩ b a c
 obtain ⟨k, rfl⟩ := Has.ex (cC (u.get 4 rfl (a 4 rfl)) (cC (u.get 6 rfl (a 6 rfl)) cN))
 exact cv (hw:=gY z z z (vN av)) gM (aD aY R) z z fun a2 aN=>nl ⟨z, ⟨_, U, (ag.step u b z z z z), aN⟩⟩
 rintro D r ak ⟨al, U, u, R⟩ b a c
 obtain ⟨k, rfl⟩ := Has.ex (cC (u.get 4 rfl (a 4 rfl)) (cC (u.get 7 rfl (a 7 rfl)) cN))
 exact bV (hw:=gY z z z (vN av)) z<|nl ⟨z, ⟨_, U, (ag.step u b z z z z), R⟩⟩
 rintro D r ak ⟨al, U, u, R⟩ b a c
 obtain ⟨k, rfl⟩ := Has.ex (cC (u.get 4 rfl (a 4 rfl)) (cC (u.get 8 rfl (a 8 rfl)) cN))
 exact dm (vN av) z<|nl ⟨z, ⟨_, U, (ag.step u b z z z z), R⟩⟩
 rintro D r ak ⟨al, U, u, R⟩ b a c
 obtain ⟨k, rfl⟩ := Has.ex (cC (u.get 9 rfl (a 9 rfl)) cN)
 exact mv z<|nl ⟨z, ⟨_, U, (ag.step u b z z z z), R⟩⟩
 rintro D r ak ⟨al, U, u, R⟩ b a c
 obtain ⟨k, rfl⟩ := Has.ex (cC (u.get 10 rfl (a 10 rfl)) cN)
 exact wN (gN z z z (vY ae) z)<|nl ⟨z, ⟨_, U, (ag.step u b z z z z), R⟩⟩
 rintro D r ak ⟨al, U, u, R⟩ b a c
 obtain ⟨k, rfl⟩ := Has.ex (cC (u.get 10 rfl (a 10 rfl)) cN)
 exact wN (gN z z z (vY ae) z)<|nl ⟨z, ⟨_, U, (ag.step u b z z z z), R⟩⟩
 rintro D r ak ⟨al, U, u, R⟩ b a c
 obtain ⟨k, rfl⟩ := Has.ex (cC (u.get 10 rfl (a 10 rfl)) cN)
 exact wN (gN z z z (vY ae) z)<|nl ⟨z, ⟨_, U, (ag.step u b z z z z), R⟩⟩
 rintro D r ak ⟨al, U, u, R⟩ b a c
 obtain ⟨k, rfl⟩ := Has.ex (cC (u.get 10 rfl (a 10 rfl)) cN)
 exact wN (gN z z z (vY ae) z)<|nl ⟨z, ⟨_, U, (ag.step u b z z z z), R⟩⟩
 rintro D r ak ⟨al, U, u, R⟩ b a c
 obtain ⟨k, rfl⟩ := Has.ex (cC (u.get 10 rfl (a 10 rfl)) cN)
 exact wN (gN z z z (vY ae) z)<|nl ⟨z, ⟨_, U, (ag.step u b z z z z), R⟩⟩
 rintro D r ak ⟨al, U, u, R⟩ b a c
 obtain ⟨k, rfl⟩ := Has.ex (cC (u.get 10 rfl (a 10 rfl)) cN)
 exact wN (gN z z z (vY ae) z)<|nl ⟨z, ⟨_, U, (ag.step u b z z z z), R⟩⟩
 rintro D r ak ⟨al, U, u, R⟩ b a c
 obtain ⟨k, rfl⟩ := Has.ex (cC (u.get 10 rfl (a 10 rfl)) cN)
 exact wN (gN z z z (vY ae) z)<|nl ⟨z, ⟨_, U, (ag.step u b z z z z), R⟩⟩
 rintro D r ak ⟨al, U, u, R⟩ b a c
 obtain ⟨k, rfl⟩ := Has.ex (cC (u.get 10 rfl (a 10 rfl)) (cC (u.get 17 rfl (a 17 rfl)) cN))
 exact cY (vY ae) z<|nl ⟨z, ⟨_, U, (ag.step u b z z z z), R⟩⟩
 rintro D r ak ⟨al, U, u, R⟩ b a c
 obtain ⟨k, rfl⟩ := Has.ex (cC (u.get 18 rfl (a 18 rfl)) cN)
 exact mv z<|nl ⟨z, ⟨_, U, (ag.step u b z z z z), R⟩⟩
 rintro D r ak ⟨al, U, u, R⟩ b a c
 obtain ⟨k, rfl⟩ := Has.ex (cC (u.get 19 rfl (a 19 rfl)) cN)
 exact wN (gN z z z z z)<|nl ⟨z, ⟨_, U, (ag.step u b z z z z), R⟩⟩
 rintro D r ak ⟨al, U, u, R⟩ b a c
 obtain ⟨k, rfl⟩ := Has.ex (cC (u.get 19 rfl (a 19 rfl)) cN)
 exact wN (gN z z z z z)<|nl ⟨z, ⟨_, U, (ag.step u b z z z z), R⟩⟩
 rintro D r ak ⟨al, U, u, R⟩ b a c
 obtain ⟨k, rfl⟩ := Has.ex (cC (u.get 19 rfl (a 19 rfl)) cN)
 exact wN (gN z z z z z)<|nl ⟨z, ⟨_, U, (ag.step u b z z z z), R⟩⟩
 rintro D r ak ⟨al, U, u, R⟩ b a c
 obtain ⟨k, rfl⟩ := Has.ex (cC (u.get 19 rfl (a 19 rfl)) cN)
 exact wN (gN z z z z z)<|nl ⟨z, ⟨_, U, (ag.step u b z z z z), R⟩⟩
 rintro D r ak ⟨al, U, u, R⟩ b a c
 obtain ⟨k, rfl⟩ := Has.ex (cC (u.get 19 rfl (a 19 rfl)) (cC (u.get 23 rfl (a 23 rfl)) cN))
 exact cY z z<|nl ⟨z, ⟨_, U, (ag.step u b z z z z), R⟩⟩
 rintro D r ak ⟨al, U, u, R⟩ b a c
 obtain ⟨k, rfl⟩ := Has.ex (cC (u.get 24 rfl (a 24 rfl)) cN)
 exact mv z<|nl ⟨z, ⟨_, U, (ag.step u b z z z z), R⟩⟩
 rintro D r ak ⟨al, U, u, R⟩ b a c
 obtain ⟨k, rfl⟩ := Has.ex (cC (u.get 25 rfl (a 25 rfl)) cN)
 exact wN (gN z z z z z)<|nl ⟨z, ⟨_, U, (ag.step u b z z z z), R⟩⟩
 rintro D r ak ⟨al, U, u, R⟩ b a c
 obtain ⟨k, rfl⟩ := Has.ex (cC (u.get 25 rfl (a 25 rfl)) cN)
 exact wN (gN z z z z z)<|nl ⟨z, ⟨_, U, (ag.step u b z z z z), R⟩⟩
 rintro D r ak ⟨al, U, u, R⟩ b a c
 obtain ⟨k, rfl⟩ := Has.ex (cC (u.get 25 rfl (a 25 rfl)) cN)
 exact wN (gN z z z z z)<|nl ⟨z, ⟨_, U, (ag.step u b z z z z), R⟩⟩
 rintro D r ak ⟨al, U, u, R⟩ b a c
 obtain ⟨k, rfl⟩ := Has.ex (cC (u.get 25 rfl (a 25 rfl)) cN)
 exact wN (gN z z z z z)<|nl ⟨z, ⟨_, U, (ag.step u b z z z z), R⟩⟩
 rintro D r ak ⟨al, U, u, R⟩ b a c
 obtain ⟨k, rfl⟩ := Has.ex (cC (u.get 25 rfl (a 25 rfl)) (cC (u.get 29 rfl (a 29 rfl)) cN))
 exact cY z z<|nl ⟨z, ⟨_, U, (ag.step u b z z z z), R⟩⟩
 rintro D r ak ⟨al, U, u, R⟩ b a c
 obtain ⟨k, rfl⟩ := Has.ex (cC (u.get 30 rfl (a 30 rfl)) cN)
 exact mv z<|nl ⟨z, ⟨_, U, (ag.step u b z z z z), R⟩⟩
 rintro D r ak ⟨al, U, u, R⟩ b a c
 obtain ⟨k, rfl⟩ := Has.ex (cC (u.get 31 rfl (a 31 rfl)) cN)
 exact wN (gN z z z z z)<|nl ⟨z, ⟨_, U, (ag.step u b z z z z), R⟩⟩
 rintro D r ak ⟨al, U, u, R⟩ b a c
 obtain ⟨k, rfl⟩ := Has.ex (cC (u.get 31 rfl (a 31 rfl)) cN)
 exact wN (gN z z z z z)<|nl ⟨z, ⟨_, U, (ag.step u b z z z z), R⟩⟩
 rintro D r ak ⟨al, U, u, R⟩ b a c
 obtain ⟨k, rfl⟩ := Has.ex (cC (u.get 31 rfl (a 31 rfl)) cN)
 exact wN (gN z z z z z)<|nl ⟨z, ⟨_, U, (ag.step u b z z z z), R⟩⟩
 rintro D r ak ⟨al, U, u, R⟩ b a c
 obtain ⟨k, rfl⟩ := Has.ex (cC (u.get 34 rfl (a 34 rfl)) cN)
 exact wN (gN z z z z z)<|nl ⟨z, ⟨_, U, (ag.step u b z z z z), R⟩⟩
 rintro D r ak ⟨al, U, u, R⟩ b a c
 obtain ⟨k, rfl⟩ := Has.ex (cC (u.get 34 rfl (a 34 rfl)) cN)
 exact wN (gN z z z z z)<|nl ⟨z, ⟨_, U, (ag.step u b z z z z), R⟩⟩
 rintro D r ak ⟨al, U, u, R⟩ b a c
 obtain ⟨k, rfl⟩ := Has.ex (cC (u.get 34 rfl (a 34 rfl)) cN)
 exact wN (gN z z z z z)<|nl ⟨z, ⟨_, U, (ag.step u b z z z z), R⟩⟩
 rintro D r ak ⟨al, U, u, R⟩ b a c
 obtain ⟨k, rfl⟩ := Has.ex (cC (u.get 34 rfl (a 34 rfl)) cN)
 exact wN (gN z z z z z)<|nl ⟨z, ⟨_, U, (ag.step u b z z z z), R⟩⟩
 rintro D r ak ⟨al, U, u, R⟩ b a c
 obtain ⟨k, rfl⟩ := Has.ex (cC (u.get 34 rfl (a 34 rfl)) cN)
 exact wN (gN z z z z z)<|nl ⟨z, ⟨_, U, (ag.step u b z z z z), R⟩⟩
 rintro D r ak ⟨al, U, u, R⟩ b a c
 obtain ⟨k, rfl⟩ := Has.ex (cC (u.get 34 rfl (a 34 rfl)) cN)
 exact wN (gN z z z z z)<|nl ⟨z, ⟨_, U, (ag.step u b z z z z), R⟩⟩
 rintro D r ak ⟨al, U, u, R⟩ b a c
 obtain ⟨k, rfl⟩ := Has.ex (cC (u.get 34 rfl (a 34 rfl)) cN)
 exact wN (gN z z z z z)<|nl ⟨z, ⟨_, U, (ag.step u b z z z z), R⟩⟩
 rintro D r ak ⟨al, U, u, R⟩ b a c
 obtain ⟨k, rfl⟩ := Has.ex (cC (u.get 34 rfl (a 34 rfl)) cN)
 exact wN (gN z z z z z)<|nl ⟨z, ⟨_, U, (ag.step u b z z z z), R⟩⟩
 rintro D r ak ⟨al, U, u, R⟩ b a c
 obtain ⟨k, rfl⟩ := Has.ex (cC (u.get 34 rfl (a 34 rfl)) cN)
 exact wN (gN z z z z z)<|nl ⟨z, ⟨_, U, (ag.step u b z z z z), R⟩⟩
 rintro D r ak ⟨al, U, u, R⟩ b a c
 obtain ⟨k, rfl⟩ := Has.ex (cC (u.get 31 rfl (a 31 rfl)) cN)
 exact wN (gN z z z z z)<|nl ⟨z, ⟨_, U, (ag.step u b z z z z), R⟩⟩
 rintro D r ak ⟨al, U, u, R⟩ b a c
 obtain ⟨k, rfl⟩ := Has.ex (cC (u.get 31 rfl (a 31 rfl)) (cC (u.get 44 rfl (a 44 rfl)) cN))
 exact cY z z<|nl ⟨z, ⟨_, U, (ag.step u b z z z z), R⟩⟩
 intro D r ak P hR
 obtain ⟨al, U, u, R⟩ := hR
 obtain ⟨k, rfl⟩ := Has.ex (cC (u.ins.get 0 rfl) (cC (u.ins.get 2 rfl) (cC (u.ins.get 3 rfl) (cC (u.ins.get 4 rfl) (cC (u.get 5 rfl (P 5 (Nat.le_of_ble_eq_true rfl))) (cC (u.get 6 rfl (P 6 (Nat.le_of_ble_eq_true rfl))) (cC (u.get 7 rfl (P 7 (Nat.le_of_ble_eq_true rfl))) (cC (u.get 8 rfl (P 8 (Nat.le_of_ble_eq_true rfl))) (cC (u.get 45 rfl (P 45 (Nat.le_of_ble_eq_true rfl))) cN)))))))))
 cases H
 exact je ⟨z, z, z, z, z, tv⟩ (Hp.low U R)
 refine nK ae H fun H=>bK H fun au a3 H=>dC ((!au) = true) (fun aC=>?_) fun aC=>?_
 refine yK aC H fun H=>?_
 refine aM [0, 1, 3, 7, 15, 31, 63, 127, 255, 511, 1023, 2047, 4095, 2047, 10239, 32767, 65535, 131071, 262143, 524287, 1048575, 2097151, 4194303, 8388607, 16777215, 33554431, 67108863, 134217727, 268435455, 536870911, 1073741823, 2147483647, 4294967295, 8589934591, 17179869183, 34359738367, 68719476735, 34359738367, 34359738367, 309237645311, 996432412671, 2095944040447, 4294967295999, 8796093022207, 17592186044415, 35184372088831] (fun D r w => (D 15 = false ∧ ∃ (G' : Gh), G ≤ G' ∧ ag [(0, slice A2 a1.length c3), (6, pointer (some ⟨ad, 0, none⟩)), (17, slice A2 a1.length c3), (18, int .i64 (a1.length : Int)), (19, int .i64 l)] [] [(0, 24, pointer (some ⟨ad, 0, none⟩)), (1, 25, int .i64 ((a1.getD (Int.toNat l) aa).Node)), (2, 26, bool ax), (3, 27, bool (!ax)), (4, 28, bool (!ax)), (5, 29, pointer (some ⟨ad, 1, none⟩)), (6, 30, int .i64 ((a1.getD (Int.toNat l) aa).Table)), (7, 31, bool ar), (8, 32, bool (!ar)), (9, 33, bool (!ar)), (10, 34, bool (!ar)), (11, 35, pointer (some ⟨ad, 2, none⟩)), (12, 36, int .i64 ((a1.getD (Int.toNat l) aa).X)), (13, 37, pointer (some ⟨ad, 3, none⟩)), (14, 38, int .i64 ((a1.getD (Int.toNat l) aa).Y))] D r ∧ Hp G' (bx ad [int .i64 ((a1.getD (Int.toNat l) aa).Node), int .i64 ((a1.getD (Int.toNat l) aa).Table), int .i64 ((a1.getD (Int.toNat l) aa).X), int .i64 ((a1.getD (Int.toNat l) aa).Y), int .i64 ((a1.getD (Int.toNat l) aa).H), string ((a1.getD (Int.toNat l) aa).Text), bool ((a1.getD (Int.toNat l) aa).Head), bool ((a1.getD (Int.toNat l) aa).Note)] 36 :: L) w) ∨ (D 15 = true ∧ ∃ (g : Nat) (G' : Gh), G ≤ G' ∧ Dat (Kd.int .i64) G' (some ⟨g, 0, none⟩) ([(a1.getD (Int.toNat l) aa).X, (a1.getD (Int.toNat l) aa).Y] : List Int) ∧ ag [(0, slice A2 a1.length c3), (6, pointer (some ⟨ad, 0, none⟩)), (17, slice A2 a1.length c3), (18, int .i64 (a1.length : Int)), (19, int .i64 l)] [] [(0, 24, pointer (some ⟨ad, 0, none⟩)), (1, 25, int .i64 ((a1.getD (Int.toNat l) aa).Node)), (2, 26, bool ax), (3, 27, bool (!ax)), (4, 28, bool (!ax)), (5, 29, pointer (some ⟨ad, 1, none⟩)), (6, 30, int .i64 ((a1.getD (Int.toNat l) aa).Table)), (7, 31, bool ar), (8, 32, bool (!ar)), (9, 33, bool (!ar)), (10, 34, bool (!ar)), (11, 35, pointer (some ⟨ad, 2, none⟩)), (12, 36, int .i64 ((a1.getD (Int.toNat l) aa).X)), (13, 37, pointer (some ⟨ad, 3, none⟩)), (14, 38, int .i64 ((a1.getD (Int.toNat l) aa).Y)), (15, 39, slice (some ⟨g, 0, none⟩) ([(a1.getD (Int.toNat l) aa).X, (a1.getD (Int.toNat l) aa).Y] : List Int).length 2), (16, 40, bool au), (17, 41, bool (!au)), (18, 42, bool (!au)), (19, 43, bool (!au)), (20, 44, undef), (21, 45, undef), (22, 46, undef), (23, 47, undef), (24, 48, bool true), (25, 49, bool true), (26, 50, undef), (27, 51, undef), (28, 52, undef), (29, 53, undef), (30, 54, bool true), (31, 55, bool true), (32, 56, undef), (33, 57, undef), (34, 58, undef), (35, 59, undef), (36, 60, undef), (37, 61, undef), (38, 62, undef), (39, 63, undef), (40, 64, undef), (41, 65, undef), (42, 66, undef), (43, 67, undef), (44, 68, undef), (45, 69, bool true)] D r ∧ Hp G' (tk (slice (some ⟨g, 0, none⟩) ([(a1.getD (Int.toNat l) aa).X, (a1.getD (Int.toNat l) aa).Y] : List Int).length 2) 1 3 :: bx ad [int .i64 ((a1.getD (Int.toNat l) aa).Node), int .i64 ((a1.getD (Int.toNat l) aa).Table), int .i64 ((a1.getD (Int.toNat l) aa).X), int .i64 ((a1.getD (Int.toNat l) aa).Y), int .i64 ((a1.getD (Int.toNat l) aa).H), string ((a1.getD (Int.toNat l) aa).Text), bool ((a1.getD (Int.toNat l) aa).Head), bool ((a1.getD (Int.toNat l) aa).Note)] 36 :: L) w)) dJ z z ?_ ?_ ?_
 exact (.inl ⟨z, _, Gh.le_refl _, ag.start ⟨z, z, z, z, z, tv⟩ trivial, aU.drew⟩)
 refine ⟨?_, ?_, ?_, ?_, ?_, ?_, ?_, ?_, ?_, ?_, ?_, ?_, ?_, ?_, ?_, ?_, ?_, ?_, ?_, ?_, ?_, ?_, ?_, ?_, ?_, ?_, ?_, ?_, ?_, ?_, ?_, ?_, ?_, ?_, ?_, ?_, ?_, ?_, ?_, ?_, ?_, ?_, ?_, ?_, ?_, ?_, tv⟩
 rintro D r am (⟨d, V, J, t, E⟩ | ⟨f, g, V, J, i, t, E⟩) b a c
 obtain ⟨k, rfl⟩ := Has.ex (cC (t.ins.get 1 rfl) cN)
 exact fa iC z<|nl ⟨z, (.inl ⟨d, _, J, (ag.step t b z z z z), E⟩)⟩
 cases (c 15 rfl).symm.trans f
 rintro D r am (⟨d, V, J, t, E⟩ | ⟨f, g, V, J, i, t, E⟩) b a c
 obtain ⟨k, rfl⟩ := Has.ex (cC (t.get 0 rfl (a 0 rfl)) cN)
 exact ld E 0 bb z z z<|nl ⟨z, (.inl ⟨d, _, J, (ag.step t b z z z z), E⟩)⟩
 cases (c 15 rfl).symm.trans f
 rintro D r am (⟨d, V, J, t, E⟩ | ⟨f, g, V, J, i, t, E⟩) b a c
 obtain ⟨k, rfl⟩ := Has.ex (cC (t.get 1 rfl (a 1 rfl)) cN)
 exact cv gM (aD aV E) z z fun aX aJ=>nl ⟨z, (.inl ⟨d, _, J, (ag.step t b z z z z), aJ⟩)⟩
 cases (c 15 rfl).symm.trans f
 rintro D r am (⟨d, V, J, t, E⟩ | ⟨f, g, V, J, i, t, E⟩) b a c
 obtain ⟨k, rfl⟩ := Has.ex (cC (t.get 2 rfl (a 2 rfl)) cN)
 exact bV z<|nl ⟨z, (.inl ⟨d, _, J, (ag.step t b z z z z), E⟩)⟩
 cases (c 15 rfl).symm.trans f
 rintro D r am (⟨d, V, J, t, E⟩ | ⟨f, g, V, J, i, t, E⟩) b a c
 obtain ⟨k, rfl⟩ := Has.ex (cC (t.get 3 rfl (a 3 rfl)) cN)
 exact mv z<|nl ⟨z, (.inl ⟨d, _, J, (ag.step t b z z z z), E⟩)⟩
 cases (c 15 rfl).symm.trans f
 rintro D r am (⟨d, V, J, t, E⟩ | ⟨f, g, V, J, i, t, E⟩) b a c
 obtain ⟨k, rfl⟩ := Has.ex (cC (t.ins.get 1 rfl) (cC (t.get 4 rfl (a 4 rfl)) cN))
 exact fa (hw:=gY z z z (vN av)) hX z<|nl ⟨z, (.inl ⟨d, _, J, (ag.step t b z z z z), E⟩)⟩
 cases (c 15 rfl).symm.trans f
 rintro D r am (⟨d, V, J, t, E⟩ | ⟨f, g, V, J, i, t, E⟩) b a c
 obtain ⟨k, rfl⟩ := Has.ex (cC (t.get 4 rfl (a 4 rfl)) (cC (t.get 5 rfl (a 5 rfl)) cN))
 exact ld (hw:=gY z z z (vN av)) E 0 bb z z z<|nl ⟨z, (.inl ⟨d, _, J, (ag.step t b z z z z), E⟩)⟩
 cases (c 15 rfl).symm.trans f
 rintro D r am (⟨d, V, J, t, E⟩ | ⟨f, g, V, J, i, t, E⟩) b a c
 obtain ⟨k, rfl⟩ := Has.ex (cC (t.get 4 rfl (a 4 rfl)) (cC (t.get 6 rfl (a 6 rfl)) cN))
 exact cv (hw:=gY z z z (vN av)) gM (aD aY E) z z fun a2 aN=>nl ⟨z, (.inl ⟨d, _, J, (ag.step t b z z z z), aN⟩)⟩
 cases (c 15 rfl).symm.trans f
 rintro D r am (⟨d, V, J, t, E⟩ | ⟨f, g, V, J, i, t, E⟩) b a c
 obtain ⟨k, rfl⟩ := Has.ex (cC (t.get 4 rfl (a 4 rfl)) (cC (t.get 7 rfl (a 7 rfl)) cN))
 exact bV (hw:=gY z z z (vN av)) z<|nl ⟨z, (.inl ⟨d, _, J, (ag.step t b z z z z), E⟩)⟩
 cases (c 15 rfl).symm.trans f
 rintro D r am (⟨d, V, J, t, E⟩ | ⟨f, g, V, J, i, t, E⟩) b a c
 obtain ⟨k, rfl⟩ := Has.ex (cC (t.get 4 rfl (a 4 rfl)) (cC (t.get 8 rfl (a 8 rfl)) cN))
 exact dm (vN av) z<|nl ⟨z, (.inl ⟨d, _, J, (ag.step t b z z z z), E⟩)⟩
 cases (c 15 rfl).symm.trans f
 rintro D r am (⟨d, V, J, t, E⟩ | ⟨f, g, V, J, i, t, E⟩) b a c
 obtain ⟨k, rfl⟩ := Has.ex (cC (t.get 9 rfl (a 9 rfl)) cN)
 exact mv z<|nl ⟨z, (.inl ⟨d, _, J, (ag.step t b z z z z), E⟩)⟩
 cases (c 15 rfl).symm.trans f
 rintro D r am (⟨d, V, J, t, E⟩ | ⟨f, g, V, J, i, t, E⟩) b a c
 obtain ⟨k, rfl⟩ := Has.ex (cC (t.ins.get 1 rfl) (cC (t.get 10 rfl (a 10 rfl)) cN))
 exact fa (hw:=gY z z z (vN ae)) hY z<|nl ⟨z, (.inl ⟨d, _, J, (ag.step t b z z z z), E⟩)⟩
 cases (c 15 rfl).symm.trans f
 rintro D r am (⟨d, V, J, t, E⟩ | ⟨f, g, V, J, i, t, E⟩) b a c
 obtain ⟨k, rfl⟩ := Has.ex (cC (t.get 10 rfl (a 10 rfl)) (cC (t.get 11 rfl (a 11 rfl)) cN))
 exact ld (hw:=gY z z z (vN ae)) E 0 bb z z z<|nl ⟨z, (.inl ⟨d, _, J, (ag.step t b z z z z), E⟩)⟩
 cases (c 15 rfl).symm.trans f
 rintro D r am (⟨d, V, J, t, E⟩ | ⟨f, g, V, J, i, t, E⟩) b a c
 obtain ⟨k, rfl⟩ := Has.ex (cC (t.ins.get 1 rfl) (cC (t.get 10 rfl (a 10 rfl)) cN))
 exact fa (hw:=gY z z z (vN ae)) bn z<|nl ⟨z, (.inl ⟨d, _, J, (ag.step t b z z z z), E⟩)⟩
 cases (c 15 rfl).symm.trans f
 rintro D r am (⟨d, V, J, t, E⟩ | ⟨f, g, V, J, i, t, E⟩) b a c
 obtain ⟨k, rfl⟩ := Has.ex (cC (t.get 10 rfl (a 10 rfl)) (cC (t.get 13 rfl (a 13 rfl)) cN))
 exact ld (hw:=gY z z z (vN ae)) E 0 bb z z z<|nl ⟨z, (.inl ⟨d, _, J, (ag.step t b z z z z), E⟩)⟩
 cases (c 15 rfl).symm.trans f
 rintro D r am (⟨d, V, J, t, E⟩ | ⟨f, g, V, J, i, t, E⟩) b a c
 obtain ⟨k, rfl⟩ := Has.ex (cC (t.get 10 rfl (a 10 rfl)) (cC (t.get 12 rfl (a 12 rfl)) (cC (t.get 14 rfl (a 14 rfl)) cN)))
 refine eh E (vs := [(0, int .i64 ((a1.getD (Int.toNat l) aa).X)), (1, int .i64 ((a1.getD (Int.toNat l) aa).Y))]) (cs := [int .i64 ((a1.getD (Int.toNat l) aa).X), int .i64 ((a1.getD (Int.toNat l) aa).Y)]) j5 pK rfl (by decide) rfl (by kernel_rfl) (fun g a7 aO => ?_) (hw := gY rfl rfl rfl (fF ae))
 obtain ⟨a8, aQ, aR, i⟩ := Hp.publish (xs := ([(a1.getD (Int.toNat l) aa).X, (a1.getD (Int.toNat l) aa).Y] : List Int)) (n := 2) (Kd.int .i64) aO ⟨[int .i64 ((a1.getD (Int.toNat l) aa).X)], _, rfl, rfl, ⟨[int .i64 ((a1.getD (Int.toNat l) aa).Y)], _, rfl, rfl, rfl⟩⟩ rfl
 exact nl ⟨z, (.inr ⟨z, g, _, (gT J aQ), i, (ag.step (ag.more (new := [(15, 39, slice (some ⟨g, 0, none⟩) ([(a1.getD (Int.toNat l) aa).X, (a1.getD (Int.toNat l) aa).Y] : List Int).length 2), (16, 40, bool au), (17, 41, bool (!au)), (18, 42, bool (!au)), (19, 43, bool (!au)), (20, 44, undef), (21, 45, undef), (22, 46, undef), (23, 47, undef), (24, 48, bool true), (25, 49, bool true), (26, 50, undef), (27, 51, undef), (28, 52, undef), (29, 53, undef), (30, 54, bool true), (31, 55, bool true), (32, 56, undef), (33, 57, undef), (34, 58, undef), (35, 59, undef), (36, 60, undef), (37, 61, undef), (38, 62, undef), (39, 63, undef), (40, 64, undef), (41, 65, undef), (42, 66, undef), (43, 67, undef), (44, 68, undef), (45, 69, bool true)]) t (List.forall_mem_cons.2 ⟨b, (List.forall_mem_cons.2 ⟨c 16 z, (List.forall_mem_cons.2 ⟨c 17 z, (List.forall_mem_cons.2 ⟨c 18 z, (List.forall_mem_cons.2 ⟨c 19 z, (List.forall_mem_cons.2 ⟨c 20 z, (List.forall_mem_cons.2 ⟨c 21 z, (List.forall_mem_cons.2 ⟨c 22 z, (List.forall_mem_cons.2 ⟨c 23 z, (List.forall_mem_cons.2 ⟨c 24 z, (List.forall_mem_cons.2 ⟨c 25 z, (List.forall_mem_cons.2 ⟨c 26 z, (List.forall_mem_cons.2 ⟨c 27 z, (List.forall_mem_cons.2 ⟨c 28 z, (List.forall_mem_cons.2 ⟨c 29 z, (List.forall_mem_cons.2 ⟨c 30 z, (List.forall_mem_cons.2 ⟨c 31 z, (List.forall_mem_cons.2 ⟨c 32 z, (List.forall_mem_cons.2 ⟨c 33 z, (List.forall_mem_cons.2 ⟨c 34 z, (List.forall_mem_cons.2 ⟨c 35 z, (List.forall_mem_cons.2 ⟨c 36 z, (List.forall_mem_cons.2 ⟨c 37 z, (List.forall_mem_cons.2 ⟨c 38 z, (List.forall_mem_cons.2 ⟨c 39 z, (List.forall_mem_cons.2 ⟨c 40 z, (List.forall_mem_cons.2 ⟨c 41 z, (List.forall_mem_cons.2 ⟨c 42 z, (List.forall_mem_cons.2 ⟨c 43 z, (List.forall_mem_cons.2 ⟨c 44 z, (List.forall_mem_cons.2 ⟨c 45 z, (fun _ h => nomatch h)⟩)⟩)⟩)⟩)⟩)⟩)⟩)⟩)⟩)⟩)⟩)⟩)⟩)⟩)⟩)⟩)⟩)⟩)⟩)⟩)⟩)⟩)⟩)⟩)⟩)⟩)⟩)⟩)⟩)⟩)⟩)) b z z z z), aR⟩)⟩
 cases b.symm.trans f
 rintro D r am (⟨d, V, J, t, E⟩ | ⟨f, g, V, J, i, t, E⟩) b a c
 cases (a 15 rfl).symm.trans d
 obtain ⟨k, rfl⟩ := Has.ex (cC (t.get 10 rfl (a 10 rfl)) (cC (t.get 15 rfl (a 15 rfl)) cN))
 exact cv (hw:=gY z z z (vN ae)) oS (cW (a1 := ([(a1.getD (Int.toNat l) aa).X, (a1.getD (Int.toNat l) aa).Y] : List Int)) a3 E (show ([(a1.getD (Int.toNat l) aa).X, (a1.getD (Int.toNat l) aa).Y] : List Int).length ≤ 2 from Nat.le_of_ble_eq_true z) i) z z fun a9 aS=>nl ⟨z, (.inr ⟨f, g, _, J, i, (ag.step t b z z z z), aS⟩)⟩
 rintro D r am (⟨d, V, J, t, E⟩ | ⟨f, g, V, J, i, t, E⟩) b a c
 cases (a 15 rfl).symm.trans d
 obtain ⟨k, rfl⟩ := Has.ex (cC (t.get 10 rfl (a 10 rfl)) (cC (t.get 16 rfl (a 16 rfl)) cN))
 exact bV (hw:=gY z z z (vN ae)) z<|nl ⟨z, (.inr ⟨f, g, _, J, i, (ag.step t b z z z z), E⟩)⟩
 rintro D r am (⟨d, V, J, t, E⟩ | ⟨f, g, V, J, i, t, E⟩) b a c
 cases (a 15 rfl).symm.trans d
 obtain ⟨k, rfl⟩ := Has.ex (cC (t.get 10 rfl (a 10 rfl)) (cC (t.get 17 rfl (a 17 rfl)) cN))
 exact dm (vN ae) z<|nl ⟨z, (.inr ⟨f, g, _, J, i, (ag.step t b z z z z), E⟩)⟩
 rintro D r am (⟨d, V, J, t, E⟩ | ⟨f, g, V, J, i, t, E⟩) b a c
 cases (a 15 rfl).symm.trans d
 obtain ⟨k, rfl⟩ := Has.ex (cC (t.get 18 rfl (a 18 rfl)) cN)
 exact mv z<|nl ⟨z, (.inr ⟨f, g, _, J, i, (ag.step t b z z z z), E⟩)⟩
 rintro D r am (⟨d, V, J, t, E⟩ | ⟨f, g, V, J, i, t, E⟩) b a c
 cases (a 15 rfl).symm.trans d
 obtain ⟨k, rfl⟩ := Has.ex (cC (t.get 19 rfl (a 19 rfl)) cN)
 exact wN (gN z z z (vY aC) z)<|nl ⟨z, (.inr ⟨f, g, _, J, i, (ag.step t b z z z z), E⟩)⟩
 rintro D r am (⟨d, V, J, t, E⟩ | ⟨f, g, V, J, i, t, E⟩) b a c
 cases (a 15 rfl).symm.trans d
 obtain ⟨k, rfl⟩ := Has.ex (cC (t.get 19 rfl (a 19 rfl)) cN)
 exact wN (gN z z z (vY aC) z)<|nl ⟨z, (.inr ⟨f, g, _, J, i, (ag.step t b z z z z), E⟩)⟩
 rintro D r am (⟨d, V, J, t, E⟩ | ⟨f, g, V, J, i, t, E⟩) b a c
 cases (a 15 rfl).symm.trans d
 obtain ⟨k, rfl⟩ := Has.ex (cC (t.get 19 rfl (a 19 rfl)) cN)
 exact wN (gN z z z (vY aC) z)<|nl ⟨z, (.inr ⟨f, g, _, J, i, (ag.step t b z z z z), E⟩)⟩
 rintro D r am (⟨d, V, J, t, E⟩ | ⟨f, g, V, J, i, t, E⟩) b a c
 cases (a 15 rfl).symm.trans d
 obtain ⟨k, rfl⟩ := Has.ex (cC (t.get 19 rfl (a 19 rfl)) cN)
 exact wN (gN z z z (vY aC) z)<|nl ⟨z, (.inr ⟨f, g, _, J, i, (ag.step t b z z z z), E⟩)⟩
 rintro D r am (⟨d, V, J, t, E⟩ | ⟨f, g, V, J, i, t, E⟩) b a c
 cases (a 15 rfl).symm.trans d
 obtain ⟨k, rfl⟩ := Has.ex (cC (t.get 19 rfl (a 19 rfl)) (cC (t.get 23 rfl (a 23 rfl)) cN))
 exact cY (vY aC) z<|nl ⟨z, (.inr ⟨f, g, _, J, i, (ag.step t b z z z z), E⟩)⟩
 rintro D r am (⟨d, V, J, t, E⟩ | ⟨f, g, V, J, i, t, E⟩) b a c
 cases (a 15 rfl).symm.trans d
 obtain ⟨k, rfl⟩ := Has.ex (cC (t.get 24 rfl (a 24 rfl)) cN)
 exact mv z<|nl ⟨z, (.inr ⟨f, g, _, J, i, (ag.step t b z z z z), E⟩)⟩
 rintro D r am (⟨d, V, J, t, E⟩ | ⟨f, g, V, J, i, t, E⟩) b a c
 cases (a 15 rfl).symm.trans d
 obtain ⟨k, rfl⟩ := Has.ex (cC (t.get 25 rfl (a 25 rfl)) cN)
 exact wN (gN z z z z z)<|nl ⟨z, (.inr ⟨f, g, _, J, i, (ag.step t b z z z z), E⟩)⟩
 rintro D r am (⟨d, V, J, t, E⟩ | ⟨f, g, V, J, i, t, E⟩) b a c
 cases (a 15 rfl).symm.trans d
 obtain ⟨k, rfl⟩ := Has.ex (cC (t.get 25 rfl (a 25 rfl)) cN)
 exact wN (gN z z z z z)<|nl ⟨z, (.inr ⟨f, g, _, J, i, (ag.step t b z z z z), E⟩)⟩
 rintro D r am (⟨d, V, J, t, E⟩ | ⟨f, g, V, J, i, t, E⟩) b a c
 cases (a 15 rfl).symm.trans d
 obtain ⟨k, rfl⟩ := Has.ex (cC (t.get 25 rfl (a 25 rfl)) cN)
 exact wN (gN z z z z z)<|nl ⟨z, (.inr ⟨f, g, _, J, i, (ag.step t b z z z z), E⟩)⟩
 rintro D r am (⟨d, V, J, t, E⟩ | ⟨f, g, V, J, i, t, E⟩) b a c
 cases (a 15 rfl).symm.trans d
 obtain ⟨k, rfl⟩ := Has.ex (cC (t.get 25 rfl (a 25 rfl)) cN)
 exact wN (gN z z z z z)<|nl ⟨z, (.inr ⟨f, g, _, J, i, (ag.step t b z z z z), E⟩)⟩
 rintro D r am (⟨d, V, J, t, E⟩ | ⟨f, g, V, J, i, t, E⟩) b a c
 cases (a 15 rfl).symm.trans d
 obtain ⟨k, rfl⟩ := Has.ex (cC (t.get 25 rfl (a 25 rfl)) (cC (t.get 29 rfl (a 29 rfl)) cN))
 exact cY z z<|nl ⟨z, (.inr ⟨f, g, _, J, i, (ag.step t b z z z z), E⟩)⟩
 rintro D r am (⟨d, V, J, t, E⟩ | ⟨f, g, V, J, i, t, E⟩) b a c
 cases (a 15 rfl).symm.trans d
 obtain ⟨k, rfl⟩ := Has.ex (cC (t.get 30 rfl (a 30 rfl)) cN)
 exact mv z<|nl ⟨z, (.inr ⟨f, g, _, J, i, (ag.step t b z z z z), E⟩)⟩
 rintro D r am (⟨d, V, J, t, E⟩ | ⟨f, g, V, J, i, t, E⟩) b a c
 cases (a 15 rfl).symm.trans d
 obtain ⟨k, rfl⟩ := Has.ex (cC (t.get 31 rfl (a 31 rfl)) cN)
 exact wN (gN z z z z z)<|nl ⟨z, (.inr ⟨f, g, _, J, i, (ag.step t b z z z z), E⟩)⟩
 rintro D r am (⟨d, V, J, t, E⟩ | ⟨f, g, V, J, i, t, E⟩) b a c
 cases (a 15 rfl).symm.trans d
 obtain ⟨k, rfl⟩ := Has.ex (cC (t.get 31 rfl (a 31 rfl)) cN)
 exact wN (gN z z z z z)<|nl ⟨z, (.inr ⟨f, g, _, J, i, (ag.step t b z z z z), E⟩)⟩
 rintro D r am (⟨d, V, J, t, E⟩ | ⟨f, g, V, J, i, t, E⟩) b a c
 cases (a 15 rfl).symm.trans d
 obtain ⟨k, rfl⟩ := Has.ex (cC (t.get 31 rfl (a 31 rfl)) cN)
 exact wN (gN z z z z z)<|nl ⟨z, (.inr ⟨f, g, _, J, i, (ag.step t b z z z z), E⟩)⟩
 rintro D r am (⟨d, V, J, t, E⟩ | ⟨f, g, V, J, i, t, E⟩) b a c
 cases (a 15 rfl).symm.trans d
 obtain ⟨k, rfl⟩ := Has.ex (cC (t.get 34 rfl (a 34 rfl)) cN)
 exact wN (gN z z z z z)<|nl ⟨z, (.inr ⟨f, g, _, J, i, (ag.step t b z z z z), E⟩)⟩
 rintro D r am (⟨d, V, J, t, E⟩ | ⟨f, g, V, J, i, t, E⟩) b a c
 cases (a 15 rfl).symm.trans d
 obtain ⟨k, rfl⟩ := Has.ex (cC (t.get 34 rfl (a 34 rfl)) cN)
 exact wN (gN z z z z z)<|nl ⟨z, (.inr ⟨f, g, _, J, i, (ag.step t b z z z z), E⟩)⟩
 rintro D r am (⟨d, V, J, t, E⟩ | ⟨f, g, V, J, i, t, E⟩) b a c
 cases (a 15 rfl).symm.trans d
 obtain ⟨k, rfl⟩ := Has.ex (cC (t.get 34 rfl (a 34 rfl)) cN)
 exact wN (gN z z z z z)<|nl ⟨z, (.inr ⟨f, g, _, J, i, (ag.step t b z z z z), E⟩)⟩
 rintro D r am (⟨d, V, J, t, E⟩ | ⟨f, g, V, J, i, t, E⟩) b a c
 cases (a 15 rfl).symm.trans d
 obtain ⟨k, rfl⟩ := Has.ex (cC (t.get 34 rfl (a 34 rfl)) cN)
 exact wN (gN z z z z z)<|nl ⟨z, (.inr ⟨f, g, _, J, i, (ag.step t b z z z z), E⟩)⟩
 rintro D r am (⟨d, V, J, t, E⟩ | ⟨f, g, V, J, i, t, E⟩) b a c
 cases (a 15 rfl).symm.trans d
 obtain ⟨k, rfl⟩ := Has.ex (cC (t.get 34 rfl (a 34 rfl)) cN)
 exact wN (gN z z z z z)<|nl ⟨z, (.inr ⟨f, g, _, J, i, (ag.step t b z z z z), E⟩)⟩
 rintro D r am (⟨d, V, J, t, E⟩ | ⟨f, g, V, J, i, t, E⟩) b a c
 cases (a 15 rfl).symm.trans d
 obtain ⟨k, rfl⟩ := Has.ex (cC (t.get 34 rfl (a 34 rfl)) cN)
 exact wN (gN z z z z z)<|nl ⟨z, (.inr ⟨f, g, _, J, i, (ag.step t b z z z z), E⟩)⟩
 rintro D r am (⟨d, V, J, t, E⟩ | ⟨f, g, V, J, i, t, E⟩) b a c
 cases (a 15 rfl).symm.trans d
 obtain ⟨k, rfl⟩ := Has.ex (cC (t.get 34 rfl (a 34 rfl)) cN)
 exact wN (gN z z z z z)<|nl ⟨z, (.inr ⟨f, g, _, J, i, (ag.step t b z z z z), E⟩)⟩
 rintro D r am (⟨d, V, J, t, E⟩ | ⟨f, g, V, J, i, t, E⟩) b a c
 cases (a 15 rfl).symm.trans d
 obtain ⟨k, rfl⟩ := Has.ex (cC (t.get 34 rfl (a 34 rfl)) cN)
 exact wN (gN z z z z z)<|nl ⟨z, (.inr ⟨f, g, _, J, i, (ag.step t b z z z z), E⟩)⟩
 rintro D r am (⟨d, V, J, t, E⟩ | ⟨f, g, V, J, i, t, E⟩) b a c
 cases (a 15 rfl).symm.trans d
 obtain ⟨k, rfl⟩ := Has.ex (cC (t.get 34 rfl (a 34 rfl)) cN)
 exact wN (gN z z z z z)<|nl ⟨z, (.inr ⟨f, g, _, J, i, (ag.step t b z z z z), E⟩)⟩
 rintro D r am (⟨d, V, J, t, E⟩ | ⟨f, g, V, J, i, t, E⟩) b a c
 cases (a 15 rfl).symm.trans d
 obtain ⟨k, rfl⟩ := Has.ex (cC (t.get 31 rfl (a 31 rfl)) cN)
 exact wN (gN z z z z z)<|nl ⟨z, (.inr ⟨f, g, _, J, i, (ag.step t b z z z z), E⟩)⟩
 rintro D r am (⟨d, V, J, t, E⟩ | ⟨f, g, V, J, i, t, E⟩) b a c
 cases (a 15 rfl).symm.trans d
 obtain ⟨k, rfl⟩ := Has.ex (cC (t.get 31 rfl (a 31 rfl)) (cC (t.get 44 rfl (a 44 rfl)) cN))
 exact cY z z<|nl ⟨z, (.inr ⟨f, g, _, J, i, (ag.step t b z z z z), E⟩)⟩
 intro D r am P hR
 rcases hR with ⟨d, V, J, t, E⟩ | ⟨f, g, V, J, i, t, E⟩
 cases (P 15 (Nat.le_of_ble_eq_true rfl)).symm.trans d
 obtain ⟨k, rfl⟩ := Has.ex (cC (t.ins.get 0 rfl) (cC (t.ins.get 2 rfl) (cC (t.ins.get 3 rfl) (cC (t.ins.get 4 rfl) (cC (t.get 5 rfl (P 5 (Nat.le_of_ble_eq_true rfl))) (cC (t.get 6 rfl (P 6 (Nat.le_of_ble_eq_true rfl))) (cC (t.get 7 rfl (P 7 (Nat.le_of_ble_eq_true rfl))) (cC (t.get 8 rfl (P 8 (Nat.le_of_ble_eq_true rfl))) (cC (t.get 11 rfl (P 11 (Nat.le_of_ble_eq_true rfl))) (cC (t.get 12 rfl (P 12 (Nat.le_of_ble_eq_true rfl))) (cC (t.get 13 rfl (P 13 (Nat.le_of_ble_eq_true rfl))) (cC (t.get 14 rfl (P 14 (Nat.le_of_ble_eq_true rfl))) (cC (t.get 15 rfl (P 15 (Nat.le_of_ble_eq_true rfl))) (cC (t.get 16 rfl (P 16 (Nat.le_of_ble_eq_true rfl))) (cC (t.get 17 rfl (P 17 (Nat.le_of_ble_eq_true rfl))) (cC (t.get 45 rfl (P 45 (Nat.le_of_ble_eq_true rfl))) cN))))))))))))))))
 refine have bU:=Hp.pick 2 [1] E z;?_
 cases H
 exact je ⟨z, z, z, z, z, tv⟩ (Hp.low J bU)
 refine nK aC H fun H=>bK H fun aB ba H=>dC ((!aB) = true) (fun aG=>?_) fun aG=>?_
 refine yK aG H fun H=>?_
 refine aM [0, 1, 3, 7, 15, 31, 63, 127, 255, 511, 1023, 2047, 4095, 2047, 10239, 32767, 65535, 131071, 262143, 524287, 1048575, 2097151, 4194303, 8388607, 16777215, 33554431, 67108863, 134217727, 268435455, 536870911, 1073741823, 2147483647, 4294967295, 8589934591, 17179869183, 34359738367, 68719476735, 34359738367, 34359738367, 309237645311, 996432412671, 2095944040447, 4294967295999, 8796093022207, 17592186044415, 35184372088831] (fun D r w => (D 15 = false ∧ ∃ (G' : Gh), G ≤ G' ∧ ag [(0, slice A2 a1.length c3), (6, pointer (some ⟨ad, 0, none⟩)), (17, slice A2 a1.length c3), (18, int .i64 (a1.length : Int)), (19, int .i64 l)] [] [(0, 24, pointer (some ⟨ad, 0, none⟩)), (1, 25, int .i64 ((a1.getD (Int.toNat l) aa).Node)), (2, 26, bool ax), (3, 27, bool (!ax)), (4, 28, bool (!ax)), (5, 29, pointer (some ⟨ad, 1, none⟩)), (6, 30, int .i64 ((a1.getD (Int.toNat l) aa).Table)), (7, 31, bool ar), (8, 32, bool (!ar)), (9, 33, bool (!ar)), (10, 34, bool (!ar)), (11, 35, pointer (some ⟨ad, 2, none⟩)), (12, 36, int .i64 ((a1.getD (Int.toNat l) aa).X)), (13, 37, pointer (some ⟨ad, 3, none⟩)), (14, 38, int .i64 ((a1.getD (Int.toNat l) aa).Y))] D r ∧ Hp G' (bx ad [int .i64 ((a1.getD (Int.toNat l) aa).Node), int .i64 ((a1.getD (Int.toNat l) aa).Table), int .i64 ((a1.getD (Int.toNat l) aa).X), int .i64 ((a1.getD (Int.toNat l) aa).Y), int .i64 ((a1.getD (Int.toNat l) aa).H), string ((a1.getD (Int.toNat l) aa).Text), bool ((a1.getD (Int.toNat l) aa).Head), bool ((a1.getD (Int.toNat l) aa).Note)] 36 :: L) w) ∨ (D 15 = true ∧ ∃ (g : Nat) (G' : Gh), G ≤ G' ∧ Dat (Kd.int .i64) G' (some ⟨g, 0, none⟩) ([(a1.getD (Int.toNat l) aa).X, (a1.getD (Int.toNat l) aa).Y] : List Int) ∧ ag [(0, slice A2 a1.length c3), (6, pointer (some ⟨ad, 0, none⟩)), (17, slice A2 a1.length c3), (18, int .i64 (a1.length : Int)), (19, int .i64 l)] [] [(0, 24, pointer (some ⟨ad, 0, none⟩)), (1, 25, int .i64 ((a1.getD (Int.toNat l) aa).Node)), (2, 26, bool ax), (3, 27, bool (!ax)), (4, 28, bool (!ax)), (5, 29, pointer (some ⟨ad, 1, none⟩)), (6, 30, int .i64 ((a1.getD (Int.toNat l) aa).Table)), (7, 31, bool ar), (8, 32, bool (!ar)), (9, 33, bool (!ar)), (10, 34, bool (!ar)), (11, 35, pointer (some ⟨ad, 2, none⟩)), (12, 36, int .i64 ((a1.getD (Int.toNat l) aa).X)), (13, 37, pointer (some ⟨ad, 3, none⟩)), (14, 38, int .i64 ((a1.getD (Int.toNat l) aa).Y)), (15, 39, slice (some ⟨g, 0, none⟩) ([(a1.getD (Int.toNat l) aa).X, (a1.getD (Int.toNat l) aa).Y] : List Int).length 2), (16, 40, bool au), (17, 41, bool (!au)), (18, 42, bool (!au)), (19, 43, bool (!au)), (20, 44, pointer (some ⟨ad, 4, none⟩)), (21, 45, int .i64 ((a1.getD (Int.toNat l) aa).H)), (22, 46, bool aB), (23, 47, bool (!aB)), (24, 48, bool (!aB)), (25, 49, bool (!aB)), (26, 50, undef), (27, 51, undef), (28, 52, undef), (29, 53, undef), (30, 54, bool true), (31, 55, bool true), (32, 56, undef), (33, 57, undef), (34, 58, undef), (35, 59, undef), (36, 60, undef), (37, 61, undef), (38, 62, undef), (39, 63, undef), (40, 64, undef), (41, 65, undef), (42, 66, undef), (43, 67, undef), (44, 68, undef), (45, 69, bool true)] D r ∧ Hp G' (tk (slice (some ⟨g, 0, none⟩) ([(a1.getD (Int.toNat l) aa).X, (a1.getD (Int.toNat l) aa).Y] : List Int).length 2) 1 3 :: bx ad [int .i64 ((a1.getD (Int.toNat l) aa).Node), int .i64 ((a1.getD (Int.toNat l) aa).Table), int .i64 ((a1.getD (Int.toNat l) aa).X), int .i64 ((a1.getD (Int.toNat l) aa).Y), int .i64 ((a1.getD (Int.toNat l) aa).H), string ((a1.getD (Int.toNat l) aa).Text), bool ((a1.getD (Int.toNat l) aa).Head), bool ((a1.getD (Int.toNat l) aa).Note)] 36 :: L) w)) dJ z z ?_ ?_ ?_
 exact (.inl ⟨z, _, Gh.le_refl _, ag.start ⟨z, z, z, z, z, tv⟩ trivial, aU.drew⟩)
 refine ⟨?_, ?_, ?_, ?_, ?_, ?_, ?_, ?_, ?_, ?_, ?_, ?_, ?_, ?_, ?_, ?_, ?_, ?_, ?_, ?_, ?_, ?_, ?_, ?_, ?_, ?_, ?_, ?_, ?_, ?_, ?_, ?_, ?_, ?_, ?_, ?_, ?_, ?_, ?_, ?_, ?_, ?_, ?_, ?_, ?_, ?_, tv⟩
 rintro D r an (⟨d, W, K, s, C⟩ | ⟨f, g, W, K, i, s, C⟩) b a c
 obtain ⟨k, rfl⟩ := Has.ex (cC (s.ins.get 1 rfl) cN)
 exact fa iC z<|nl ⟨z, (.inl ⟨d, _, K, (ag.step s b z z z z), C⟩)⟩
 cases (c 15 rfl).symm.trans f
 rintro D r an (⟨d, W, K, s, C⟩ | ⟨f, g, W, K, i, s, C⟩) b a c
 obtain ⟨k, rfl⟩ := Has.ex (cC (s.get 0 rfl (a 0 rfl)) cN)
 exact ld C 0 bb z z z<|nl ⟨z, (.inl ⟨d, _, K, (ag.step s b z z z z), C⟩)⟩
 cases (c 15 rfl).symm.trans f
 rintro D r an (⟨d, W, K, s, C⟩ | ⟨f, g, W, K, i, s, C⟩) b a c
 obtain ⟨k, rfl⟩ := Has.ex (cC (s.get 1 rfl (a 1 rfl)) cN)
 exact cv gM (aD aV C) z z fun aX aJ=>nl ⟨z, (.inl ⟨d, _, K, (ag.step s b z z z z), aJ⟩)⟩
 cases (c 15 rfl).symm.trans f
 rintro D r an (⟨d, W, K, s, C⟩ | ⟨f, g, W, K, i, s, C⟩) b a c
 obtain ⟨k, rfl⟩ := Has.ex (cC (s.get 2 rfl (a 2 rfl)) cN)
 exact bV z<|nl ⟨z, (.inl ⟨d, _, K, (ag.step s b z z z z), C⟩)⟩
 cases (c 15 rfl).symm.trans f
 rintro D r an (⟨d, W, K, s, C⟩ | ⟨f, g, W, K, i, s, C⟩) b a c
 obtain ⟨k, rfl⟩ := Has.ex (cC (s.get 3 rfl (a 3 rfl)) cN)
 exact mv z<|nl ⟨z, (.inl ⟨d, _, K, (ag.step s b z z z z), C⟩)⟩
 cases (c 15 rfl).symm.trans f
 rintro D r an (⟨d, W, K, s, C⟩ | ⟨f, g, W, K, i, s, C⟩) b a c
 obtain ⟨k, rfl⟩ := Has.ex (cC (s.ins.get 1 rfl) (cC (s.get 4 rfl (a 4 rfl)) cN))
 exact fa (hw:=gY z z z (vN av)) hX z<|nl ⟨z, (.inl ⟨d, _, K, (ag.step s b z z z z), C⟩)⟩
 cases (c 15 rfl).symm.trans f
 rintro D r an (⟨d, W, K, s, C⟩ | ⟨f, g, W, K, i, s, C⟩) b a c
 obtain ⟨k, rfl⟩ := Has.ex (cC (s.get 4 rfl (a 4 rfl)) (cC (s.get 5 rfl (a 5 rfl)) cN))
 exact ld (hw:=gY z z z (vN av)) C 0 bb z z z<|nl ⟨z, (.inl ⟨d, _, K, (ag.step s b z z z z), C⟩)⟩
 cases (c 15 rfl).symm.trans f
 rintro D r an (⟨d, W, K, s, C⟩ | ⟨f, g, W, K, i, s, C⟩) b a c
 obtain ⟨k, rfl⟩ := Has.ex (cC (s.get 4 rfl (a 4 rfl)) (cC (s.get 6 rfl (a 6 rfl)) cN))
 exact cv (hw:=gY z z z (vN av)) gM (aD aY C) z z fun a2 aN=>nl ⟨z, (.inl ⟨d, _, K, (ag.step s b z z z z), aN⟩)⟩
 cases (c 15 rfl).symm.trans f
 rintro D r an (⟨d, W, K, s, C⟩ | ⟨f, g, W, K, i, s, C⟩) b a c
 obtain ⟨k, rfl⟩ := Has.ex (cC (s.get 4 rfl (a 4 rfl)) (cC (s.get 7 rfl (a 7 rfl)) cN))
 exact bV (hw:=gY z z z (vN av)) z<|nl ⟨z, (.inl ⟨d, _, K, (ag.step s b z z z z), C⟩)⟩
 cases (c 15 rfl).symm.trans f
 rintro D r an (⟨d, W, K, s, C⟩ | ⟨f, g, W, K, i, s, C⟩) b a c
 obtain ⟨k, rfl⟩ := Has.ex (cC (s.get 4 rfl (a 4 rfl)) (cC (s.get 8 rfl (a 8 rfl)) cN))
 exact dm (vN av) z<|nl ⟨z, (.inl ⟨d, _, K, (ag.step s b z z z z), C⟩)⟩
 cases (c 15 rfl).symm.trans f
 rintro D r an (⟨d, W, K, s, C⟩ | ⟨f, g, W, K, i, s, C⟩) b a c
 obtain ⟨k, rfl⟩ := Has.ex (cC (s.get 9 rfl (a 9 rfl)) cN)
 exact mv z<|nl ⟨z, (.inl ⟨d, _, K, (ag.step s b z z z z), C⟩)⟩
 cases (c 15 rfl).symm.trans f
 rintro D r an (⟨d, W, K, s, C⟩ | ⟨f, g, W, K, i, s, C⟩) b a c
 obtain ⟨k, rfl⟩ := Has.ex (cC (s.ins.get 1 rfl) (cC (s.get 10 rfl (a 10 rfl)) cN))
 exact fa (hw:=gY z z z (vN ae)) hY z<|nl ⟨z, (.inl ⟨d, _, K, (ag.step s b z z z z), C⟩)⟩
 cases (c 15 rfl).symm.trans f
 rintro D r an (⟨d, W, K, s, C⟩ | ⟨f, g, W, K, i, s, C⟩) b a c
 obtain ⟨k, rfl⟩ := Has.ex (cC (s.get 10 rfl (a 10 rfl)) (cC (s.get 11 rfl (a 11 rfl)) cN))
 exact ld (hw:=gY z z z (vN ae)) C 0 bb z z z<|nl ⟨z, (.inl ⟨d, _, K, (ag.step s b z z z z), C⟩)⟩
 cases (c 15 rfl).symm.trans f
 rintro D r an (⟨d, W, K, s, C⟩ | ⟨f, g, W, K, i, s, C⟩) b a c
 obtain ⟨k, rfl⟩ := Has.ex (cC (s.ins.get 1 rfl) (cC (s.get 10 rfl (a 10 rfl)) cN))
 exact fa (hw:=gY z z z (vN ae)) bn z<|nl ⟨z, (.inl ⟨d, _, K, (ag.step s b z z z z), C⟩)⟩
 cases (c 15 rfl).symm.trans f
 rintro D r an (⟨d, W, K, s, C⟩ | ⟨f, g, W, K, i, s, C⟩) b a c
 obtain ⟨k, rfl⟩ := Has.ex (cC (s.get 10 rfl (a 10 rfl)) (cC (s.get 13 rfl (a 13 rfl)) cN))
 exact ld (hw:=gY z z z (vN ae)) C 0 bb z z z<|nl ⟨z, (.inl ⟨d, _, K, (ag.step s b z z z z), C⟩)⟩
 cases (c 15 rfl).symm.trans f
 rintro D r an (⟨d, W, K, s, C⟩ | ⟨f, g, W, K, i, s, C⟩) b a c
 obtain ⟨k, rfl⟩ := Has.ex (cC (s.get 10 rfl (a 10 rfl)) (cC (s.get 12 rfl (a 12 rfl)) (cC (s.get 14 rfl (a 14 rfl)) cN)))
 refine eh C (vs := [(0, int .i64 ((a1.getD (Int.toNat l) aa).X)), (1, int .i64 ((a1.getD (Int.toNat l) aa).Y))]) (cs := [int .i64 ((a1.getD (Int.toNat l) aa).X), int .i64 ((a1.getD (Int.toNat l) aa).Y)]) j5 pK rfl (by decide) rfl (by kernel_rfl) (fun g a7 aO => ?_) (hw := gY rfl rfl rfl (fF ae))
 obtain ⟨a8, aQ, aR, i⟩ := Hp.publish (xs := ([(a1.getD (Int.toNat l) aa).X, (a1.getD (Int.toNat l) aa).Y] : List Int)) (n := 2) (Kd.int .i64) aO ⟨[int .i64 ((a1.getD (Int.toNat l) aa).X)], _, rfl, rfl, ⟨[int .i64 ((a1.getD (Int.toNat l) aa).Y)], _, rfl, rfl, rfl⟩⟩ rfl
 exact nl ⟨z, (.inr ⟨z, g, _, (gT K aQ), i, (ag.step (ag.more (new := [(15, 39, slice (some ⟨g, 0, none⟩) ([(a1.getD (Int.toNat l) aa).X, (a1.getD (Int.toNat l) aa).Y] : List Int).length 2), (16, 40, bool au), (17, 41, bool (!au)), (18, 42, bool (!au)), (19, 43, bool (!au)), (20, 44, pointer (some ⟨ad, 4, none⟩)), (21, 45, int .i64 ((a1.getD (Int.toNat l) aa).H)), (22, 46, bool aB), (23, 47, bool (!aB)), (24, 48, bool (!aB)), (25, 49, bool (!aB)), (26, 50, undef), (27, 51, undef), (28, 52, undef), (29, 53, undef), (30, 54, bool true), (31, 55, bool true), (32, 56, undef), (33, 57, undef), (34, 58, undef), (35, 59, undef), (36, 60, undef), (37, 61, undef), (38, 62, undef), (39, 63, undef), (40, 64, undef), (41, 65, undef), (42, 66, undef), (43, 67, undef), (44, 68, undef), (45, 69, bool true)]) s (List.forall_mem_cons.2 ⟨b, (List.forall_mem_cons.2 ⟨c 16 z, (List.forall_mem_cons.2 ⟨c 17 z, (List.forall_mem_cons.2 ⟨c 18 z, (List.forall_mem_cons.2 ⟨c 19 z, (List.forall_mem_cons.2 ⟨c 20 z, (List.forall_mem_cons.2 ⟨c 21 z, (List.forall_mem_cons.2 ⟨c 22 z, (List.forall_mem_cons.2 ⟨c 23 z, (List.forall_mem_cons.2 ⟨c 24 z, (List.forall_mem_cons.2 ⟨c 25 z, (List.forall_mem_cons.2 ⟨c 26 z, (List.forall_mem_cons.2 ⟨c 27 z, (List.forall_mem_cons.2 ⟨c 28 z, (List.forall_mem_cons.2 ⟨c 29 z, (List.forall_mem_cons.2 ⟨c 30 z, (List.forall_mem_cons.2 ⟨c 31 z, (List.forall_mem_cons.2 ⟨c 32 z, (List.forall_mem_cons.2 ⟨c 33 z, (List.forall_mem_cons.2 ⟨c 34 z, (List.forall_mem_cons.2 ⟨c 35 z, (List.forall_mem_cons.2 ⟨c 36 z, (List.forall_mem_cons.2 ⟨c 37 z, (List.forall_mem_cons.2 ⟨c 38 z, (List.forall_mem_cons.2 ⟨c 39 z, (List.forall_mem_cons.2 ⟨c 40 z, (List.forall_mem_cons.2 ⟨c 41 z, (List.forall_mem_cons.2 ⟨c 42 z, (List.forall_mem_cons.2 ⟨c 43 z, (List.forall_mem_cons.2 ⟨c 44 z, (List.forall_mem_cons.2 ⟨c 45 z, (fun _ h => nomatch h)⟩)⟩)⟩)⟩)⟩)⟩)⟩)⟩)⟩)⟩)⟩)⟩)⟩)⟩)⟩)⟩)⟩)⟩)⟩)⟩)⟩)⟩)⟩)⟩)⟩)⟩)⟩)⟩)⟩)⟩)⟩)) b z z z z), aR⟩)⟩
 cases b.symm.trans f
 rintro D r an (⟨d, W, K, s, C⟩ | ⟨f, g, W, K, i, s, C⟩) b a c
 cases (a 15 rfl).symm.trans d
 obtain ⟨k, rfl⟩ := Has.ex (cC (s.get 10 rfl (a 10 rfl)) (cC (s.get 15 rfl (a 15 rfl)) cN))
 exact cv (hw:=gY z z z (vN ae)) oS (cW (a1 := ([(a1.getD (Int.toNat l) aa).X, (a1.getD (Int.toNat l) aa).Y] : List Int)) a3 C (show ([(a1.getD (Int.toNat l) aa).X, (a1.getD (Int.toNat l) aa).Y] : List Int).length ≤ 2 from Nat.le_of_ble_eq_true z) i) z z fun a9 aS=>nl ⟨z, (.inr ⟨f, g, _, K, i, (ag.step s b z z z z), aS⟩)⟩
 rintro D r an (⟨d, W, K, s, C⟩ | ⟨f, g, W, K, i, s, C⟩) b a c
 cases (a 15 rfl).symm.trans d
 obtain ⟨k, rfl⟩ := Has.ex (cC (s.get 10 rfl (a 10 rfl)) (cC (s.get 16 rfl (a 16 rfl)) cN))
 exact bV (hw:=gY z z z (vN ae)) z<|nl ⟨z, (.inr ⟨f, g, _, K, i, (ag.step s b z z z z), C⟩)⟩
 rintro D r an (⟨d, W, K, s, C⟩ | ⟨f, g, W, K, i, s, C⟩) b a c
 cases (a 15 rfl).symm.trans d
 obtain ⟨k, rfl⟩ := Has.ex (cC (s.get 10 rfl (a 10 rfl)) (cC (s.get 17 rfl (a 17 rfl)) cN))
 exact dm (vN ae) z<|nl ⟨z, (.inr ⟨f, g, _, K, i, (ag.step s b z z z z), C⟩)⟩
 rintro D r an (⟨d, W, K, s, C⟩ | ⟨f, g, W, K, i, s, C⟩) b a c
 cases (a 15 rfl).symm.trans d
 obtain ⟨k, rfl⟩ := Has.ex (cC (s.get 18 rfl (a 18 rfl)) cN)
 exact mv z<|nl ⟨z, (.inr ⟨f, g, _, K, i, (ag.step s b z z z z), C⟩)⟩
 rintro D r an (⟨d, W, K, s, C⟩ | ⟨f, g, W, K, i, s, C⟩) b a c
 cases (a 15 rfl).symm.trans d
 obtain ⟨k, rfl⟩ := Has.ex (cC (s.ins.get 1 rfl) (cC (s.get 19 rfl (a 19 rfl)) cN))
 exact fa (hw:=gY z z z (vN aC)) cm z<|nl ⟨z, (.inr ⟨f, g, _, K, i, (ag.step s b z z z z), C⟩)⟩
 rintro D r an (⟨d, W, K, s, C⟩ | ⟨f, g, W, K, i, s, C⟩) b a c
 cases (a 15 rfl).symm.trans d
 obtain ⟨k, rfl⟩ := Has.ex (cC (s.get 19 rfl (a 19 rfl)) (cC (s.get 20 rfl (a 20 rfl)) cN))
 exact ld (hw:=gY z z z (vN aC)) C 1 bb z z z<|nl ⟨z, (.inr ⟨f, g, _, K, i, (ag.step s b z z z z), C⟩)⟩
 rintro D r an (⟨d, W, K, s, C⟩ | ⟨f, g, W, K, i, s, C⟩) b a c
 cases (a 15 rfl).symm.trans d
 obtain ⟨k, rfl⟩ := Has.ex (cC (s.get 19 rfl (a 19 rfl)) (cC (s.get 21 rfl (a 21 rfl)) cN))
 exact cv (hw:=gY z z z (vN aC)) gM (aD ba C) z z fun bf aW=>nl ⟨z, (.inr ⟨f, g, _, K, i, (ag.step s b z z z z), aW⟩)⟩
 rintro D r an (⟨d, W, K, s, C⟩ | ⟨f, g, W, K, i, s, C⟩) b a c
 cases (a 15 rfl).symm.trans d
 obtain ⟨k, rfl⟩ := Has.ex (cC (s.get 19 rfl (a 19 rfl)) (cC (s.get 22 rfl (a 22 rfl)) cN))
 exact bV (hw:=gY z z z (vN aC)) z<|nl ⟨z, (.inr ⟨f, g, _, K, i, (ag.step s b z z z z), C⟩)⟩
 rintro D r an (⟨d, W, K, s, C⟩ | ⟨f, g, W, K, i, s, C⟩) b a c
 cases (a 15 rfl).symm.trans d
 obtain ⟨k, rfl⟩ := Has.ex (cC (s.get 19 rfl (a 19 rfl)) (cC (s.get 23 rfl (a 23 rfl)) cN))
 exact dm (vN aC) z<|nl ⟨z, (.inr ⟨f, g, _, K, i, (ag.step s b z z z z), C⟩)⟩
 rintro D r an (⟨d, W, K, s, C⟩ | ⟨f, g, W, K, i, s, C⟩) b a c
 cases (a 15 rfl).symm.trans d
 obtain ⟨k, rfl⟩ := Has.ex (cC (s.get 24 rfl (a 24 rfl)) cN)
 exact mv z<|nl ⟨z, (.inr ⟨f, g, _, K, i, (ag.step s b z z z z), C⟩)⟩
 rintro D r an (⟨d, W, K, s, C⟩ | ⟨f, g, W, K, i, s, C⟩) b a c
 cases (a 15 rfl).symm.trans d
 obtain ⟨k, rfl⟩ := Has.ex (cC (s.get 25 rfl (a 25 rfl)) cN)
 exact wN (gN z z z (vY aG) z)<|nl ⟨z, (.inr ⟨f, g, _, K, i, (ag.step s b z z z z), C⟩)⟩
 rintro D r an (⟨d, W, K, s, C⟩ | ⟨f, g, W, K, i, s, C⟩) b a c
 cases (a 15 rfl).symm.trans d
 obtain ⟨k, rfl⟩ := Has.ex (cC (s.get 25 rfl (a 25 rfl)) cN)
 exact wN (gN z z z (vY aG) z)<|nl ⟨z, (.inr ⟨f, g, _, K, i, (ag.step s b z z z z), C⟩)⟩
 rintro D r an (⟨d, W, K, s, C⟩ | ⟨f, g, W, K, i, s, C⟩) b a c
 cases (a 15 rfl).symm.trans d
 obtain ⟨k, rfl⟩ := Has.ex (cC (s.get 25 rfl (a 25 rfl)) cN)
 exact wN (gN z z z (vY aG) z)<|nl ⟨z, (.inr ⟨f, g, _, K, i, (ag.step s b z z z z), C⟩)⟩
 rintro D r an (⟨d, W, K, s, C⟩ | ⟨f, g, W, K, i, s, C⟩) b a c
 cases (a 15 rfl).symm.trans d
 obtain ⟨k, rfl⟩ := Has.ex (cC (s.get 25 rfl (a 25 rfl)) cN)
 exact wN (gN z z z (vY aG) z)<|nl ⟨z, (.inr ⟨f, g, _, K, i, (ag.step s b z z z z), C⟩)⟩
 rintro D r an (⟨d, W, K, s, C⟩ | ⟨f, g, W, K, i, s, C⟩) b a c
 cases (a 15 rfl).symm.trans d
 obtain ⟨k, rfl⟩ := Has.ex (cC (s.get 25 rfl (a 25 rfl)) (cC (s.get 29 rfl (a 29 rfl)) cN))
 exact cY (vY aG) z<|nl ⟨z, (.inr ⟨f, g, _, K, i, (ag.step s b z z z z), C⟩)⟩
 rintro D r an (⟨d, W, K, s, C⟩ | ⟨f, g, W, K, i, s, C⟩) b a c
 cases (a 15 rfl).symm.trans d
 obtain ⟨k, rfl⟩ := Has.ex (cC (s.get 30 rfl (a 30 rfl)) cN)
 exact mv z<|nl ⟨z, (.inr ⟨f, g, _, K, i, (ag.step s b z z z z), C⟩)⟩
 rintro D r an (⟨d, W, K, s, C⟩ | ⟨f, g, W, K, i, s, C⟩) b a c
 cases (a 15 rfl).symm.trans d
 obtain ⟨k, rfl⟩ := Has.ex (cC (s.get 31 rfl (a 31 rfl)) cN)
 exact wN (gN z z z z z)<|nl ⟨z, (.inr ⟨f, g, _, K, i, (ag.step s b z z z z), C⟩)⟩
 rintro D r an (⟨d, W, K, s, C⟩ | ⟨f, g, W, K, i, s, C⟩) b a c
 cases (a 15 rfl).symm.trans d
 obtain ⟨k, rfl⟩ := Has.ex (cC (s.get 31 rfl (a 31 rfl)) cN)
 exact wN (gN z z z z z)<|nl ⟨z, (.inr ⟨f, g, _, K, i, (ag.step s b z z z z), C⟩)⟩
 rintro D r an (⟨d, W, K, s, C⟩ | ⟨f, g, W, K, i, s, C⟩) b a c
 cases (a 15 rfl).symm.trans d
 obtain ⟨k, rfl⟩ := Has.ex (cC (s.get 31 rfl (a 31 rfl)) cN)
 exact wN (gN z z z z z)<|nl ⟨z, (.inr ⟨f, g, _, K, i, (ag.step s b z z z z), C⟩)⟩
 rintro D r an (⟨d, W, K, s, C⟩ | ⟨f, g, W, K, i, s, C⟩) b a c
 cases (a 15 rfl).symm.trans d
 obtain ⟨k, rfl⟩ := Has.ex (cC (s.get 34 rfl (a 34 rfl)) cN)
 exact wN (gN z z z z z)<|nl ⟨z, (.inr ⟨f, g, _, K, i, (ag.step s b z z z z), C⟩)⟩
 rintro D r an (⟨d, W, K, s, C⟩ | ⟨f, g, W, K, i, s, C⟩) b a c
 cases (a 15 rfl).symm.trans d
 obtain ⟨k, rfl⟩ := Has.ex (cC (s.get 34 rfl (a 34 rfl)) cN)
 exact wN (gN z z z z z)<|nl ⟨z, (.inr ⟨f, g, _, K, i, (ag.step s b z z z z), C⟩)⟩
 rintro D r an (⟨d, W, K, s, C⟩ | ⟨f, g, W, K, i, s, C⟩) b a c
 cases (a 15 rfl).symm.trans d
 obtain ⟨k, rfl⟩ := Has.ex (cC (s.get 34 rfl (a 34 rfl)) cN)
 exact wN (gN z z z z z)<|nl ⟨z, (.inr ⟨f, g, _, K, i, (ag.step s b z z z z), C⟩)⟩
 rintro D r an (⟨d, W, K, s, C⟩ | ⟨f, g, W, K, i, s, C⟩) b a c
 cases (a 15 rfl).symm.trans d
 obtain ⟨k, rfl⟩ := Has.ex (cC (s.get 34 rfl (a 34 rfl)) cN)
 exact wN (gN z z z z z)<|nl ⟨z, (.inr ⟨f, g, _, K, i, (ag.step s b z z z z), C⟩)⟩
 rintro D r an (⟨d, W, K, s, C⟩ | ⟨f, g, W, K, i, s, C⟩) b a c
 cases (a 15 rfl).symm.trans d
 obtain ⟨k, rfl⟩ := Has.ex (cC (s.get 34 rfl (a 34 rfl)) cN)
 exact wN (gN z z z z z)<|nl ⟨z, (.inr ⟨f, g, _, K, i, (ag.step s b z z z z), C⟩)⟩
 rintro D r an (⟨d, W, K, s, C⟩ | ⟨f, g, W, K, i, s, C⟩) b a c
 cases (a 15 rfl).symm.trans d
 obtain ⟨k, rfl⟩ := Has.ex (cC (s.get 34 rfl (a 34 rfl)) cN)
 exact wN (gN z z z z z)<|nl ⟨z, (.inr ⟨f, g, _, K, i, (ag.step s b z z z z), C⟩)⟩
 rintro D r an (⟨d, W, K, s, C⟩ | ⟨f, g, W, K, i, s, C⟩) b a c
 cases (a 15 rfl).symm.trans d
 obtain ⟨k, rfl⟩ := Has.ex (cC (s.get 34 rfl (a 34 rfl)) cN)
 exact wN (gN z z z z z)<|nl ⟨z, (.inr ⟨f, g, _, K, i, (ag.step s b z z z z), C⟩)⟩
 rintro D r an (⟨d, W, K, s, C⟩ | ⟨f, g, W, K, i, s, C⟩) b a c
 cases (a 15 rfl).symm.trans d
 obtain ⟨k, rfl⟩ := Has.ex (cC (s.get 34 rfl (a 34 rfl)) cN)
 exact wN (gN z z z z z)<|nl ⟨z, (.inr ⟨f, g, _, K, i, (ag.step s b z z z z), C⟩)⟩
 rintro D r an (⟨d, W, K, s, C⟩ | ⟨f, g, W, K, i, s, C⟩) b a c
 cases (a 15 rfl).symm.trans d
 obtain ⟨k, rfl⟩ := Has.ex (cC (s.get 34 rfl (a 34 rfl)) cN)
 exact wN (gN z z z z z)<|nl ⟨z, (.inr ⟨f, g, _, K, i, (ag.step s b z z z z), C⟩)⟩
 rintro D r an (⟨d, W, K, s, C⟩ | ⟨f, g, W, K, i, s, C⟩) b a c
 cases (a 15 rfl).symm.trans d
 obtain ⟨k, rfl⟩ := Has.ex (cC (s.get 31 rfl (a 31 rfl)) cN)
 exact wN (gN z z z z z)<|nl ⟨z, (.inr ⟨f, g, _, K, i, (ag.step s b z z z z), C⟩)⟩
 rintro D r an (⟨d, W, K, s, C⟩ | ⟨f, g, W, K, i, s, C⟩) b a c
 cases (a 15 rfl).symm.trans d
 obtain ⟨k, rfl⟩ := Has.ex (cC (s.get 31 rfl (a 31 rfl)) (cC (s.get 44 rfl (a 44 rfl)) cN))
 exact cY z z<|nl ⟨z, (.inr ⟨f, g, _, K, i, (ag.step s b z z z z), C⟩)⟩
 intro D r an P hR
 rcases hR with ⟨d, W, K, s, C⟩ | ⟨f, g, W, K, i, s, C⟩
 cases (P 15 (Nat.le_of_ble_eq_true rfl)).symm.trans d
 obtain ⟨k, rfl⟩ := Has.ex (cC (s.ins.get 0 rfl) (cC (s.ins.get 2 rfl) (cC (s.ins.get 3 rfl) (cC (s.ins.get 4 rfl) (cC (s.get 5 rfl (P 5 (Nat.le_of_ble_eq_true rfl))) (cC (s.get 6 rfl (P 6 (Nat.le_of_ble_eq_true rfl))) (cC (s.get 7 rfl (P 7 (Nat.le_of_ble_eq_true rfl))) (cC (s.get 8 rfl (P 8 (Nat.le_of_ble_eq_true rfl))) (cC (s.get 11 rfl (P 11 (Nat.le_of_ble_eq_true rfl))) (cC (s.get 12 rfl (P 12 (Nat.le_of_ble_eq_true rfl))) (cC (s.get 13 rfl (P 13 (Nat.le_of_ble_eq_true rfl))) (cC (s.get 14 rfl (P 14 (Nat.le_of_ble_eq_true rfl))) (cC (s.get 15 rfl (P 15 (Nat.le_of_ble_eq_true rfl))) (cC (s.get 16 rfl (P 16 (Nat.le_of_ble_eq_true rfl))) (cC (s.get 17 rfl (P 17 (Nat.le_of_ble_eq_true rfl))) (cC (s.get 20 rfl (P 20 (Nat.le_of_ble_eq_true rfl))) (cC (s.get 21 rfl (P 21 (Nat.le_of_ble_eq_true rfl))) (cC (s.get 22 rfl (P 22 (Nat.le_of_ble_eq_true rfl))) (cC (s.get 23 rfl (P 23 (Nat.le_of_ble_eq_true rfl))) (cC (s.get 45 rfl (P 45 (Nat.le_of_ble_eq_true rfl))) cN))))))))))))))))))))
 refine have bW:=Hp.pick 2 [1] C z;?_
 cases H
 exact je ⟨z, z, z, z, z, tv⟩ (Hp.low K bW)
 refine nK aG H fun H=>bK H fun aE bg H=>dC ((!aE) = true) (fun aI=>?_) fun aI=>?_
 refine yK aI H fun H=>?_
 refine aM [0, 1, 3, 7, 15, 31, 63, 127, 255, 511, 1023, 2047, 4095, 2047, 10239, 32767, 65535, 131071, 262143, 524287, 1048575, 2097151, 4194303, 8388607, 16777215, 33554431, 67108863, 134217727, 268435455, 536870911, 1073741823, 2147483647, 4294967295, 8589934591, 17179869183, 34359738367, 68719476735, 34359738367, 34359738367, 309237645311, 996432412671, 2095944040447, 4294967295999, 8796093022207, 17592186044415, 35184372088831] (fun D r w => (D 15 = false ∧ ∃ (G' : Gh), G ≤ G' ∧ ag [(0, slice A2 a1.length c3), (6, pointer (some ⟨ad, 0, none⟩)), (17, slice A2 a1.length c3), (18, int .i64 (a1.length : Int)), (19, int .i64 l)] [] [(0, 24, pointer (some ⟨ad, 0, none⟩)), (1, 25, int .i64 ((a1.getD (Int.toNat l) aa).Node)), (2, 26, bool ax), (3, 27, bool (!ax)), (4, 28, bool (!ax)), (5, 29, pointer (some ⟨ad, 1, none⟩)), (6, 30, int .i64 ((a1.getD (Int.toNat l) aa).Table)), (7, 31, bool ar), (8, 32, bool (!ar)), (9, 33, bool (!ar)), (10, 34, bool (!ar)), (11, 35, pointer (some ⟨ad, 2, none⟩)), (12, 36, int .i64 ((a1.getD (Int.toNat l) aa).X)), (13, 37, pointer (some ⟨ad, 3, none⟩)), (14, 38, int .i64 ((a1.getD (Int.toNat l) aa).Y))] D r ∧ Hp G' (bx ad [int .i64 ((a1.getD (Int.toNat l) aa).Node), int .i64 ((a1.getD (Int.toNat l) aa).Table), int .i64 ((a1.getD (Int.toNat l) aa).X), int .i64 ((a1.getD (Int.toNat l) aa).Y), int .i64 ((a1.getD (Int.toNat l) aa).H), string ((a1.getD (Int.toNat l) aa).Text), bool ((a1.getD (Int.toNat l) aa).Head), bool ((a1.getD (Int.toNat l) aa).Note)] 36 :: L) w) ∨ (D 15 = true ∧ ∃ (g : Nat) (G' : Gh), G ≤ G' ∧ Dat (Kd.int .i64) G' (some ⟨g, 0, none⟩) ([(a1.getD (Int.toNat l) aa).X, (a1.getD (Int.toNat l) aa).Y] : List Int) ∧ ag [(0, slice A2 a1.length c3), (6, pointer (some ⟨ad, 0, none⟩)), (17, slice A2 a1.length c3), (18, int .i64 (a1.length : Int)), (19, int .i64 l)] [] [(0, 24, pointer (some ⟨ad, 0, none⟩)), (1, 25, int .i64 ((a1.getD (Int.toNat l) aa).Node)), (2, 26, bool ax), (3, 27, bool (!ax)), (4, 28, bool (!ax)), (5, 29, pointer (some ⟨ad, 1, none⟩)), (6, 30, int .i64 ((a1.getD (Int.toNat l) aa).Table)), (7, 31, bool ar), (8, 32, bool (!ar)), (9, 33, bool (!ar)), (10, 34, bool (!ar)), (11, 35, pointer (some ⟨ad, 2, none⟩)), (12, 36, int .i64 ((a1.getD (Int.toNat l) aa).X)), (13, 37, pointer (some ⟨ad, 3, none⟩)), (14, 38, int .i64 ((a1.getD (Int.toNat l) aa).Y)), (15, 39, slice (some ⟨g, 0, none⟩) ([(a1.getD (Int.toNat l) aa).X, (a1.getD (Int.toNat l) aa).Y] : List Int).length 2), (16, 40, bool au), (17, 41, bool (!au)), (18, 42, bool (!au)), (19, 43, bool (!au)), (20, 44, pointer (some ⟨ad, 4, none⟩)), (21, 45, int .i64 ((a1.getD (Int.toNat l) aa).H)), (22, 46, bool aB), (23, 47, bool (!aB)), (24, 48, bool (!aB)), (25, 49, bool (!aB)), (26, 50, pointer (some ⟨ad, 5, none⟩)), (27, 51, string ((a1.getD (Int.toNat l) aa).Text)), (28, 52, bool aE), (29, 53, bool (!aE)), (30, 54, bool (!aE)), (31, 55, bool (!aE)), (32, 56, undef), (33, 57, undef), (34, 58, undef), (35, 59, undef), (36, 60, undef), (37, 61, undef), (38, 62, undef), (39, 63, undef), (40, 64, undef), (41, 65, undef), (42, 66, undef), (43, 67, undef), (44, 68, undef), (45, 69, bool true)] D r ∧ Hp G' (tk (slice (some ⟨g, 0, none⟩) ([(a1.getD (Int.toNat l) aa).X, (a1.getD (Int.toNat l) aa).Y] : List Int).length 2) 1 3 :: bx ad [int .i64 ((a1.getD (Int.toNat l) aa).Node), int .i64 ((a1.getD (Int.toNat l) aa).Table), int .i64 ((a1.getD (Int.toNat l) aa).X), int .i64 ((a1.getD (Int.toNat l) aa).Y), int .i64 ((a1.getD (Int.toNat l) aa).H), string ((a1.getD (Int.toNat l) aa).Text), bool ((a1.getD (Int.toNat l) aa).Head), bool ((a1.getD (Int.toNat l) aa).Note)] 36 :: L) w)) dJ z z ?_ ?_ ?_
 exact (.inl ⟨z, _, Gh.le_refl _, ag.start ⟨z, z, z, z, z, tv⟩ trivial, aU.drew⟩)
 refine ⟨?_, ?_, ?_, ?_, ?_, ?_, ?_, ?_, ?_, ?_, ?_, ?_, ?_, ?_, ?_, ?_, ?_, ?_, ?_, ?_, ?_, ?_, ?_, ?_, ?_, ?_, ?_, ?_, ?_, ?_, ?_, ?_, ?_, ?_, ?_, ?_, ?_, ?_, ?_, ?_, ?_, ?_, ?_, ?_, ?_, ?_, tv⟩
 rintro D r ao (⟨d, Z, M, q, A⟩ | ⟨f, g, Z, M, i, q, A⟩) b a c
 obtain ⟨k, rfl⟩ := Has.ex (cC (q.ins.get 1 rfl) cN)
 exact fa iC z<|nl ⟨z, (.inl ⟨d, _, M, (ag.step q b z z z z), A⟩)⟩
 cases (c 15 rfl).symm.trans f
 rintro D r ao (⟨d, Z, M, q, A⟩ | ⟨f, g, Z, M, i, q, A⟩) b a c
 obtain ⟨k, rfl⟩ := Has.ex (cC (q.get 0 rfl (a 0 rfl)) cN)
 exact ld A 0 bb z z z<|nl ⟨z, (.inl ⟨d, _, M, (ag.step q b z z z z), A⟩)⟩
 cases (c 15 rfl).symm.trans f
 rintro D r ao (⟨d, Z, M, q, A⟩ | ⟨f, g, Z, M, i, q, A⟩) b a c
 obtain ⟨k, rfl⟩ := Has.ex (cC (q.get 1 rfl (a 1 rfl)) cN)
 exact cv gM (aD aV A) z z fun aX aJ=>nl ⟨z, (.inl ⟨d, _, M, (ag.step q b z z z z), aJ⟩)⟩
 cases (c 15 rfl).symm.trans f
 rintro D r ao (⟨d, Z, M, q, A⟩ | ⟨f, g, Z, M, i, q, A⟩) b a c
 obtain ⟨k, rfl⟩ := Has.ex (cC (q.get 2 rfl (a 2 rfl)) cN)
 exact bV z<|nl ⟨z, (.inl ⟨d, _, M, (ag.step q b z z z z), A⟩)⟩
 cases (c 15 rfl).symm.trans f
 rintro D r ao (⟨d, Z, M, q, A⟩ | ⟨f, g, Z, M, i, q, A⟩) b a c
 obtain ⟨k, rfl⟩ := Has.ex (cC (q.get 3 rfl (a 3 rfl)) cN)
 exact mv z<|nl ⟨z, (.inl ⟨d, _, M, (ag.step q b z z z z), A⟩)⟩
 cases (c 15 rfl).symm.trans f
 rintro D r ao (⟨d, Z, M, q, A⟩ | ⟨f, g, Z, M, i, q, A⟩) b a c
 obtain ⟨k, rfl⟩ := Has.ex (cC (q.ins.get 1 rfl) (cC (q.get 4 rfl (a 4 rfl)) cN))
 exact fa (hw:=gY z z z (vN av)) hX z<|nl ⟨z, (.inl ⟨d, _, M, (ag.step q b z z z z), A⟩)⟩
 cases (c 15 rfl).symm.trans f
 rintro D r ao (⟨d, Z, M, q, A⟩ | ⟨f, g, Z, M, i, q, A⟩) b a c
 obtain ⟨k, rfl⟩ := Has.ex (cC (q.get 4 rfl (a 4 rfl)) (cC (q.get 5 rfl (a 5 rfl)) cN))
 exact ld (hw:=gY z z z (vN av)) A 0 bb z z z<|nl ⟨z, (.inl ⟨d, _, M, (ag.step q b z z z z), A⟩)⟩
 cases (c 15 rfl).symm.trans f
 rintro D r ao (⟨d, Z, M, q, A⟩ | ⟨f, g, Z, M, i, q, A⟩) b a c
 obtain ⟨k, rfl⟩ := Has.ex (cC (q.get 4 rfl (a 4 rfl)) (cC (q.get 6 rfl (a 6 rfl)) cN))
 exact cv (hw:=gY z z z (vN av)) gM (aD aY A) z z fun a2 aN=>nl ⟨z, (.inl ⟨d, _, M, (ag.step q b z z z z), aN⟩)⟩
 cases (c 15 rfl).symm.trans f
 rintro D r ao (⟨d, Z, M, q, A⟩ | ⟨f, g, Z, M, i, q, A⟩) b a c
 obtain ⟨k, rfl⟩ := Has.ex (cC (q.get 4 rfl (a 4 rfl)) (cC (q.get 7 rfl (a 7 rfl)) cN))
 exact bV (hw:=gY z z z (vN av)) z<|nl ⟨z, (.inl ⟨d, _, M, (ag.step q b z z z z), A⟩)⟩
 cases (c 15 rfl).symm.trans f
 rintro D r ao (⟨d, Z, M, q, A⟩ | ⟨f, g, Z, M, i, q, A⟩) b a c
 obtain ⟨k, rfl⟩ := Has.ex (cC (q.get 4 rfl (a 4 rfl)) (cC (q.get 8 rfl (a 8 rfl)) cN))
 exact dm (vN av) z<|nl ⟨z, (.inl ⟨d, _, M, (ag.step q b z z z z), A⟩)⟩
 cases (c 15 rfl).symm.trans f
 rintro D r ao (⟨d, Z, M, q, A⟩ | ⟨f, g, Z, M, i, q, A⟩) b a c
 obtain ⟨k, rfl⟩ := Has.ex (cC (q.get 9 rfl (a 9 rfl)) cN)
 exact mv z<|nl ⟨z, (.inl ⟨d, _, M, (ag.step q b z z z z), A⟩)⟩
 cases (c 15 rfl).symm.trans f
 rintro D r ao (⟨d, Z, M, q, A⟩ | ⟨f, g, Z, M, i, q, A⟩) b a c
 obtain ⟨k, rfl⟩ := Has.ex (cC (q.ins.get 1 rfl) (cC (q.get 10 rfl (a 10 rfl)) cN))
 exact fa (hw:=gY z z z (vN ae)) hY z<|nl ⟨z, (.inl ⟨d, _, M, (ag.step q b z z z z), A⟩)⟩
 cases (c 15 rfl).symm.trans f
 rintro D r ao (⟨d, Z, M, q, A⟩ | ⟨f, g, Z, M, i, q, A⟩) b a c
 obtain ⟨k, rfl⟩ := Has.ex (cC (q.get 10 rfl (a 10 rfl)) (cC (q.get 11 rfl (a 11 rfl)) cN))
 exact ld (hw:=gY z z z (vN ae)) A 0 bb z z z<|nl ⟨z, (.inl ⟨d, _, M, (ag.step q b z z z z), A⟩)⟩
 cases (c 15 rfl).symm.trans f
 rintro D r ao (⟨d, Z, M, q, A⟩ | ⟨f, g, Z, M, i, q, A⟩) b a c
 obtain ⟨k, rfl⟩ := Has.ex (cC (q.ins.get 1 rfl) (cC (q.get 10 rfl (a 10 rfl)) cN))
 exact fa (hw:=gY z z z (vN ae)) bn z<|nl ⟨z, (.inl ⟨d, _, M, (ag.step q b z z z z), A⟩)⟩
 cases (c 15 rfl).symm.trans f
 rintro D r ao (⟨d, Z, M, q, A⟩ | ⟨f, g, Z, M, i, q, A⟩) b a c
 obtain ⟨k, rfl⟩ := Has.ex (cC (q.get 10 rfl (a 10 rfl)) (cC (q.get 13 rfl (a 13 rfl)) cN))
 exact ld (hw:=gY z z z (vN ae)) A 0 bb z z z<|nl ⟨z, (.inl ⟨d, _, M, (ag.step q b z z z z), A⟩)⟩
 cases (c 15 rfl).symm.trans f
 rintro D r ao (⟨d, Z, M, q, A⟩ | ⟨f, g, Z, M, i, q, A⟩) b a c
 obtain ⟨k, rfl⟩ := Has.ex (cC (q.get 10 rfl (a 10 rfl)) (cC (q.get 12 rfl (a 12 rfl)) (cC (q.get 14 rfl (a 14 rfl)) cN)))
 refine eh A (vs := [(0, int .i64 ((a1.getD (Int.toNat l) aa).X)), (1, int .i64 ((a1.getD (Int.toNat l) aa).Y))]) (cs := [int .i64 ((a1.getD (Int.toNat l) aa).X), int .i64 ((a1.getD (Int.toNat l) aa).Y)]) j5 pK rfl (by decide) rfl (by kernel_rfl) (fun g a7 aO => ?_) (hw := gY rfl rfl rfl (fF ae))
 obtain ⟨a8, aQ, aR, i⟩ := Hp.publish (xs := ([(a1.getD (Int.toNat l) aa).X, (a1.getD (Int.toNat l) aa).Y] : List Int)) (n := 2) (Kd.int .i64) aO ⟨[int .i64 ((a1.getD (Int.toNat l) aa).X)], _, rfl, rfl, ⟨[int .i64 ((a1.getD (Int.toNat l) aa).Y)], _, rfl, rfl, rfl⟩⟩ rfl
 exact nl ⟨z, (.inr ⟨z, g, _, (gT M aQ), i, (ag.step (ag.more (new := [(15, 39, slice (some ⟨g, 0, none⟩) ([(a1.getD (Int.toNat l) aa).X, (a1.getD (Int.toNat l) aa).Y] : List Int).length 2), (16, 40, bool au), (17, 41, bool (!au)), (18, 42, bool (!au)), (19, 43, bool (!au)), (20, 44, pointer (some ⟨ad, 4, none⟩)), (21, 45, int .i64 ((a1.getD (Int.toNat l) aa).H)), (22, 46, bool aB), (23, 47, bool (!aB)), (24, 48, bool (!aB)), (25, 49, bool (!aB)), (26, 50, pointer (some ⟨ad, 5, none⟩)), (27, 51, string ((a1.getD (Int.toNat l) aa).Text)), (28, 52, bool aE), (29, 53, bool (!aE)), (30, 54, bool (!aE)), (31, 55, bool (!aE)), (32, 56, undef), (33, 57, undef), (34, 58, undef), (35, 59, undef), (36, 60, undef), (37, 61, undef), (38, 62, undef), (39, 63, undef), (40, 64, undef), (41, 65, undef), (42, 66, undef), (43, 67, undef), (44, 68, undef), (45, 69, bool true)]) q (List.forall_mem_cons.2 ⟨b, (List.forall_mem_cons.2 ⟨c 16 z, (List.forall_mem_cons.2 ⟨c 17 z, (List.forall_mem_cons.2 ⟨c 18 z, (List.forall_mem_cons.2 ⟨c 19 z, (List.forall_mem_cons.2 ⟨c 20 z, (List.forall_mem_cons.2 ⟨c 21 z, (List.forall_mem_cons.2 ⟨c 22 z, (List.forall_mem_cons.2 ⟨c 23 z, (List.forall_mem_cons.2 ⟨c 24 z, (List.forall_mem_cons.2 ⟨c 25 z, (List.forall_mem_cons.2 ⟨c 26 z, (List.forall_mem_cons.2 ⟨c 27 z, (List.forall_mem_cons.2 ⟨c 28 z, (List.forall_mem_cons.2 ⟨c 29 z, (List.forall_mem_cons.2 ⟨c 30 z, (List.forall_mem_cons.2 ⟨c 31 z, (List.forall_mem_cons.2 ⟨c 32 z, (List.forall_mem_cons.2 ⟨c 33 z, (List.forall_mem_cons.2 ⟨c 34 z, (List.forall_mem_cons.2 ⟨c 35 z, (List.forall_mem_cons.2 ⟨c 36 z, (List.forall_mem_cons.2 ⟨c 37 z, (List.forall_mem_cons.2 ⟨c 38 z, (List.forall_mem_cons.2 ⟨c 39 z, (List.forall_mem_cons.2 ⟨c 40 z, (List.forall_mem_cons.2 ⟨c 41 z, (List.forall_mem_cons.2 ⟨c 42 z, (List.forall_mem_cons.2 ⟨c 43 z, (List.forall_mem_cons.2 ⟨c 44 z, (List.forall_mem_cons.2 ⟨c 45 z, (fun _ h => nomatch h)⟩)⟩)⟩)⟩)⟩)⟩)⟩)⟩)⟩)⟩)⟩)⟩)⟩)⟩)⟩)⟩)⟩)⟩)⟩)⟩)⟩)⟩)⟩)⟩)⟩)⟩)⟩)⟩)⟩)⟩)⟩)) b z z z z), aR⟩)⟩
 cases b.symm.trans f
 rintro D r ao (⟨d, Z, M, q, A⟩ | ⟨f, g, Z, M, i, q, A⟩) b a c
 cases (a 15 rfl).symm.trans d
 obtain ⟨k, rfl⟩ := Has.ex (cC (q.get 10 rfl (a 10 rfl)) (cC (q.get 15 rfl (a 15 rfl)) cN))
 exact cv (hw:=gY z z z (vN ae)) oS (cW (a1 := ([(a1.getD (Int.toNat l) aa).X, (a1.getD (Int.toNat l) aa).Y] : List Int)) a3 A (show ([(a1.getD (Int.toNat l) aa).X, (a1.getD (Int.toNat l) aa).Y] : List Int).length ≤ 2 from Nat.le_of_ble_eq_true z) i) z z fun a9 aS=>nl ⟨z, (.inr ⟨f, g, _, M, i, (ag.step q b z z z z), aS⟩)⟩
 rintro D r ao (⟨d, Z, M, q, A⟩ | ⟨f, g, Z, M, i, q, A⟩) b a c
 cases (a 15 rfl).symm.trans d
 obtain ⟨k, rfl⟩ := Has.ex (cC (q.get 10 rfl (a 10 rfl)) (cC (q.get 16 rfl (a 16 rfl)) cN))
 exact bV (hw:=gY z z z (vN ae)) z<|nl ⟨z, (.inr ⟨f, g, _, M, i, (ag.step q b z z z z), A⟩)⟩
 rintro D r ao (⟨d, Z, M, q, A⟩ | ⟨f, g, Z, M, i, q, A⟩) b a c
 cases (a 15 rfl).symm.trans d
 obtain ⟨k, rfl⟩ := Has.ex (cC (q.get 10 rfl (a 10 rfl)) (cC (q.get 17 rfl (a 17 rfl)) cN))
 exact dm (vN ae) z<|nl ⟨z, (.inr ⟨f, g, _, M, i, (ag.step q b z z z z), A⟩)⟩
 rintro D r ao (⟨d, Z, M, q, A⟩ | ⟨f, g, Z, M, i, q, A⟩) b a c
 cases (a 15 rfl).symm.trans d
 obtain ⟨k, rfl⟩ := Has.ex (cC (q.get 18 rfl (a 18 rfl)) cN)
 exact mv z<|nl ⟨z, (.inr ⟨f, g, _, M, i, (ag.step q b z z z z), A⟩)⟩
 rintro D r ao (⟨d, Z, M, q, A⟩ | ⟨f, g, Z, M, i, q, A⟩) b a c
 cases (a 15 rfl).symm.trans d
 obtain ⟨k, rfl⟩ := Has.ex (cC (q.ins.get 1 rfl) (cC (q.get 19 rfl (a 19 rfl)) cN))
 exact fa (hw:=gY z z z (vN aC)) cm z<|nl ⟨z, (.inr ⟨f, g, _, M, i, (ag.step q b z z z z), A⟩)⟩
 rintro D r ao (⟨d, Z, M, q, A⟩ | ⟨f, g, Z, M, i, q, A⟩) b a c
 cases (a 15 rfl).symm.trans d
 obtain ⟨k, rfl⟩ := Has.ex (cC (q.get 19 rfl (a 19 rfl)) (cC (q.get 20 rfl (a 20 rfl)) cN))
 exact ld (hw:=gY z z z (vN aC)) A 1 bb z z z<|nl ⟨z, (.inr ⟨f, g, _, M, i, (ag.step q b z z z z), A⟩)⟩
 rintro D r ao (⟨d, Z, M, q, A⟩ | ⟨f, g, Z, M, i, q, A⟩) b a c
 cases (a 15 rfl).symm.trans d
 obtain ⟨k, rfl⟩ := Has.ex (cC (q.get 19 rfl (a 19 rfl)) (cC (q.get 21 rfl (a 21 rfl)) cN))
 exact cv (hw:=gY z z z (vN aC)) gM (aD ba A) z z fun bf aW=>nl ⟨z, (.inr ⟨f, g, _, M, i, (ag.step q b z z z z), aW⟩)⟩
 rintro D r ao (⟨d, Z, M, q, A⟩ | ⟨f, g, Z, M, i, q, A⟩) b a c
 cases (a 15 rfl).symm.trans d
 obtain ⟨k, rfl⟩ := Has.ex (cC (q.get 19 rfl (a 19 rfl)) (cC (q.get 22 rfl (a 22 rfl)) cN))
 exact bV (hw:=gY z z z (vN aC)) z<|nl ⟨z, (.inr ⟨f, g, _, M, i, (ag.step q b z z z z), A⟩)⟩
 rintro D r ao (⟨d, Z, M, q, A⟩ | ⟨f, g, Z, M, i, q, A⟩) b a c
 cases (a 15 rfl).symm.trans d
 obtain ⟨k, rfl⟩ := Has.ex (cC (q.get 19 rfl (a 19 rfl)) (cC (q.get 23 rfl (a 23 rfl)) cN))
 exact dm (vN aC) z<|nl ⟨z, (.inr ⟨f, g, _, M, i, (ag.step q b z z z z), A⟩)⟩
 rintro D r ao (⟨d, Z, M, q, A⟩ | ⟨f, g, Z, M, i, q, A⟩) b a c
 cases (a 15 rfl).symm.trans d
 obtain ⟨k, rfl⟩ := Has.ex (cC (q.get 24 rfl (a 24 rfl)) cN)
 exact mv z<|nl ⟨z, (.inr ⟨f, g, _, M, i, (ag.step q b z z z z), A⟩)⟩
 rintro D r ao (⟨d, Z, M, q, A⟩ | ⟨f, g, Z, M, i, q, A⟩) b a c
 cases (a 15 rfl).symm.trans d
 obtain ⟨k, rfl⟩ := Has.ex (cC (q.ins.get 1 rfl) (cC (q.get 25 rfl (a 25 rfl)) cN))
 exact fa (hw:=gY z z z (vN aG)) kY z<|nl ⟨z, (.inr ⟨f, g, _, M, i, (ag.step q b z z z z), A⟩)⟩
 rintro D r ao (⟨d, Z, M, q, A⟩ | ⟨f, g, Z, M, i, q, A⟩) b a c
 cases (a 15 rfl).symm.trans d
 obtain ⟨k, rfl⟩ := Has.ex (cC (q.get 25 rfl (a 25 rfl)) (cC (q.get 26 rfl (a 26 rfl)) cN))
 exact ld (hw:=gY z z z (vN aG)) A 1 rb z z z<|nl ⟨z, (.inr ⟨f, g, _, M, i, (ag.step q b z z z z), A⟩)⟩
 rintro D r ao (⟨d, Z, M, q, A⟩ | ⟨f, g, Z, M, i, q, A⟩) b a c
 cases (a 15 rfl).symm.trans d
 obtain ⟨k, rfl⟩ := Has.ex (cC (q.get 25 rfl (a 25 rfl)) (cC (q.get 27 rfl (a 27 rfl)) cN))
 exact cv (hw:=gY z z z (vN aG)) qc (gj bg A) z z fun bt a4=>nl ⟨z, (.inr ⟨f, g, _, M, i, (ag.step q b z z z z), a4⟩)⟩
 rintro D r ao (⟨d, Z, M, q, A⟩ | ⟨f, g, Z, M, i, q, A⟩) b a c
 cases (a 15 rfl).symm.trans d
 obtain ⟨k, rfl⟩ := Has.ex (cC (q.get 25 rfl (a 25 rfl)) (cC (q.get 28 rfl (a 28 rfl)) cN))
 exact bV (hw:=gY z z z (vN aG)) z<|nl ⟨z, (.inr ⟨f, g, _, M, i, (ag.step q b z z z z), A⟩)⟩
 rintro D r ao (⟨d, Z, M, q, A⟩ | ⟨f, g, Z, M, i, q, A⟩) b a c
 cases (a 15 rfl).symm.trans d
 obtain ⟨k, rfl⟩ := Has.ex (cC (q.get 25 rfl (a 25 rfl)) (cC (q.get 29 rfl (a 29 rfl)) cN))
 exact dm (vN aG) z<|nl ⟨z, (.inr ⟨f, g, _, M, i, (ag.step q b z z z z), A⟩)⟩
 rintro D r ao (⟨d, Z, M, q, A⟩ | ⟨f, g, Z, M, i, q, A⟩) b a c
 cases (a 15 rfl).symm.trans d
 obtain ⟨k, rfl⟩ := Has.ex (cC (q.get 30 rfl (a 30 rfl)) cN)
 exact mv z<|nl ⟨z, (.inr ⟨f, g, _, M, i, (ag.step q b z z z z), A⟩)⟩
 rintro D r ao (⟨d, Z, M, q, A⟩ | ⟨f, g, Z, M, i, q, A⟩) b a c
 cases (a 15 rfl).symm.trans d
 obtain ⟨k, rfl⟩ := Has.ex (cC (q.get 31 rfl (a 31 rfl)) cN)
 exact wN (gN z z z (vY aI) z)<|nl ⟨z, (.inr ⟨f, g, _, M, i, (ag.step q b z z z z), A⟩)⟩
 rintro D r ao (⟨d, Z, M, q, A⟩ | ⟨f, g, Z, M, i, q, A⟩) b a c
 cases (a 15 rfl).symm.trans d
 obtain ⟨k, rfl⟩ := Has.ex (cC (q.get 31 rfl (a 31 rfl)) cN)
 exact wN (gN z z z (vY aI) z)<|nl ⟨z, (.inr ⟨f, g, _, M, i, (ag.step q b z z z z), A⟩)⟩
 rintro D r ao (⟨d, Z, M, q, A⟩ | ⟨f, g, Z, M, i, q, A⟩) b a c
 cases (a 15 rfl).symm.trans d
 obtain ⟨k, rfl⟩ := Has.ex (cC (q.get 31 rfl (a 31 rfl)) cN)
 exact wN (gN z z z (vY aI) z)<|nl ⟨z, (.inr ⟨f, g, _, M, i, (ag.step q b z z z z), A⟩)⟩
 rintro D r ao (⟨d, Z, M, q, A⟩ | ⟨f, g, Z, M, i, q, A⟩) b a c
 cases (a 15 rfl).symm.trans d
 obtain ⟨k, rfl⟩ := Has.ex (cC (q.get 34 rfl (a 34 rfl)) cN)
 exact wN (gN z z z z z)<|nl ⟨z, (.inr ⟨f, g, _, M, i, (ag.step q b z z z z), A⟩)⟩
 rintro D r ao (⟨d, Z, M, q, A⟩ | ⟨f, g, Z, M, i, q, A⟩) b a c
 cases (a 15 rfl).symm.trans d
 obtain ⟨k, rfl⟩ := Has.ex (cC (q.get 34 rfl (a 34 rfl)) cN)
 exact wN (gN z z z z z)<|nl ⟨z, (.inr ⟨f, g, _, M, i, (ag.step q b z z z z), A⟩)⟩
 rintro D r ao (⟨d, Z, M, q, A⟩ | ⟨f, g, Z, M, i, q, A⟩) b a c
 cases (a 15 rfl).symm.trans d
 obtain ⟨k, rfl⟩ := Has.ex (cC (q.get 34 rfl (a 34 rfl)) cN)
 exact wN (gN z z z z z)<|nl ⟨z, (.inr ⟨f, g, _, M, i, (ag.step q b z z z z), A⟩)⟩
 rintro D r ao (⟨d, Z, M, q, A⟩ | ⟨f, g, Z, M, i, q, A⟩) b a c
 cases (a 15 rfl).symm.trans d
 obtain ⟨k, rfl⟩ := Has.ex (cC (q.get 34 rfl (a 34 rfl)) cN)
 exact wN (gN z z z z z)<|nl ⟨z, (.inr ⟨f, g, _, M, i, (ag.step q b z z z z), A⟩)⟩
 rintro D r ao (⟨d, Z, M, q, A⟩ | ⟨f, g, Z, M, i, q, A⟩) b a c
 cases (a 15 rfl).symm.trans d
 obtain ⟨k, rfl⟩ := Has.ex (cC (q.get 34 rfl (a 34 rfl)) cN)
 exact wN (gN z z z z z)<|nl ⟨z, (.inr ⟨f, g, _, M, i, (ag.step q b z z z z), A⟩)⟩
 rintro D r ao (⟨d, Z, M, q, A⟩ | ⟨f, g, Z, M, i, q, A⟩) b a c
 cases (a 15 rfl).symm.trans d
 obtain ⟨k, rfl⟩ := Has.ex (cC (q.get 34 rfl (a 34 rfl)) cN)
 exact wN (gN z z z z z)<|nl ⟨z, (.inr ⟨f, g, _, M, i, (ag.step q b z z z z), A⟩)⟩
 rintro D r ao (⟨d, Z, M, q, A⟩ | ⟨f, g, Z, M, i, q, A⟩) b a c
 cases (a 15 rfl).symm.trans d
 obtain ⟨k, rfl⟩ := Has.ex (cC (q.get 34 rfl (a 34 rfl)) cN)
 exact wN (gN z z z z z)<|nl ⟨z, (.inr ⟨f, g, _, M, i, (ag.step q b z z z z), A⟩)⟩
 rintro D r ao (⟨d, Z, M, q, A⟩ | ⟨f, g, Z, M, i, q, A⟩) b a c
 cases (a 15 rfl).symm.trans d
 obtain ⟨k, rfl⟩ := Has.ex (cC (q.get 34 rfl (a 34 rfl)) cN)
 exact wN (gN z z z z z)<|nl ⟨z, (.inr ⟨f, g, _, M, i, (ag.step q b z z z z), A⟩)⟩
 rintro D r ao (⟨d, Z, M, q, A⟩ | ⟨f, g, Z, M, i, q, A⟩) b a c
 cases (a 15 rfl).symm.trans d
 obtain ⟨k, rfl⟩ := Has.ex (cC (q.get 34 rfl (a 34 rfl)) cN)
 exact wN (gN z z z z z)<|nl ⟨z, (.inr ⟨f, g, _, M, i, (ag.step q b z z z z), A⟩)⟩
 rintro D r ao (⟨d, Z, M, q, A⟩ | ⟨f, g, Z, M, i, q, A⟩) b a c
 cases (a 15 rfl).symm.trans d
 obtain ⟨k, rfl⟩ := Has.ex (cC (q.get 31 rfl (a 31 rfl)) cN)
 exact wN (gN z z z (vY aI) z)<|nl ⟨z, (.inr ⟨f, g, _, M, i, (ag.step q b z z z z), A⟩)⟩
 rintro D r ao (⟨d, Z, M, q, A⟩ | ⟨f, g, Z, M, i, q, A⟩) b a c
 cases (a 15 rfl).symm.trans d
 obtain ⟨k, rfl⟩ := Has.ex (cC (q.get 31 rfl (a 31 rfl)) (cC (q.get 44 rfl (a 44 rfl)) cN))
 exact cY (vY aI) z<|nl ⟨z, (.inr ⟨f, g, _, M, i, (ag.step q b z z z z), A⟩)⟩
 intro D r ao P hR
 rcases hR with ⟨d, Z, M, q, A⟩ | ⟨f, g, Z, M, i, q, A⟩
 cases (P 15 (Nat.le_of_ble_eq_true rfl)).symm.trans d
 obtain ⟨k, rfl⟩ := Has.ex (cC (q.ins.get 0 rfl) (cC (q.ins.get 2 rfl) (cC (q.ins.get 3 rfl) (cC (q.ins.get 4 rfl) (cC (q.get 5 rfl (P 5 (Nat.le_of_ble_eq_true rfl))) (cC (q.get 6 rfl (P 6 (Nat.le_of_ble_eq_true rfl))) (cC (q.get 7 rfl (P 7 (Nat.le_of_ble_eq_true rfl))) (cC (q.get 8 rfl (P 8 (Nat.le_of_ble_eq_true rfl))) (cC (q.get 11 rfl (P 11 (Nat.le_of_ble_eq_true rfl))) (cC (q.get 12 rfl (P 12 (Nat.le_of_ble_eq_true rfl))) (cC (q.get 13 rfl (P 13 (Nat.le_of_ble_eq_true rfl))) (cC (q.get 14 rfl (P 14 (Nat.le_of_ble_eq_true rfl))) (cC (q.get 15 rfl (P 15 (Nat.le_of_ble_eq_true rfl))) (cC (q.get 16 rfl (P 16 (Nat.le_of_ble_eq_true rfl))) (cC (q.get 17 rfl (P 17 (Nat.le_of_ble_eq_true rfl))) (cC (q.get 20 rfl (P 20 (Nat.le_of_ble_eq_true rfl))) (cC (q.get 21 rfl (P 21 (Nat.le_of_ble_eq_true rfl))) (cC (q.get 22 rfl (P 22 (Nat.le_of_ble_eq_true rfl))) (cC (q.get 23 rfl (P 23 (Nat.le_of_ble_eq_true rfl))) (cC (q.get 26 rfl (P 26 (Nat.le_of_ble_eq_true rfl))) (cC (q.get 27 rfl (P 27 (Nat.le_of_ble_eq_true rfl))) (cC (q.get 28 rfl (P 28 (Nat.le_of_ble_eq_true rfl))) (cC (q.get 29 rfl (P 29 (Nat.le_of_ble_eq_true rfl))) (cC (q.get 45 rfl (P 45 (Nat.le_of_ble_eq_true rfl))) cN))))))))))))))))))))))))
 refine have bX:=Hp.pick 2 [1] A z;?_
 cases H
 exact je ⟨z, z, z, z, z, tv⟩ (Hp.low M bX)
 refine nK aI H fun H=>dC (0 < l) (fun aH=>?_) fun aH=>?_
 refine yK aH H fun H=>iK H fun⟨bu, bv⟩H=>?_
 obtain ⟨bc, cB, bZ, b0, cD, b1⟩ := Dat.get bk aa (aj (l - 1)) bu bv
 obtain ⟨rfl⟩ := aF b0
 refine aM [0, 1, 3, 7, 15, 31, 63, 127, 255, 511, 1023, 2047, 4095, 2047, 10239, 32767, 65535, 131071, 262143, 524287, 1048575, 2097151, 4194303, 8388607, 16777215, 33554431, 67108863, 134217727, 268435455, 536870911, 1073741823, 2147483647, 4294967295, 8589934591, 17179869183, 34359738367, 68719476735, 34359738367, 34359738367, 309237645311, 996432412671, 2095944040447, 4294967295999, 8796093022207, 17592186044415, 35184372088831] (fun D r w => (D 15 = false ∧ ∃ (G' : Gh), G ≤ G' ∧ ag [(0, slice A2 a1.length c3), (5, int .i64 l), (6, pointer (some ⟨ad, 0, none⟩)), (17, slice A2 a1.length c3), (18, int .i64 (a1.length : Int)), (19, int .i64 l)] [] [(0, 24, pointer (some ⟨ad, 0, none⟩)), (1, 25, int .i64 ((a1.getD (Int.toNat l) aa).Node)), (2, 26, bool ax), (3, 27, bool (!ax)), (4, 28, bool (!ax)), (5, 29, pointer (some ⟨ad, 1, none⟩)), (6, 30, int .i64 ((a1.getD (Int.toNat l) aa).Table)), (7, 31, bool ar), (8, 32, bool (!ar)), (9, 33, bool (!ar)), (10, 34, bool (!ar)), (11, 35, pointer (some ⟨ad, 2, none⟩)), (12, 36, int .i64 ((a1.getD (Int.toNat l) aa).X)), (13, 37, pointer (some ⟨ad, 3, none⟩)), (14, 38, int .i64 ((a1.getD (Int.toNat l) aa).Y))] D r ∧ Hp G' (bx ad [int .i64 ((a1.getD (Int.toNat l) aa).Node), int .i64 ((a1.getD (Int.toNat l) aa).Table), int .i64 ((a1.getD (Int.toNat l) aa).X), int .i64 ((a1.getD (Int.toNat l) aa).Y), int .i64 ((a1.getD (Int.toNat l) aa).H), string ((a1.getD (Int.toNat l) aa).Text), bool ((a1.getD (Int.toNat l) aa).Head), bool ((a1.getD (Int.toNat l) aa).Note)] 36 :: L) w) ∨ (D 15 = true ∧ ∃ (g : Nat) (G' : Gh), G ≤ G' ∧ Dat (Kd.int .i64) G' (some ⟨g, 0, none⟩) ([(a1.getD (Int.toNat l) aa).X, (a1.getD (Int.toNat l) aa).Y] : List Int) ∧ ag [(0, slice A2 a1.length c3), (5, int .i64 l), (6, pointer (some ⟨ad, 0, none⟩)), (17, slice A2 a1.length c3), (18, int .i64 (a1.length : Int)), (19, int .i64 l)] [] [(0, 24, pointer (some ⟨ad, 0, none⟩)), (1, 25, int .i64 ((a1.getD (Int.toNat l) aa).Node)), (2, 26, bool ax), (3, 27, bool (!ax)), (4, 28, bool (!ax)), (5, 29, pointer (some ⟨ad, 1, none⟩)), (6, 30, int .i64 ((a1.getD (Int.toNat l) aa).Table)), (7, 31, bool ar), (8, 32, bool (!ar)), (9, 33, bool (!ar)), (10, 34, bool (!ar)), (11, 35, pointer (some ⟨ad, 2, none⟩)), (12, 36, int .i64 ((a1.getD (Int.toNat l) aa).X)), (13, 37, pointer (some ⟨ad, 3, none⟩)), (14, 38, int .i64 ((a1.getD (Int.toNat l) aa).Y)), (15, 39, slice (some ⟨g, 0, none⟩) ([(a1.getD (Int.toNat l) aa).X, (a1.getD (Int.toNat l) aa).Y] : List Int).length 2), (16, 40, bool au), (17, 41, bool (!au)), (18, 42, bool (!au)), (19, 43, bool (!au)), (20, 44, pointer (some ⟨ad, 4, none⟩)), (21, 45, int .i64 ((a1.getD (Int.toNat l) aa).H)), (22, 46, bool aB), (23, 47, bool (!aB)), (24, 48, bool (!aB)), (25, 49, bool (!aB)), (26, 50, pointer (some ⟨ad, 5, none⟩)), (27, 51, string ((a1.getD (Int.toNat l) aa).Text)), (28, 52, bool aE), (29, 53, bool (!aE)), (30, 54, bool (!aE)), (31, 55, bool (!aE)), (32, 56, int .i64 l), (33, 57, bool (decide (0 < l))), (34, 58, bool (decide (0 < l))), (35, 59, pointer (some ⟨ad, 3, none⟩)), (36, 60, int .i64 ((a1.getD (Int.toNat l) aa).Y)), (37, 61, slice A2 a1.length c3), (38, 62, int .i64 l), (39, 63, int .i64 (aj (l - 1))), (40, 64, pointer (some (bc.add (Int.toNat (aj (l - 1)) * 8)))), (41, 65, pointer (some ((bc.add (Int.toNat (aj (l - 1)) * 8)).add 3))), (42, 66, int .i64 ((a1.getD (Int.toNat (aj (l - 1))) aa).Y)), (43, 67, bool (decide (((a1.getD (Int.toNat l) aa).Y) < ((a1.getD (Int.toNat (aj (l - 1))) aa).Y)))), (44, 68, bool (decide (((a1.getD (Int.toNat l) aa).Y) < ((a1.getD (Int.toNat (aj (l - 1))) aa).Y)))), (45, 69, bool (decide (((a1.getD (Int.toNat l) aa).Y) < ((a1.getD (Int.toNat (aj (l - 1))) aa).Y))))] D r ∧ Hp G' (tk (slice (some ⟨g, 0, none⟩) ([(a1.getD (Int.toNat l) aa).X, (a1.getD (Int.toNat l) aa).Y] : List Int).length 2) 1 3 :: bx ad [int .i64 ((a1.getD (Int.toNat l) aa).Node), int .i64 ((a1.getD (Int.toNat l) aa).Table), int .i64 ((a1.getD (Int.toNat l) aa).X), int .i64 ((a1.getD (Int.toNat l) aa).Y), int .i64 ((a1.getD (Int.toNat l) aa).H), string ((a1.getD (Int.toNat l) aa).Text), bool ((a1.getD (Int.toNat l) aa).Head), bool ((a1.getD (Int.toNat l) aa).Note)] 36 :: L) w)) dJ z z ?_ ?_ ?_
 exact (.inl ⟨z, _, Gh.le_refl _, ag.start ⟨z, z, z, z, z, z, tv⟩ trivial, aU.drew⟩)
 refine ⟨?_, ?_, ?_, ?_, ?_, ?_, ?_, ?_, ?_, ?_, ?_, ?_, ?_, ?_, ?_, ?_, ?_, ?_, ?_, ?_, ?_, ?_, ?_, ?_, ?_, ?_, ?_, ?_, ?_, ?_, ?_, ?_, ?_, ?_, ?_, ?_, ?_, ?_, ?_, ?_, ?_, ?_, ?_, ?_, ?_, ?_, tv⟩
 rintro D r ap (⟨d, ab, F, m, y⟩ | ⟨f, g, ab, F, i, m, y⟩) b a c
 obtain ⟨k, rfl⟩ := Has.ex (cC (m.ins.get 2 rfl) cN)
 exact fa iC z<|nl ⟨z, (.inl ⟨d, _, F, (ag.step m b z z z z), y⟩)⟩
 cases (c 15 rfl).symm.trans f
 rintro D r ap (⟨d, ab, F, m, y⟩ | ⟨f, g, ab, F, i, m, y⟩) b a c
 obtain ⟨k, rfl⟩ := Has.ex (cC (m.get 0 rfl (a 0 rfl)) cN)
 exact ld y 0 bb z z z<|nl ⟨z, (.inl ⟨d, _, F, (ag.step m b z z z z), y⟩)⟩
 cases (c 15 rfl).symm.trans f
 rintro D r ap (⟨d, ab, F, m, y⟩ | ⟨f, g, ab, F, i, m, y⟩) b a c
 obtain ⟨k, rfl⟩ := Has.ex (cC (m.get 1 rfl (a 1 rfl)) cN)
 exact cv gM (aD aV y) z z fun aX aJ=>nl ⟨z, (.inl ⟨d, _, F, (ag.step m b z z z z), aJ⟩)⟩
 cases (c 15 rfl).symm.trans f
 rintro D r ap (⟨d, ab, F, m, y⟩ | ⟨f, g, ab, F, i, m, y⟩) b a c
 obtain ⟨k, rfl⟩ := Has.ex (cC (m.get 2 rfl (a 2 rfl)) cN)
 exact bV z<|nl ⟨z, (.inl ⟨d, _, F, (ag.step m b z z z z), y⟩)⟩
 cases (c 15 rfl).symm.trans f
 rintro D r ap (⟨d, ab, F, m, y⟩ | ⟨f, g, ab, F, i, m, y⟩) b a c
 obtain ⟨k, rfl⟩ := Has.ex (cC (m.get 3 rfl (a 3 rfl)) cN)
 exact mv z<|nl ⟨z, (.inl ⟨d, _, F, (ag.step m b z z z z), y⟩)⟩
 cases (c 15 rfl).symm.trans f
 rintro D r ap (⟨d, ab, F, m, y⟩ | ⟨f, g, ab, F, i, m, y⟩) b a c
 obtain ⟨k, rfl⟩ := Has.ex (cC (m.ins.get 2 rfl) (cC (m.get 4 rfl (a 4 rfl)) cN))
 exact fa (hw:=gY z z z (vN av)) hX z<|nl ⟨z, (.inl ⟨d, _, F, (ag.step m b z z z z), y⟩)⟩
 cases (c 15 rfl).symm.trans f
 rintro D r ap (⟨d, ab, F, m, y⟩ | ⟨f, g, ab, F, i, m, y⟩) b a c
 obtain ⟨k, rfl⟩ := Has.ex (cC (m.get 4 rfl (a 4 rfl)) (cC (m.get 5 rfl (a 5 rfl)) cN))
 exact ld (hw:=gY z z z (vN av)) y 0 bb z z z<|nl ⟨z, (.inl ⟨d, _, F, (ag.step m b z z z z), y⟩)⟩
 cases (c 15 rfl).symm.trans f
 rintro D r ap (⟨d, ab, F, m, y⟩ | ⟨f, g, ab, F, i, m, y⟩) b a c
 obtain ⟨k, rfl⟩ := Has.ex (cC (m.get 4 rfl (a 4 rfl)) (cC (m.get 6 rfl (a 6 rfl)) cN))
 exact cv (hw:=gY z z z (vN av)) gM (aD aY y) z z fun a2 aN=>nl ⟨z, (.inl ⟨d, _, F, (ag.step m b z z z z), aN⟩)⟩
 cases (c 15 rfl).symm.trans f
 rintro D r ap (⟨d, ab, F, m, y⟩ | ⟨f, g, ab, F, i, m, y⟩) b a c
 obtain ⟨k, rfl⟩ := Has.ex (cC (m.get 4 rfl (a 4 rfl)) (cC (m.get 7 rfl (a 7 rfl)) cN))
 exact bV (hw:=gY z z z (vN av)) z<|nl ⟨z, (.inl ⟨d, _, F, (ag.step m b z z z z), y⟩)⟩
 cases (c 15 rfl).symm.trans f
 rintro D r ap (⟨d, ab, F, m, y⟩ | ⟨f, g, ab, F, i, m, y⟩) b a c
 obtain ⟨k, rfl⟩ := Has.ex (cC (m.get 4 rfl (a 4 rfl)) (cC (m.get 8 rfl (a 8 rfl)) cN))
 exact dm (vN av) z<|nl ⟨z, (.inl ⟨d, _, F, (ag.step m b z z z z), y⟩)⟩
 cases (c 15 rfl).symm.trans f
 rintro D r ap (⟨d, ab, F, m, y⟩ | ⟨f, g, ab, F, i, m, y⟩) b a c
 obtain ⟨k, rfl⟩ := Has.ex (cC (m.get 9 rfl (a 9 rfl)) cN)
 exact mv z<|nl ⟨z, (.inl ⟨d, _, F, (ag.step m b z z z z), y⟩)⟩
 cases (c 15 rfl).symm.trans f
 rintro D r ap (⟨d, ab, F, m, y⟩ | ⟨f, g, ab, F, i, m, y⟩) b a c
 obtain ⟨k, rfl⟩ := Has.ex (cC (m.ins.get 2 rfl) (cC (m.get 10 rfl (a 10 rfl)) cN))
 exact fa (hw:=gY z z z (vN ae)) hY z<|nl ⟨z, (.inl ⟨d, _, F, (ag.step m b z z z z), y⟩)⟩
 cases (c 15 rfl).symm.trans f
 rintro D r ap (⟨d, ab, F, m, y⟩ | ⟨f, g, ab, F, i, m, y⟩) b a c
 obtain ⟨k, rfl⟩ := Has.ex (cC (m.get 10 rfl (a 10 rfl)) (cC (m.get 11 rfl (a 11 rfl)) cN))
 exact ld (hw:=gY z z z (vN ae)) y 0 bb z z z<|nl ⟨z, (.inl ⟨d, _, F, (ag.step m b z z z z), y⟩)⟩
 cases (c 15 rfl).symm.trans f
 rintro D r ap (⟨d, ab, F, m, y⟩ | ⟨f, g, ab, F, i, m, y⟩) b a c
 obtain ⟨k, rfl⟩ := Has.ex (cC (m.ins.get 2 rfl) (cC (m.get 10 rfl (a 10 rfl)) cN))
 exact fa (hw:=gY z z z (vN ae)) bn z<|nl ⟨z, (.inl ⟨d, _, F, (ag.step m b z z z z), y⟩)⟩
 cases (c 15 rfl).symm.trans f
 rintro D r ap (⟨d, ab, F, m, y⟩ | ⟨f, g, ab, F, i, m, y⟩) b a c
 obtain ⟨k, rfl⟩ := Has.ex (cC (m.get 10 rfl (a 10 rfl)) (cC (m.get 13 rfl (a 13 rfl)) cN))
 exact ld (hw:=gY z z z (vN ae)) y 0 bb z z z<|nl ⟨z, (.inl ⟨d, _, F, (ag.step m b z z z z), y⟩)⟩
 cases (c 15 rfl).symm.trans f
 rintro D r ap (⟨d, ab, F, m, y⟩ | ⟨f, g, ab, F, i, m, y⟩) b a c
 obtain ⟨k, rfl⟩ := Has.ex (cC (m.get 10 rfl (a 10 rfl)) (cC (m.get 12 rfl (a 12 rfl)) (cC (m.get 14 rfl (a 14 rfl)) cN)))
 refine eh y (vs := [(0, int .i64 ((a1.getD (Int.toNat l) aa).X)), (1, int .i64 ((a1.getD (Int.toNat l) aa).Y))]) (cs := [int .i64 ((a1.getD (Int.toNat l) aa).X), int .i64 ((a1.getD (Int.toNat l) aa).Y)]) j5 pK rfl (by decide) rfl (by kernel_rfl) (fun g a7 aO => ?_) (hw := gY rfl rfl rfl (fF ae))
 obtain ⟨a8, aQ, aR, i⟩ := Hp.publish (xs := ([(a1.getD (Int.toNat l) aa).X, (a1.getD (Int.toNat l) aa).Y] : List Int)) (n := 2) (Kd.int .i64) aO ⟨[int .i64 ((a1.getD (Int.toNat l) aa).X)], _, rfl, rfl, ⟨[int .i64 ((a1.getD (Int.toNat l) aa).Y)], _, rfl, rfl, rfl⟩⟩ rfl
 exact nl ⟨z, (.inr ⟨z, g, _, (gT F aQ), i, (ag.step (ag.more (new := [(15, 39, slice (some ⟨g, 0, none⟩) ([(a1.getD (Int.toNat l) aa).X, (a1.getD (Int.toNat l) aa).Y] : List Int).length 2), (16, 40, bool au), (17, 41, bool (!au)), (18, 42, bool (!au)), (19, 43, bool (!au)), (20, 44, pointer (some ⟨ad, 4, none⟩)), (21, 45, int .i64 ((a1.getD (Int.toNat l) aa).H)), (22, 46, bool aB), (23, 47, bool (!aB)), (24, 48, bool (!aB)), (25, 49, bool (!aB)), (26, 50, pointer (some ⟨ad, 5, none⟩)), (27, 51, string ((a1.getD (Int.toNat l) aa).Text)), (28, 52, bool aE), (29, 53, bool (!aE)), (30, 54, bool (!aE)), (31, 55, bool (!aE)), (32, 56, int .i64 l), (33, 57, bool (decide (0 < l))), (34, 58, bool (decide (0 < l))), (35, 59, pointer (some ⟨ad, 3, none⟩)), (36, 60, int .i64 ((a1.getD (Int.toNat l) aa).Y)), (37, 61, slice A2 a1.length c3), (38, 62, int .i64 l), (39, 63, int .i64 (aj (l - 1))), (40, 64, pointer (some (bc.add (Int.toNat (aj (l - 1)) * 8)))), (41, 65, pointer (some ((bc.add (Int.toNat (aj (l - 1)) * 8)).add 3))), (42, 66, int .i64 ((a1.getD (Int.toNat (aj (l - 1))) aa).Y)), (43, 67, bool (decide (((a1.getD (Int.toNat l) aa).Y) < ((a1.getD (Int.toNat (aj (l - 1))) aa).Y)))), (44, 68, bool (decide (((a1.getD (Int.toNat l) aa).Y) < ((a1.getD (Int.toNat (aj (l - 1))) aa).Y)))), (45, 69, bool (decide (((a1.getD (Int.toNat l) aa).Y) < ((a1.getD (Int.toNat (aj (l - 1))) aa).Y))))]) m (List.forall_mem_cons.2 ⟨b, (List.forall_mem_cons.2 ⟨c 16 z, (List.forall_mem_cons.2 ⟨c 17 z, (List.forall_mem_cons.2 ⟨c 18 z, (List.forall_mem_cons.2 ⟨c 19 z, (List.forall_mem_cons.2 ⟨c 20 z, (List.forall_mem_cons.2 ⟨c 21 z, (List.forall_mem_cons.2 ⟨c 22 z, (List.forall_mem_cons.2 ⟨c 23 z, (List.forall_mem_cons.2 ⟨c 24 z, (List.forall_mem_cons.2 ⟨c 25 z, (List.forall_mem_cons.2 ⟨c 26 z, (List.forall_mem_cons.2 ⟨c 27 z, (List.forall_mem_cons.2 ⟨c 28 z, (List.forall_mem_cons.2 ⟨c 29 z, (List.forall_mem_cons.2 ⟨c 30 z, (List.forall_mem_cons.2 ⟨c 31 z, (List.forall_mem_cons.2 ⟨c 32 z, (List.forall_mem_cons.2 ⟨c 33 z, (List.forall_mem_cons.2 ⟨c 34 z, (List.forall_mem_cons.2 ⟨c 35 z, (List.forall_mem_cons.2 ⟨c 36 z, (List.forall_mem_cons.2 ⟨c 37 z, (List.forall_mem_cons.2 ⟨c 38 z, (List.forall_mem_cons.2 ⟨c 39 z, (List.forall_mem_cons.2 ⟨c 40 z, (List.forall_mem_cons.2 ⟨c 41 z, (List.forall_mem_cons.2 ⟨c 42 z, (List.forall_mem_cons.2 ⟨c 43 z, (List.forall_mem_cons.2 ⟨c 44 z, (List.forall_mem_cons.2 ⟨c 45 z, (fun _ h => nomatch h)⟩)⟩)⟩)⟩)⟩)⟩)⟩)⟩)⟩)⟩)⟩)⟩)⟩)⟩)⟩)⟩)⟩)⟩)⟩)⟩)⟩)⟩)⟩)⟩)⟩)⟩)⟩)⟩)⟩)⟩)⟩)) b z z z z), aR⟩)⟩
 cases b.symm.trans f
 rintro D r ap (⟨d, ab, F, m, y⟩ | ⟨f, g, ab, F, i, m, y⟩) b a c
 cases (a 15 rfl).symm.trans d
 obtain ⟨k, rfl⟩ := Has.ex (cC (m.get 10 rfl (a 10 rfl)) (cC (m.get 15 rfl (a 15 rfl)) cN))
 exact cv (hw:=gY z z z (vN ae)) oS (cW (a1 := ([(a1.getD (Int.toNat l) aa).X, (a1.getD (Int.toNat l) aa).Y] : List Int)) a3 y (show ([(a1.getD (Int.toNat l) aa).X, (a1.getD (Int.toNat l) aa).Y] : List Int).length ≤ 2 from Nat.le_of_ble_eq_true z) i) z z fun a9 aS=>nl ⟨z, (.inr ⟨f, g, _, F, i, (ag.step m b z z z z), aS⟩)⟩
 rintro D r ap (⟨d, ab, F, m, y⟩ | ⟨f, g, ab, F, i, m, y⟩) b a c
 cases (a 15 rfl).symm.trans d
 obtain ⟨k, rfl⟩ := Has.ex (cC (m.get 10 rfl (a 10 rfl)) (cC (m.get 16 rfl (a 16 rfl)) cN))
 exact bV (hw:=gY z z z (vN ae)) z<|nl ⟨z, (.inr ⟨f, g, _, F, i, (ag.step m b z z z z), y⟩)⟩
 rintro D r ap (⟨d, ab, F, m, y⟩ | ⟨f, g, ab, F, i, m, y⟩) b a c
 cases (a 15 rfl).symm.trans d
 obtain ⟨k, rfl⟩ := Has.ex (cC (m.get 10 rfl (a 10 rfl)) (cC (m.get 17 rfl (a 17 rfl)) cN))
 exact dm (vN ae) z<|nl ⟨z, (.inr ⟨f, g, _, F, i, (ag.step m b z z z z), y⟩)⟩
 rintro D r ap (⟨d, ab, F, m, y⟩ | ⟨f, g, ab, F, i, m, y⟩) b a c
 cases (a 15 rfl).symm.trans d
 obtain ⟨k, rfl⟩ := Has.ex (cC (m.get 18 rfl (a 18 rfl)) cN)
 exact mv z<|nl ⟨z, (.inr ⟨f, g, _, F, i, (ag.step m b z z z z), y⟩)⟩
 rintro D r ap (⟨d, ab, F, m, y⟩ | ⟨f, g, ab, F, i, m, y⟩) b a c
 cases (a 15 rfl).symm.trans d
 obtain ⟨k, rfl⟩ := Has.ex (cC (m.ins.get 2 rfl) (cC (m.get 19 rfl (a 19 rfl)) cN))
 exact fa (hw:=gY z z z (vN aC)) cm z<|nl ⟨z, (.inr ⟨f, g, _, F, i, (ag.step m b z z z z), y⟩)⟩
 rintro D r ap (⟨d, ab, F, m, y⟩ | ⟨f, g, ab, F, i, m, y⟩) b a c
 cases (a 15 rfl).symm.trans d
 obtain ⟨k, rfl⟩ := Has.ex (cC (m.get 19 rfl (a 19 rfl)) (cC (m.get 20 rfl (a 20 rfl)) cN))
 exact ld (hw:=gY z z z (vN aC)) y 1 bb z z z<|nl ⟨z, (.inr ⟨f, g, _, F, i, (ag.step m b z z z z), y⟩)⟩
 rintro D r ap (⟨d, ab, F, m, y⟩ | ⟨f, g, ab, F, i, m, y⟩) b a c
 cases (a 15 rfl).symm.trans d
 obtain ⟨k, rfl⟩ := Has.ex (cC (m.get 19 rfl (a 19 rfl)) (cC (m.get 21 rfl (a 21 rfl)) cN))
 exact cv (hw:=gY z z z (vN aC)) gM (aD ba y) z z fun bf aW=>nl ⟨z, (.inr ⟨f, g, _, F, i, (ag.step m b z z z z), aW⟩)⟩
 rintro D r ap (⟨d, ab, F, m, y⟩ | ⟨f, g, ab, F, i, m, y⟩) b a c
 cases (a 15 rfl).symm.trans d
 obtain ⟨k, rfl⟩ := Has.ex (cC (m.get 19 rfl (a 19 rfl)) (cC (m.get 22 rfl (a 22 rfl)) cN))
 exact bV (hw:=gY z z z (vN aC)) z<|nl ⟨z, (.inr ⟨f, g, _, F, i, (ag.step m b z z z z), y⟩)⟩
 rintro D r ap (⟨d, ab, F, m, y⟩ | ⟨f, g, ab, F, i, m, y⟩) b a c
 cases (a 15 rfl).symm.trans d
 obtain ⟨k, rfl⟩ := Has.ex (cC (m.get 19 rfl (a 19 rfl)) (cC (m.get 23 rfl (a 23 rfl)) cN))
 exact dm (vN aC) z<|nl ⟨z, (.inr ⟨f, g, _, F, i, (ag.step m b z z z z), y⟩)⟩
 rintro D r ap (⟨d, ab, F, m, y⟩ | ⟨f, g, ab, F, i, m, y⟩) b a c
 cases (a 15 rfl).symm.trans d
 obtain ⟨k, rfl⟩ := Has.ex (cC (m.get 24 rfl (a 24 rfl)) cN)
 exact mv z<|nl ⟨z, (.inr ⟨f, g, _, F, i, (ag.step m b z z z z), y⟩)⟩
 rintro D r ap (⟨d, ab, F, m, y⟩ | ⟨f, g, ab, F, i, m, y⟩) b a c
 cases (a 15 rfl).symm.trans d
 obtain ⟨k, rfl⟩ := Has.ex (cC (m.ins.get 2 rfl) (cC (m.get 25 rfl (a 25 rfl)) cN))
 exact fa (hw:=gY z z z (vN aG)) kY z<|nl ⟨z, (.inr ⟨f, g, _, F, i, (ag.step m b z z z z), y⟩)⟩
 rintro D r ap (⟨d, ab, F, m, y⟩ | ⟨f, g, ab, F, i, m, y⟩) b a c
 cases (a 15 rfl).symm.trans d
 obtain ⟨k, rfl⟩ := Has.ex (cC (m.get 25 rfl (a 25 rfl)) (cC (m.get 26 rfl (a 26 rfl)) cN))
 exact ld (hw:=gY z z z (vN aG)) y 1 rb z z z<|nl ⟨z, (.inr ⟨f, g, _, F, i, (ag.step m b z z z z), y⟩)⟩
 rintro D r ap (⟨d, ab, F, m, y⟩ | ⟨f, g, ab, F, i, m, y⟩) b a c
 cases (a 15 rfl).symm.trans d
 obtain ⟨k, rfl⟩ := Has.ex (cC (m.get 25 rfl (a 25 rfl)) (cC (m.get 27 rfl (a 27 rfl)) cN))
 exact cv (hw:=gY z z z (vN aG)) qc (gj bg y) z z fun bt a4=>nl ⟨z, (.inr ⟨f, g, _, F, i, (ag.step m b z z z z), a4⟩)⟩
 rintro D r ap (⟨d, ab, F, m, y⟩ | ⟨f, g, ab, F, i, m, y⟩) b a c
 cases (a 15 rfl).symm.trans d
 obtain ⟨k, rfl⟩ := Has.ex (cC (m.get 25 rfl (a 25 rfl)) (cC (m.get 28 rfl (a 28 rfl)) cN))
 exact bV (hw:=gY z z z (vN aG)) z<|nl ⟨z, (.inr ⟨f, g, _, F, i, (ag.step m b z z z z), y⟩)⟩
 rintro D r ap (⟨d, ab, F, m, y⟩ | ⟨f, g, ab, F, i, m, y⟩) b a c
 cases (a 15 rfl).symm.trans d
 obtain ⟨k, rfl⟩ := Has.ex (cC (m.get 25 rfl (a 25 rfl)) (cC (m.get 29 rfl (a 29 rfl)) cN))
 exact dm (vN aG) z<|nl ⟨z, (.inr ⟨f, g, _, F, i, (ag.step m b z z z z), y⟩)⟩
 rintro D r ap (⟨d, ab, F, m, y⟩ | ⟨f, g, ab, F, i, m, y⟩) b a c
 cases (a 15 rfl).symm.trans d
 obtain ⟨k, rfl⟩ := Has.ex (cC (m.get 30 rfl (a 30 rfl)) cN)
 exact mv z<|nl ⟨z, (.inr ⟨f, g, _, F, i, (ag.step m b z z z z), y⟩)⟩
 rintro D r ap (⟨d, ab, F, m, y⟩ | ⟨f, g, ab, F, i, m, y⟩) b a c
 cases (a 15 rfl).symm.trans d
 obtain ⟨k, rfl⟩ := Has.ex (cC (m.ins.get 1 rfl) (cC (m.get 31 rfl (a 31 rfl)) cN))
 exact mv (hw:=gY z z z (vN aI)) z<|nl ⟨z, (.inr ⟨f, g, _, F, i, (ag.step m b z z z z), y⟩)⟩
 rintro D r ap (⟨d, ab, F, m, y⟩ | ⟨f, g, ab, F, i, m, y⟩) b a c
 cases (a 15 rfl).symm.trans d
 obtain ⟨k, rfl⟩ := Has.ex (cC (m.get 31 rfl (a 31 rfl)) (cC (m.get 32 rfl (a 32 rfl)) cN))
 exact gq (hw:=gY z z z (vN aI)) z z<|nl ⟨z, (.inr ⟨f, g, _, F, i, (ag.step m b z z z z), y⟩)⟩
 rintro D r ap (⟨d, ab, F, m, y⟩ | ⟨f, g, ab, F, i, m, y⟩) b a c
 cases (a 15 rfl).symm.trans d
 obtain ⟨k, rfl⟩ := Has.ex (cC (m.get 31 rfl (a 31 rfl)) (cC (m.get 33 rfl (a 33 rfl)) cN))
 exact mv (hw:=gY z z z (vN aI)) z<|nl ⟨z, (.inr ⟨f, g, _, F, i, (ag.step m b z z z z), y⟩)⟩
 rintro D r ap (⟨d, ab, F, m, y⟩ | ⟨f, g, ab, F, i, m, y⟩) b a c
 cases (a 15 rfl).symm.trans d
 obtain ⟨k, rfl⟩ := Has.ex (cC (m.ins.get 2 rfl) (cC (m.get 34 rfl (a 34 rfl)) cN))
 exact fa (hw:=gY z z z (bY aH)) bn z<|nl ⟨z, (.inr ⟨f, g, _, F, i, (ag.step m b z z z z), y⟩)⟩
 rintro D r ap (⟨d, ab, F, m, y⟩ | ⟨f, g, ab, F, i, m, y⟩) b a c
 cases (a 15 rfl).symm.trans d
 obtain ⟨k, rfl⟩ := Has.ex (cC (m.get 34 rfl (a 34 rfl)) (cC (m.get 35 rfl (a 35 rfl)) cN))
 exact ld (hw:=gY z z z (bY aH)) y 1 bb z z z<|nl ⟨z, (.inr ⟨f, g, _, F, i, (ag.step m b z z z z), y⟩)⟩
 rintro D r ap (⟨d, ab, F, m, y⟩ | ⟨f, g, ab, F, i, m, y⟩) b a c
 cases (a 15 rfl).symm.trans d
 obtain ⟨k, rfl⟩ := Has.ex (cC (m.ins.get 0 rfl) (cC (m.get 34 rfl (a 34 rfl)) cN))
 exact mv (hw:=gY z z z (bY aH)) z<|nl ⟨z, (.inr ⟨f, g, _, F, i, (ag.step m b z z z z), y⟩)⟩
 rintro D r ap (⟨d, ab, F, m, y⟩ | ⟨f, g, ab, F, i, m, y⟩) b a c
 cases (a 15 rfl).symm.trans d
 obtain ⟨k, rfl⟩ := Has.ex (cC (m.ins.get 1 rfl) (cC (m.get 34 rfl (a 34 rfl)) cN))
 exact mv (hw:=gY z z z (bY aH)) z<|nl ⟨z, (.inr ⟨f, g, _, F, i, (ag.step m b z z z z), y⟩)⟩
 rintro D r ap (⟨d, ab, F, m, y⟩ | ⟨f, g, ab, F, i, m, y⟩) b a c
 cases (a 15 rfl).symm.trans d
 obtain ⟨k, rfl⟩ := Has.ex (cC (m.get 34 rfl (a 34 rfl)) (cC (m.get 38 rfl (a 38 rfl)) cN))
 exact b6 (hw:=gY z z z (bY aH)) z z<|nl ⟨z, (.inr ⟨f, g, _, F, i, (ag.step m b z z z z), y⟩)⟩
 rintro D r ap (⟨d, ab, F, m, y⟩ | ⟨f, g, ab, F, i, m, y⟩) b a c
 cases (a 15 rfl).symm.trans d
 obtain ⟨k, rfl⟩ := Has.ex (cC (m.get 34 rfl (a 34 rfl)) (cC (m.get 37 rfl (a 37 rfl)) (cC (m.get 39 rfl (a 39 rfl)) cN)))
 exact bL (hw:=gY z z z (bY aH)) cA z bZ z bu bv<|nl ⟨z, (.inr ⟨f, g, _, F, i, (ag.step m b z z z z), y⟩)⟩
 rintro D r ap (⟨d, ab, F, m, y⟩ | ⟨f, g, ab, F, i, m, y⟩) b a c
 cases (a 15 rfl).symm.trans d
 obtain ⟨k, rfl⟩ := Has.ex (cC (m.get 34 rfl (a 34 rfl)) (cC (m.get 40 rfl (a 40 rfl)) cN))
 exact eS (hw:=gY z z z (bY aH)) bn z z<|nl ⟨z, (.inr ⟨f, g, _, F, i, (ag.step m b z z z z), y⟩)⟩
 rintro D r ap (⟨d, ab, F, m, y⟩ | ⟨f, g, ab, F, i, m, y⟩) b a c
 cases (a 15 rfl).symm.trans d
 obtain ⟨k, rfl⟩ := Has.ex (cC (m.get 34 rfl (a 34 rfl)) (cC (m.get 41 rfl (a 41 rfl)) cN))
 exact et (hw:=gY z z z (bY aH)) y bb z (F.cel _ _ (b1 3 _ z))<|nl ⟨z, (.inr ⟨f, g, _, F, i, (ag.step m b z z z z), y⟩)⟩
 rintro D r ap (⟨d, ab, F, m, y⟩ | ⟨f, g, ab, F, i, m, y⟩) b a c
 cases (a 15 rfl).symm.trans d
 obtain ⟨k, rfl⟩ := Has.ex (cC (m.get 34 rfl (a 34 rfl)) (cC (m.get 36 rfl (a 36 rfl)) (cC (m.get 42 rfl (a 42 rfl)) cN)))
 exact cZ (hw:=gY z z z (bY aH)) z z<|nl ⟨z, (.inr ⟨f, g, _, F, i, (ag.step m b z z z z), y⟩)⟩
 rintro D r ap (⟨d, ab, F, m, y⟩ | ⟨f, g, ab, F, i, m, y⟩) b a c
 cases (a 15 rfl).symm.trans d
 obtain ⟨k, rfl⟩ := Has.ex (cC (m.get 31 rfl (a 31 rfl)) (cC (m.get 34 rfl (a 34 rfl)) (cC (m.get 43 rfl (a 43 rfl)) cN)))
 exact cY (hw:=gY z z z (vN aI)) (bY aH) z<|nl ⟨z, (.inr ⟨f, g, _, F, i, (ag.step m b z z z z), y⟩)⟩
 rintro D r ap (⟨d, ab, F, m, y⟩ | ⟨f, g, ab, F, i, m, y⟩) b a c
 cases (a 15 rfl).symm.trans d
 obtain ⟨k, rfl⟩ := Has.ex (cC (m.get 31 rfl (a 31 rfl)) (cC (m.get 44 rfl (a 44 rfl)) cN))
 exact dm (vN aI) z<|nl ⟨z, (.inr ⟨f, g, _, F, i, (ag.step m b z z z z), y⟩)⟩
 intro D r ap P hR
 rcases hR with ⟨d, ab, F, m, y⟩ | ⟨f, g, ab, F, i, m, y⟩
 cases (P 15 (Nat.le_of_ble_eq_true rfl)).symm.trans d
 obtain ⟨k, rfl⟩ := Has.ex (cC (m.ins.get 0 rfl) (cC (m.ins.get 3 rfl) (cC (m.ins.get 4 rfl) (cC (m.ins.get 5 rfl) (cC (m.get 5 rfl (P 5 (Nat.le_of_ble_eq_true rfl))) (cC (m.get 6 rfl (P 6 (Nat.le_of_ble_eq_true rfl))) (cC (m.get 7 rfl (P 7 (Nat.le_of_ble_eq_true rfl))) (cC (m.get 8 rfl (P 8 (Nat.le_of_ble_eq_true rfl))) (cC (m.get 11 rfl (P 11 (Nat.le_of_ble_eq_true rfl))) (cC (m.get 12 rfl (P 12 (Nat.le_of_ble_eq_true rfl))) (cC (m.get 13 rfl (P 13 (Nat.le_of_ble_eq_true rfl))) (cC (m.get 14 rfl (P 14 (Nat.le_of_ble_eq_true rfl))) (cC (m.get 15 rfl (P 15 (Nat.le_of_ble_eq_true rfl))) (cC (m.get 16 rfl (P 16 (Nat.le_of_ble_eq_true rfl))) (cC (m.get 17 rfl (P 17 (Nat.le_of_ble_eq_true rfl))) (cC (m.get 20 rfl (P 20 (Nat.le_of_ble_eq_true rfl))) (cC (m.get 21 rfl (P 21 (Nat.le_of_ble_eq_true rfl))) (cC (m.get 22 rfl (P 22 (Nat.le_of_ble_eq_true rfl))) (cC (m.get 23 rfl (P 23 (Nat.le_of_ble_eq_true rfl))) (cC (m.get 26 rfl (P 26 (Nat.le_of_ble_eq_true rfl))) (cC (m.get 27 rfl (P 27 (Nat.le_of_ble_eq_true rfl))) (cC (m.get 28 rfl (P 28 (Nat.le_of_ble_eq_true rfl))) (cC (m.get 29 rfl (P 29 (Nat.le_of_ble_eq_true rfl))) (cC (m.get 32 rfl (P 32 (Nat.le_of_ble_eq_true rfl))) (cC (m.get 33 rfl (P 33 (Nat.le_of_ble_eq_true rfl))) (cC (m.get 34 rfl (P 34 (Nat.le_of_ble_eq_true rfl))) (cC (m.get 35 rfl (P 35 (Nat.le_of_ble_eq_true rfl))) (cC (m.get 36 rfl (P 36 (Nat.le_of_ble_eq_true rfl))) (cC (m.get 37 rfl (P 37 (Nat.le_of_ble_eq_true rfl))) (cC (m.get 38 rfl (P 38 (Nat.le_of_ble_eq_true rfl))) (cC (m.get 39 rfl (P 39 (Nat.le_of_ble_eq_true rfl))) (cC (m.get 40 rfl (P 40 (Nat.le_of_ble_eq_true rfl))) (cC (m.get 41 rfl (P 41 (Nat.le_of_ble_eq_true rfl))) (cC (m.get 42 rfl (P 42 (Nat.le_of_ble_eq_true rfl))) (cC (m.get 43 rfl (P 43 (Nat.le_of_ble_eq_true rfl))) (cC (m.get 44 rfl (P 44 (Nat.le_of_ble_eq_true rfl))) (cC (m.get 45 rfl (P 45 (Nat.le_of_ble_eq_true rfl))) cN)))))))))))))))))))))))))))))))))))))
 refine have b2:=Hp.pick 2 [1] y z;?_
 cases H
 exact je ⟨z, z, z, z, z, tv⟩ (Hp.low F b2)
 refine nK aH H fun H=>?_
 refine aM [0, 1, 3, 7, 15, 31, 63, 127, 255, 511, 1023, 2047, 4095, 2047, 10239, 32767, 65535, 131071, 262143, 524287, 1048575, 2097151, 4194303, 8388607, 16777215, 33554431, 67108863, 134217727, 268435455, 536870911, 1073741823, 2147483647, 4294967295, 8589934591, 17179869183, 34359738367, 68719476735, 34359738367, 34359738367, 309237645311, 996432412671, 2095944040447, 4294967295999, 8796093022207, 17592186044415, 35184372088831] (fun D r w => (D 15 = false ∧ ∃ (G' : Gh), G ≤ G' ∧ ag [(0, slice A2 a1.length c3), (5, int .i64 l), (6, pointer (some ⟨ad, 0, none⟩)), (17, slice A2 a1.length c3), (18, int .i64 (a1.length : Int)), (19, int .i64 l)] [] [(0, 24, pointer (some ⟨ad, 0, none⟩)), (1, 25, int .i64 ((a1.getD (Int.toNat l) aa).Node)), (2, 26, bool ax), (3, 27, bool (!ax)), (4, 28, bool (!ax)), (5, 29, pointer (some ⟨ad, 1, none⟩)), (6, 30, int .i64 ((a1.getD (Int.toNat l) aa).Table)), (7, 31, bool ar), (8, 32, bool (!ar)), (9, 33, bool (!ar)), (10, 34, bool (!ar)), (11, 35, pointer (some ⟨ad, 2, none⟩)), (12, 36, int .i64 ((a1.getD (Int.toNat l) aa).X)), (13, 37, pointer (some ⟨ad, 3, none⟩)), (14, 38, int .i64 ((a1.getD (Int.toNat l) aa).Y))] D r ∧ Hp G' (bx ad [int .i64 ((a1.getD (Int.toNat l) aa).Node), int .i64 ((a1.getD (Int.toNat l) aa).Table), int .i64 ((a1.getD (Int.toNat l) aa).X), int .i64 ((a1.getD (Int.toNat l) aa).Y), int .i64 ((a1.getD (Int.toNat l) aa).H), string ((a1.getD (Int.toNat l) aa).Text), bool ((a1.getD (Int.toNat l) aa).Head), bool ((a1.getD (Int.toNat l) aa).Note)] 36 :: L) w) ∨ (D 15 = true ∧ ∃ (g : Nat) (G' : Gh), G ≤ G' ∧ Dat (Kd.int .i64) G' (some ⟨g, 0, none⟩) ([(a1.getD (Int.toNat l) aa).X, (a1.getD (Int.toNat l) aa).Y] : List Int) ∧ ag [(0, slice A2 a1.length c3), (5, int .i64 l), (6, pointer (some ⟨ad, 0, none⟩)), (17, slice A2 a1.length c3), (18, int .i64 (a1.length : Int)), (19, int .i64 l)] [] [(0, 24, pointer (some ⟨ad, 0, none⟩)), (1, 25, int .i64 ((a1.getD (Int.toNat l) aa).Node)), (2, 26, bool ax), (3, 27, bool (!ax)), (4, 28, bool (!ax)), (5, 29, pointer (some ⟨ad, 1, none⟩)), (6, 30, int .i64 ((a1.getD (Int.toNat l) aa).Table)), (7, 31, bool ar), (8, 32, bool (!ar)), (9, 33, bool (!ar)), (10, 34, bool (!ar)), (11, 35, pointer (some ⟨ad, 2, none⟩)), (12, 36, int .i64 ((a1.getD (Int.toNat l) aa).X)), (13, 37, pointer (some ⟨ad, 3, none⟩)), (14, 38, int .i64 ((a1.getD (Int.toNat l) aa).Y)), (15, 39, slice (some ⟨g, 0, none⟩) ([(a1.getD (Int.toNat l) aa).X, (a1.getD (Int.toNat l) aa).Y] : List Int).length 2), (16, 40, bool au), (17, 41, bool (!au)), (18, 42, bool (!au)), (19, 43, bool (!au)), (20, 44, pointer (some ⟨ad, 4, none⟩)), (21, 45, int .i64 ((a1.getD (Int.toNat l) aa).H)), (22, 46, bool aB), (23, 47, bool (!aB)), (24, 48, bool (!aB)), (25, 49, bool (!aB)), (26, 50, pointer (some ⟨ad, 5, none⟩)), (27, 51, string ((a1.getD (Int.toNat l) aa).Text)), (28, 52, bool aE), (29, 53, bool (!aE)), (30, 54, bool (!aE)), (31, 55, bool (!aE)), (32, 56, int .i64 l), (33, 57, bool (decide (0 < l))), (34, 58, bool (decide (0 < l))), (35, 59, undef), (36, 60, undef), (37, 61, undef), (38, 62, undef), (39, 63, undef), (40, 64, undef), (41, 65, undef), (42, 66, undef), (43, 67, undef), (44, 68, bool false), (45, 69, bool false)] D r ∧ Hp G' (tk (slice (some ⟨g, 0, none⟩) ([(a1.getD (Int.toNat l) aa).X, (a1.getD (Int.toNat l) aa).Y] : List Int).length 2) 1 3 :: bx ad [int .i64 ((a1.getD (Int.toNat l) aa).Node), int .i64 ((a1.getD (Int.toNat l) aa).Table), int .i64 ((a1.getD (Int.toNat l) aa).X), int .i64 ((a1.getD (Int.toNat l) aa).Y), int .i64 ((a1.getD (Int.toNat l) aa).H), string ((a1.getD (Int.toNat l) aa).Text), bool ((a1.getD (Int.toNat l) aa).Head), bool ((a1.getD (Int.toNat l) aa).Note)] 36 :: L) w)) dJ z z ?_ ?_ ?_
 exact (.inl ⟨z, _, Gh.le_refl _, ag.start ⟨z, z, z, z, z, z, tv⟩ trivial, aU.drew⟩)
 refine ⟨?_, ?_, ?_, ?_, ?_, ?_, ?_, ?_, ?_, ?_, ?_, ?_, ?_, ?_, ?_, ?_, ?_, ?_, ?_, ?_, ?_, ?_, ?_, ?_, ?_, ?_, ?_, ?_, ?_, ?_, ?_, ?_, ?_, ?_, ?_, ?_, ?_, ?_, ?_, ?_, ?_, ?_, ?_, ?_, ?_, ?_, tv⟩
 rintro D r aq (⟨d, ac, O, p, B⟩ | ⟨f, g, ac, O, i, p, B⟩) b a c
 obtain ⟨k, rfl⟩ := Has.ex (cC (p.ins.get 2 rfl) cN)
 exact fa iC z<|nl ⟨z, (.inl ⟨d, _, O, (ag.step p b z z z z), B⟩)⟩
 cases (c 15 rfl).symm.trans f
 rintro D r aq (⟨d, ac, O, p, B⟩ | ⟨f, g, ac, O, i, p, B⟩) b a c
 obtain ⟨k, rfl⟩ := Has.ex (cC (p.get 0 rfl (a 0 rfl)) cN)
 exact ld B 0 bb z z z<|nl ⟨z, (.inl ⟨d, _, O, (ag.step p b z z z z), B⟩)⟩
 cases (c 15 rfl).symm.trans f
 rintro D r aq (⟨d, ac, O, p, B⟩ | ⟨f, g, ac, O, i, p, B⟩) b a c
 obtain ⟨k, rfl⟩ := Has.ex (cC (p.get 1 rfl (a 1 rfl)) cN)
 exact cv gM (aD aV B) z z fun aX aJ=>nl ⟨z, (.inl ⟨d, _, O, (ag.step p b z z z z), aJ⟩)⟩
 cases (c 15 rfl).symm.trans f
 rintro D r aq (⟨d, ac, O, p, B⟩ | ⟨f, g, ac, O, i, p, B⟩) b a c
 obtain ⟨k, rfl⟩ := Has.ex (cC (p.get 2 rfl (a 2 rfl)) cN)
 exact bV z<|nl ⟨z, (.inl ⟨d, _, O, (ag.step p b z z z z), B⟩)⟩
 cases (c 15 rfl).symm.trans f
 rintro D r aq (⟨d, ac, O, p, B⟩ | ⟨f, g, ac, O, i, p, B⟩) b a c
 obtain ⟨k, rfl⟩ := Has.ex (cC (p.get 3 rfl (a 3 rfl)) cN)
 exact mv z<|nl ⟨z, (.inl ⟨d, _, O, (ag.step p b z z z z), B⟩)⟩
 cases (c 15 rfl).symm.trans f
 rintro D r aq (⟨d, ac, O, p, B⟩ | ⟨f, g, ac, O, i, p, B⟩) b a c
 obtain ⟨k, rfl⟩ := Has.ex (cC (p.ins.get 2 rfl) (cC (p.get 4 rfl (a 4 rfl)) cN))
 exact fa (hw:=gY z z z (vN av)) hX z<|nl ⟨z, (.inl ⟨d, _, O, (ag.step p b z z z z), B⟩)⟩
 cases (c 15 rfl).symm.trans f
 rintro D r aq (⟨d, ac, O, p, B⟩ | ⟨f, g, ac, O, i, p, B⟩) b a c
 obtain ⟨k, rfl⟩ := Has.ex (cC (p.get 4 rfl (a 4 rfl)) (cC (p.get 5 rfl (a 5 rfl)) cN))
 exact ld (hw:=gY z z z (vN av)) B 0 bb z z z<|nl ⟨z, (.inl ⟨d, _, O, (ag.step p b z z z z), B⟩)⟩
 cases (c 15 rfl).symm.trans f
 rintro D r aq (⟨d, ac, O, p, B⟩ | ⟨f, g, ac, O, i, p, B⟩) b a c
 obtain ⟨k, rfl⟩ := Has.ex (cC (p.get 4 rfl (a 4 rfl)) (cC (p.get 6 rfl (a 6 rfl)) cN))
 exact cv (hw:=gY z z z (vN av)) gM (aD aY B) z z fun a2 aN=>nl ⟨z, (.inl ⟨d, _, O, (ag.step p b z z z z), aN⟩)⟩
 cases (c 15 rfl).symm.trans f
 rintro D r aq (⟨d, ac, O, p, B⟩ | ⟨f, g, ac, O, i, p, B⟩) b a c
 obtain ⟨k, rfl⟩ := Has.ex (cC (p.get 4 rfl (a 4 rfl)) (cC (p.get 7 rfl (a 7 rfl)) cN))
 exact bV (hw:=gY z z z (vN av)) z<|nl ⟨z, (.inl ⟨d, _, O, (ag.step p b z z z z), B⟩)⟩
 cases (c 15 rfl).symm.trans f
 rintro D r aq (⟨d, ac, O, p, B⟩ | ⟨f, g, ac, O, i, p, B⟩) b a c
 obtain ⟨k, rfl⟩ := Has.ex (cC (p.get 4 rfl (a 4 rfl)) (cC (p.get 8 rfl (a 8 rfl)) cN))
 exact dm (vN av) z<|nl ⟨z, (.inl ⟨d, _, O, (ag.step p b z z z z), B⟩)⟩
 cases (c 15 rfl).symm.trans f
 rintro D r aq (⟨d, ac, O, p, B⟩ | ⟨f, g, ac, O, i, p, B⟩) b a c
 obtain ⟨k, rfl⟩ := Has.ex (cC (p.get 9 rfl (a 9 rfl)) cN)
 exact mv z<|nl ⟨z, (.inl ⟨d, _, O, (ag.step p b z z z z), B⟩)⟩
 cases (c 15 rfl).symm.trans f
 rintro D r aq (⟨d, ac, O, p, B⟩ | ⟨f, g, ac, O, i, p, B⟩) b a c
 obtain ⟨k, rfl⟩ := Has.ex (cC (p.ins.get 2 rfl) (cC (p.get 10 rfl (a 10 rfl)) cN))
 exact fa (hw:=gY z z z (vN ae)) hY z<|nl ⟨z, (.inl ⟨d, _, O, (ag.step p b z z z z), B⟩)⟩
 cases (c 15 rfl).symm.trans f
 rintro D r aq (⟨d, ac, O, p, B⟩ | ⟨f, g, ac, O, i, p, B⟩) b a c
 obtain ⟨k, rfl⟩ := Has.ex (cC (p.get 10 rfl (a 10 rfl)) (cC (p.get 11 rfl (a 11 rfl)) cN))
 exact ld (hw:=gY z z z (vN ae)) B 0 bb z z z<|nl ⟨z, (.inl ⟨d, _, O, (ag.step p b z z z z), B⟩)⟩
 cases (c 15 rfl).symm.trans f
 rintro D r aq (⟨d, ac, O, p, B⟩ | ⟨f, g, ac, O, i, p, B⟩) b a c
 obtain ⟨k, rfl⟩ := Has.ex (cC (p.ins.get 2 rfl) (cC (p.get 10 rfl (a 10 rfl)) cN))
 exact fa (hw:=gY z z z (vN ae)) bn z<|nl ⟨z, (.inl ⟨d, _, O, (ag.step p b z z z z), B⟩)⟩
 cases (c 15 rfl).symm.trans f
 rintro D r aq (⟨d, ac, O, p, B⟩ | ⟨f, g, ac, O, i, p, B⟩) b a c
 obtain ⟨k, rfl⟩ := Has.ex (cC (p.get 10 rfl (a 10 rfl)) (cC (p.get 13 rfl (a 13 rfl)) cN))
 exact ld (hw:=gY z z z (vN ae)) B 0 bb z z z<|nl ⟨z, (.inl ⟨d, _, O, (ag.step p b z z z z), B⟩)⟩
 cases (c 15 rfl).symm.trans f
 rintro D r aq (⟨d, ac, O, p, B⟩ | ⟨f, g, ac, O, i, p, B⟩) b a c
 obtain ⟨k, rfl⟩ := Has.ex (cC (p.get 10 rfl (a 10 rfl)) (cC (p.get 12 rfl (a 12 rfl)) (cC (p.get 14 rfl (a 14 rfl)) cN)))
 refine eh B (vs := [(0, int .i64 ((a1.getD (Int.toNat l) aa).X)), (1, int .i64 ((a1.getD (Int.toNat l) aa).Y))]) (cs := [int .i64 ((a1.getD (Int.toNat l) aa).X), int .i64 ((a1.getD (Int.toNat l) aa).Y)]) j5 pK rfl (by decide) rfl (by kernel_rfl) (fun g a7 aO => ?_) (hw := gY rfl rfl rfl (fF ae))
 obtain ⟨a8, aQ, aR, i⟩ := Hp.publish (xs := ([(a1.getD (Int.toNat l) aa).X, (a1.getD (Int.toNat l) aa).Y] : List Int)) (n := 2) (Kd.int .i64) aO ⟨[int .i64 ((a1.getD (Int.toNat l) aa).X)], _, rfl, rfl, ⟨[int .i64 ((a1.getD (Int.toNat l) aa).Y)], _, rfl, rfl, rfl⟩⟩ rfl
 exact nl ⟨z, (.inr ⟨z, g, _, (gT O aQ), i, (ag.step (ag.more (new := [(15, 39, slice (some ⟨g, 0, none⟩) ([(a1.getD (Int.toNat l) aa).X, (a1.getD (Int.toNat l) aa).Y] : List Int).length 2), (16, 40, bool au), (17, 41, bool (!au)), (18, 42, bool (!au)), (19, 43, bool (!au)), (20, 44, pointer (some ⟨ad, 4, none⟩)), (21, 45, int .i64 ((a1.getD (Int.toNat l) aa).H)), (22, 46, bool aB), (23, 47, bool (!aB)), (24, 48, bool (!aB)), (25, 49, bool (!aB)), (26, 50, pointer (some ⟨ad, 5, none⟩)), (27, 51, string ((a1.getD (Int.toNat l) aa).Text)), (28, 52, bool aE), (29, 53, bool (!aE)), (30, 54, bool (!aE)), (31, 55, bool (!aE)), (32, 56, int .i64 l), (33, 57, bool (decide (0 < l))), (34, 58, bool (decide (0 < l))), (35, 59, undef), (36, 60, undef), (37, 61, undef), (38, 62, undef), (39, 63, undef), (40, 64, undef), (41, 65, undef), (42, 66, undef), (43, 67, undef), (44, 68, bool false), (45, 69, bool false)]) p (List.forall_mem_cons.2 ⟨b, (List.forall_mem_cons.2 ⟨c 16 z, (List.forall_mem_cons.2 ⟨c 17 z, (List.forall_mem_cons.2 ⟨c 18 z, (List.forall_mem_cons.2 ⟨c 19 z, (List.forall_mem_cons.2 ⟨c 20 z, (List.forall_mem_cons.2 ⟨c 21 z, (List.forall_mem_cons.2 ⟨c 22 z, (List.forall_mem_cons.2 ⟨c 23 z, (List.forall_mem_cons.2 ⟨c 24 z, (List.forall_mem_cons.2 ⟨c 25 z, (List.forall_mem_cons.2 ⟨c 26 z, (List.forall_mem_cons.2 ⟨c 27 z, (List.forall_mem_cons.2 ⟨c 28 z, (List.forall_mem_cons.2 ⟨c 29 z, (List.forall_mem_cons.2 ⟨c 30 z, (List.forall_mem_cons.2 ⟨c 31 z, (List.forall_mem_cons.2 ⟨c 32 z, (List.forall_mem_cons.2 ⟨c 33 z, (List.forall_mem_cons.2 ⟨c 34 z, (List.forall_mem_cons.2 ⟨c 35 z, (List.forall_mem_cons.2 ⟨c 36 z, (List.forall_mem_cons.2 ⟨c 37 z, (List.forall_mem_cons.2 ⟨c 38 z, (List.forall_mem_cons.2 ⟨c 39 z, (List.forall_mem_cons.2 ⟨c 40 z, (List.forall_mem_cons.2 ⟨c 41 z, (List.forall_mem_cons.2 ⟨c 42 z, (List.forall_mem_cons.2 ⟨c 43 z, (List.forall_mem_cons.2 ⟨c 44 z, (List.forall_mem_cons.2 ⟨c 45 z, (fun _ h => nomatch h)⟩)⟩)⟩)⟩)⟩)⟩)⟩)⟩)⟩)⟩)⟩)⟩)⟩)⟩)⟩)⟩)⟩)⟩)⟩)⟩)⟩)⟩)⟩)⟩)⟩)⟩)⟩)⟩)⟩)⟩)⟩)) b z z z z), aR⟩)⟩
 cases b.symm.trans f
 rintro D r aq (⟨d, ac, O, p, B⟩ | ⟨f, g, ac, O, i, p, B⟩) b a c
 cases (a 15 rfl).symm.trans d
 obtain ⟨k, rfl⟩ := Has.ex (cC (p.get 10 rfl (a 10 rfl)) (cC (p.get 15 rfl (a 15 rfl)) cN))
 exact cv (hw:=gY z z z (vN ae)) oS (cW (a1 := ([(a1.getD (Int.toNat l) aa).X, (a1.getD (Int.toNat l) aa).Y] : List Int)) a3 B (show ([(a1.getD (Int.toNat l) aa).X, (a1.getD (Int.toNat l) aa).Y] : List Int).length ≤ 2 from Nat.le_of_ble_eq_true z) i) z z fun a9 aS=>nl ⟨z, (.inr ⟨f, g, _, O, i, (ag.step p b z z z z), aS⟩)⟩
 rintro D r aq (⟨d, ac, O, p, B⟩ | ⟨f, g, ac, O, i, p, B⟩) b a c
 cases (a 15 rfl).symm.trans d
 obtain ⟨k, rfl⟩ := Has.ex (cC (p.get 10 rfl (a 10 rfl)) (cC (p.get 16 rfl (a 16 rfl)) cN))
 exact bV (hw:=gY z z z (vN ae)) z<|nl ⟨z, (.inr ⟨f, g, _, O, i, (ag.step p b z z z z), B⟩)⟩
 rintro D r aq (⟨d, ac, O, p, B⟩ | ⟨f, g, ac, O, i, p, B⟩) b a c
 cases (a 15 rfl).symm.trans d
 obtain ⟨k, rfl⟩ := Has.ex (cC (p.get 10 rfl (a 10 rfl)) (cC (p.get 17 rfl (a 17 rfl)) cN))
 exact dm (vN ae) z<|nl ⟨z, (.inr ⟨f, g, _, O, i, (ag.step p b z z z z), B⟩)⟩
 rintro D r aq (⟨d, ac, O, p, B⟩ | ⟨f, g, ac, O, i, p, B⟩) b a c
 cases (a 15 rfl).symm.trans d
 obtain ⟨k, rfl⟩ := Has.ex (cC (p.get 18 rfl (a 18 rfl)) cN)
 exact mv z<|nl ⟨z, (.inr ⟨f, g, _, O, i, (ag.step p b z z z z), B⟩)⟩
 rintro D r aq (⟨d, ac, O, p, B⟩ | ⟨f, g, ac, O, i, p, B⟩) b a c
 cases (a 15 rfl).symm.trans d
 obtain ⟨k, rfl⟩ := Has.ex (cC (p.ins.get 2 rfl) (cC (p.get 19 rfl (a 19 rfl)) cN))
 exact fa (hw:=gY z z z (vN aC)) cm z<|nl ⟨z, (.inr ⟨f, g, _, O, i, (ag.step p b z z z z), B⟩)⟩
 rintro D r aq (⟨d, ac, O, p, B⟩ | ⟨f, g, ac, O, i, p, B⟩) b a c
 cases (a 15 rfl).symm.trans d
 obtain ⟨k, rfl⟩ := Has.ex (cC (p.get 19 rfl (a 19 rfl)) (cC (p.get 20 rfl (a 20 rfl)) cN))
 exact ld (hw:=gY z z z (vN aC)) B 1 bb z z z<|nl ⟨z, (.inr ⟨f, g, _, O, i, (ag.step p b z z z z), B⟩)⟩
 rintro D r aq (⟨d, ac, O, p, B⟩ | ⟨f, g, ac, O, i, p, B⟩) b a c
 cases (a 15 rfl).symm.trans d
 obtain ⟨k, rfl⟩ := Has.ex (cC (p.get 19 rfl (a 19 rfl)) (cC (p.get 21 rfl (a 21 rfl)) cN))
 exact cv (hw:=gY z z z (vN aC)) gM (aD ba B) z z fun bf aW=>nl ⟨z, (.inr ⟨f, g, _, O, i, (ag.step p b z z z z), aW⟩)⟩
 rintro D r aq (⟨d, ac, O, p, B⟩ | ⟨f, g, ac, O, i, p, B⟩) b a c
 cases (a 15 rfl).symm.trans d
 obtain ⟨k, rfl⟩ := Has.ex (cC (p.get 19 rfl (a 19 rfl)) (cC (p.get 22 rfl (a 22 rfl)) cN))
 exact bV (hw:=gY z z z (vN aC)) z<|nl ⟨z, (.inr ⟨f, g, _, O, i, (ag.step p b z z z z), B⟩)⟩
 rintro D r aq (⟨d, ac, O, p, B⟩ | ⟨f, g, ac, O, i, p, B⟩) b a c
 cases (a 15 rfl).symm.trans d
 obtain ⟨k, rfl⟩ := Has.ex (cC (p.get 19 rfl (a 19 rfl)) (cC (p.get 23 rfl (a 23 rfl)) cN))
 exact dm (vN aC) z<|nl ⟨z, (.inr ⟨f, g, _, O, i, (ag.step p b z z z z), B⟩)⟩
 rintro D r aq (⟨d, ac, O, p, B⟩ | ⟨f, g, ac, O, i, p, B⟩) b a c
 cases (a 15 rfl).symm.trans d
 obtain ⟨k, rfl⟩ := Has.ex (cC (p.get 24 rfl (a 24 rfl)) cN)
 exact mv z<|nl ⟨z, (.inr ⟨f, g, _, O, i, (ag.step p b z z z z), B⟩)⟩
 rintro D r aq (⟨d, ac, O, p, B⟩ | ⟨f, g, ac, O, i, p, B⟩) b a c
 cases (a 15 rfl).symm.trans d
 obtain ⟨k, rfl⟩ := Has.ex (cC (p.ins.get 2 rfl) (cC (p.get 25 rfl (a 25 rfl)) cN))
 exact fa (hw:=gY z z z (vN aG)) kY z<|nl ⟨z, (.inr ⟨f, g, _, O, i, (ag.step p b z z z z), B⟩)⟩
 rintro D r aq (⟨d, ac, O, p, B⟩ | ⟨f, g, ac, O, i, p, B⟩) b a c
 cases (a 15 rfl).symm.trans d
 obtain ⟨k, rfl⟩ := Has.ex (cC (p.get 25 rfl (a 25 rfl)) (cC (p.get 26 rfl (a 26 rfl)) cN))
 exact ld (hw:=gY z z z (vN aG)) B 1 rb z z z<|nl ⟨z, (.inr ⟨f, g, _, O, i, (ag.step p b z z z z), B⟩)⟩
 rintro D r aq (⟨d, ac, O, p, B⟩ | ⟨f, g, ac, O, i, p, B⟩) b a c
 cases (a 15 rfl).symm.trans d
 obtain ⟨k, rfl⟩ := Has.ex (cC (p.get 25 rfl (a 25 rfl)) (cC (p.get 27 rfl (a 27 rfl)) cN))
 exact cv (hw:=gY z z z (vN aG)) qc (gj bg B) z z fun bt a4=>nl ⟨z, (.inr ⟨f, g, _, O, i, (ag.step p b z z z z), a4⟩)⟩
 rintro D r aq (⟨d, ac, O, p, B⟩ | ⟨f, g, ac, O, i, p, B⟩) b a c
 cases (a 15 rfl).symm.trans d
 obtain ⟨k, rfl⟩ := Has.ex (cC (p.get 25 rfl (a 25 rfl)) (cC (p.get 28 rfl (a 28 rfl)) cN))
 exact bV (hw:=gY z z z (vN aG)) z<|nl ⟨z, (.inr ⟨f, g, _, O, i, (ag.step p b z z z z), B⟩)⟩
 rintro D r aq (⟨d, ac, O, p, B⟩ | ⟨f, g, ac, O, i, p, B⟩) b a c
 cases (a 15 rfl).symm.trans d
 obtain ⟨k, rfl⟩ := Has.ex (cC (p.get 25 rfl (a 25 rfl)) (cC (p.get 29 rfl (a 29 rfl)) cN))
 exact dm (vN aG) z<|nl ⟨z, (.inr ⟨f, g, _, O, i, (ag.step p b z z z z), B⟩)⟩
 rintro D r aq (⟨d, ac, O, p, B⟩ | ⟨f, g, ac, O, i, p, B⟩) b a c
 cases (a 15 rfl).symm.trans d
 obtain ⟨k, rfl⟩ := Has.ex (cC (p.get 30 rfl (a 30 rfl)) cN)
 exact mv z<|nl ⟨z, (.inr ⟨f, g, _, O, i, (ag.step p b z z z z), B⟩)⟩
 rintro D r aq (⟨d, ac, O, p, B⟩ | ⟨f, g, ac, O, i, p, B⟩) b a c
 cases (a 15 rfl).symm.trans d
 obtain ⟨k, rfl⟩ := Has.ex (cC (p.ins.get 1 rfl) (cC (p.get 31 rfl (a 31 rfl)) cN))
 exact mv (hw:=gY z z z (vN aI)) z<|nl ⟨z, (.inr ⟨f, g, _, O, i, (ag.step p b z z z z), B⟩)⟩
 rintro D r aq (⟨d, ac, O, p, B⟩ | ⟨f, g, ac, O, i, p, B⟩) b a c
 cases (a 15 rfl).symm.trans d
 obtain ⟨k, rfl⟩ := Has.ex (cC (p.get 31 rfl (a 31 rfl)) (cC (p.get 32 rfl (a 32 rfl)) cN))
 exact gq (hw:=gY z z z (vN aI)) z z<|nl ⟨z, (.inr ⟨f, g, _, O, i, (ag.step p b z z z z), B⟩)⟩
 rintro D r aq (⟨d, ac, O, p, B⟩ | ⟨f, g, ac, O, i, p, B⟩) b a c
 cases (a 15 rfl).symm.trans d
 obtain ⟨k, rfl⟩ := Has.ex (cC (p.get 31 rfl (a 31 rfl)) (cC (p.get 33 rfl (a 33 rfl)) cN))
 exact mv (hw:=gY z z z (vN aI)) z<|nl ⟨z, (.inr ⟨f, g, _, O, i, (ag.step p b z z z z), B⟩)⟩
 rintro D r aq (⟨d, ac, O, p, B⟩ | ⟨f, g, ac, O, i, p, B⟩) b a c
 cases (a 15 rfl).symm.trans d
 obtain ⟨k, rfl⟩ := Has.ex (cC (p.get 34 rfl (a 34 rfl)) cN)
 exact wN (gN z z z (bN aH) z)<|nl ⟨z, (.inr ⟨f, g, _, O, i, (ag.step p b z z z z), B⟩)⟩
 rintro D r aq (⟨d, ac, O, p, B⟩ | ⟨f, g, ac, O, i, p, B⟩) b a c
 cases (a 15 rfl).symm.trans d
 obtain ⟨k, rfl⟩ := Has.ex (cC (p.get 34 rfl (a 34 rfl)) cN)
 exact wN (gN z z z (bN aH) z)<|nl ⟨z, (.inr ⟨f, g, _, O, i, (ag.step p b z z z z), B⟩)⟩
 rintro D r aq (⟨d, ac, O, p, B⟩ | ⟨f, g, ac, O, i, p, B⟩) b a c
 cases (a 15 rfl).symm.trans d
 obtain ⟨k, rfl⟩ := Has.ex (cC (p.get 34 rfl (a 34 rfl)) cN)
 exact wN (gN z z z (bN aH) z)<|nl ⟨z, (.inr ⟨f, g, _, O, i, (ag.step p b z z z z), B⟩)⟩
 rintro D r aq (⟨d, ac, O, p, B⟩ | ⟨f, g, ac, O, i, p, B⟩) b a c
 cases (a 15 rfl).symm.trans d
 obtain ⟨k, rfl⟩ := Has.ex (cC (p.get 34 rfl (a 34 rfl)) cN)
 exact wN (gN z z z (bN aH) z)<|nl ⟨z, (.inr ⟨f, g, _, O, i, (ag.step p b z z z z), B⟩)⟩
 rintro D r aq (⟨d, ac, O, p, B⟩ | ⟨f, g, ac, O, i, p, B⟩) b a c
 cases (a 15 rfl).symm.trans d
 obtain ⟨k, rfl⟩ := Has.ex (cC (p.get 34 rfl (a 34 rfl)) cN)
 exact wN (gN z z z (bN aH) z)<|nl ⟨z, (.inr ⟨f, g, _, O, i, (ag.step p b z z z z), B⟩)⟩
 rintro D r aq (⟨d, ac, O, p, B⟩ | ⟨f, g, ac, O, i, p, B⟩) b a c
 cases (a 15 rfl).symm.trans d
 obtain ⟨k, rfl⟩ := Has.ex (cC (p.get 34 rfl (a 34 rfl)) cN)
 exact wN (gN z z z (bN aH) z)<|nl ⟨z, (.inr ⟨f, g, _, O, i, (ag.step p b z z z z), B⟩)⟩
 rintro D r aq (⟨d, ac, O, p, B⟩ | ⟨f, g, ac, O, i, p, B⟩) b a c
 cases (a 15 rfl).symm.trans d
 obtain ⟨k, rfl⟩ := Has.ex (cC (p.get 34 rfl (a 34 rfl)) cN)
 exact wN (gN z z z (bN aH) z)<|nl ⟨z, (.inr ⟨f, g, _, O, i, (ag.step p b z z z z), B⟩)⟩
 rintro D r aq (⟨d, ac, O, p, B⟩ | ⟨f, g, ac, O, i, p, B⟩) b a c
 cases (a 15 rfl).symm.trans d
 obtain ⟨k, rfl⟩ := Has.ex (cC (p.get 34 rfl (a 34 rfl)) cN)
 exact wN (gN z z z (bN aH) z)<|nl ⟨z, (.inr ⟨f, g, _, O, i, (ag.step p b z z z z), B⟩)⟩
 rintro D r aq (⟨d, ac, O, p, B⟩ | ⟨f, g, ac, O, i, p, B⟩) b a c
 cases (a 15 rfl).symm.trans d
 obtain ⟨k, rfl⟩ := Has.ex (cC (p.get 34 rfl (a 34 rfl)) cN)
 exact wN (gN z z z (bN aH) z)<|nl ⟨z, (.inr ⟨f, g, _, O, i, (ag.step p b z z z z), B⟩)⟩
 rintro D r aq (⟨d, ac, O, p, B⟩ | ⟨f, g, ac, O, i, p, B⟩) b a c
 cases (a 15 rfl).symm.trans d
 obtain ⟨k, rfl⟩ := Has.ex (cC (p.get 31 rfl (a 31 rfl)) (cC (p.get 34 rfl (a 34 rfl)) (cC (p.get 43 rfl (a 43 rfl)) cN)))
 exact dm (hw:=gY z z z (vN aI)) (bN aH) z<|nl ⟨z, (.inr ⟨f, g, _, O, i, (ag.step p b z z z z), B⟩)⟩
 rintro D r aq (⟨d, ac, O, p, B⟩ | ⟨f, g, ac, O, i, p, B⟩) b a c
 cases (a 15 rfl).symm.trans d
 obtain ⟨k, rfl⟩ := Has.ex (cC (p.get 31 rfl (a 31 rfl)) (cC (p.get 44 rfl (a 44 rfl)) cN))
 exact dm (vN aI) z<|nl ⟨z, (.inr ⟨f, g, _, O, i, (ag.step p b z z z z), B⟩)⟩
 intro D r aq P hR
 rcases hR with ⟨d, ac, O, p, B⟩ | ⟨f, g, ac, O, i, p, B⟩
 cases (P 15 (Nat.le_of_ble_eq_true rfl)).symm.trans d
 obtain ⟨k, rfl⟩ := Has.ex (cC (p.ins.get 0 rfl) (cC (p.ins.get 3 rfl) (cC (p.ins.get 4 rfl) (cC (p.ins.get 5 rfl) (cC (p.get 5 rfl (P 5 (Nat.le_of_ble_eq_true rfl))) (cC (p.get 6 rfl (P 6 (Nat.le_of_ble_eq_true rfl))) (cC (p.get 7 rfl (P 7 (Nat.le_of_ble_eq_true rfl))) (cC (p.get 8 rfl (P 8 (Nat.le_of_ble_eq_true rfl))) (cC (p.get 11 rfl (P 11 (Nat.le_of_ble_eq_true rfl))) (cC (p.get 12 rfl (P 12 (Nat.le_of_ble_eq_true rfl))) (cC (p.get 13 rfl (P 13 (Nat.le_of_ble_eq_true rfl))) (cC (p.get 14 rfl (P 14 (Nat.le_of_ble_eq_true rfl))) (cC (p.get 15 rfl (P 15 (Nat.le_of_ble_eq_true rfl))) (cC (p.get 16 rfl (P 16 (Nat.le_of_ble_eq_true rfl))) (cC (p.get 17 rfl (P 17 (Nat.le_of_ble_eq_true rfl))) (cC (p.get 20 rfl (P 20 (Nat.le_of_ble_eq_true rfl))) (cC (p.get 21 rfl (P 21 (Nat.le_of_ble_eq_true rfl))) (cC (p.get 22 rfl (P 22 (Nat.le_of_ble_eq_true rfl))) (cC (p.get 23 rfl (P 23 (Nat.le_of_ble_eq_true rfl))) (cC (p.get 26 rfl (P 26 (Nat.le_of_ble_eq_true rfl))) (cC (p.get 27 rfl (P 27 (Nat.le_of_ble_eq_true rfl))) (cC (p.get 28 rfl (P 28 (Nat.le_of_ble_eq_true rfl))) (cC (p.get 29 rfl (P 29 (Nat.le_of_ble_eq_true rfl))) (cC (p.get 32 rfl (P 32 (Nat.le_of_ble_eq_true rfl))) (cC (p.get 33 rfl (P 33 (Nat.le_of_ble_eq_true rfl))) (cC (p.get 34 rfl (P 34 (Nat.le_of_ble_eq_true rfl))) (cC (p.get 44 rfl (P 44 (Nat.le_of_ble_eq_true rfl))) (cC (p.get 45 rfl (P 45 (Nat.le_of_ble_eq_true rfl))) cN))))))))))))))))))))))))))))
 refine have b3:=Hp.pick 2 [1] B z;?_
 cases H
 exact je ⟨z, z, z, z, z, tv⟩ (Hp.low O b3)
 refine bT _ _ _<|dC (br = true) (fun a5=>?_) fun a5=>?_
 refine yK a5 H fun H=>wt (vY a5)<|sr fun cE b4=>aK z<|nl<|b4 _ _ _<|wr<|have b5:=Hp.pick 1 [] bs z;?_
 cases H
 exact ⟨z, z, ⟨z, tv⟩, b5, tv⟩
 exact nK a5 H fun H=>wf (vN a5)<|ws<|bI _ _ _<|aA<|bm z z<|mv z<|nl<|have b7:=Hp.pick 1 [] bs z;ih _ _ H _ _ ⟨z, z, z, z, tv⟩ b7 z
 refine nK a0 H fun H=>wf (bN a0)<|wx<|?_
 cases H
 exact ⟨z, z, trivial, be, tv⟩
 rcases bd with _ | _
 rintro e r ds cF ⟨rfl, rfl, aT, b8, _⟩
 rw [aT.eq]; clear aT
 cases H
 exact rt ⟨_, _, z, z, z⟩ b8
 rintro e r ds cG ⟨rfl, rfl, aT, b9, _⟩
 rw [aT.eq]; clear aT
 refine bD _ _ _<|sr fun cH ca=>aK z<|nl<|ca _ _ _<|wr<|?_
 cases H
 exact rt ⟨_, _, z, z, z⟩ b9
theorem eG {a1 d f h G L w} (H : dB a1 = some h) (hI : Hp G L w) (P : a1.length ≤ f) (q : Dat ah G d a1) :
    Calls Try.prog 41 [slice d a1.length f].toArray w fun e w' => Hp G L w' ∧ e = .returned (int .i64 h) := by
 refine aw (N := 18) Try.func41 z z (Nat.le_of_ble_eq_true z)<|?_
 unfold dB at H
 refine sr fun R s=>aK z<|nl<|s _ _ _<|sr fun S t=>aK z<|nl<|t _ _ _<|sQ fun T u=>sr fun U x=>mv z<|q_len dA z<|mv z<|nl<|?_
 refine x _ _ _<|wb<|bK H fun i hC H=>aP (Q := fun e r ds w => e = .exit 0 ∧ ds = [] ∧ Has [(3, int .i64 i)] r ∧ Hp G (L) w ∧ True) ?_ ?_
 refine bH fun I p=>?_
 refine cS.partial_correctness a1 (fun k a o => ∀ (r : Rg) (w : World), Has [(3, int .i64 k), (6, slice d a1.length f), (7, int .i64 (a1.length : Int)), (8, int .i64 a)] r → Hp G (L) w → o = i → I r [] w) ?_ 0 0 _ hC _ _ ⟨rfl, rfl, rfl, rfl, tv⟩ hI rfl
 intro _ ih k a o H r V b g ho
 rw [ho] at H; clear ho
 rw [b.eq]; clear b
 refine p _ _ _<|sr fun W y=>cZ z z<|nl<|y _ _ _<|sQ fun Z A=>dC (a < (a1.length : Int)) (fun c=>?_) fun c=>?_
 refine yK c H fun H=>wt (bY c)<|ws<|A _ _ _<|sQ fun ab B=>wb<|sr fun ac C=>iK H fun⟨l, m⟩H=>?_
 obtain ⟨ad, ae, D, E, af, F⟩ := Dat.get q aa (a) l m
 obtain ⟨rfl⟩ := aF E
 refine bL cA z D z l m<|fq g dx z (cs := [int .i64 ((a1.getD (Int.toNat a) aa).Node), int .i64 ((a1.getD (Int.toNat a) aa).Table), int .i64 ((a1.getD (Int.toNat a) aa).X), int .i64 ((a1.getD (Int.toNat a) aa).Y), int .i64 ((a1.getD (Int.toNat a) aa).H), string ((a1.getD (Int.toNat a) aa).Text), bool ((a1.getD (Int.toNat a) aa).Head), bool ((a1.getD (Int.toNat a) aa).Note)]) z (fun j v hv => gR.cel _ _ (F j v hv))<|bQ g cP fun ag ai J=>f5 J 0 dx z z z z z z z fun aj n=>nl<|C _ _ _<|aA<|mv z<|fa cm z<|ld n 0 bb z z z<|bm z z<|aK z<|nl<|B _ _ _<|?_
 exact aA<|bm z z<|mv z<|nl<|have K:=Hp.pick 1 [] n z;ih _ _ _ H _ _ ⟨z, z, z, z, tv⟩ K z
 refine nK c H fun H=>wf (bN c)<|wx<|?_
 cases H
 exact ⟨z, z, ⟨z, tv⟩, g, tv⟩
 rintro e r ds ak ⟨rfl, rfl, b, M, _⟩
 rw [b.eq]; clear b
 refine u _ _ _<|sr fun al O=>mv z<|aK z<|nl<|O _ _ _<|wr<|?_
 cases H
 exact rt ⟨_, _, z, z, z⟩ M
theorem kb {a1} {a6 : List Bool} {c d f g a} {b : List Bool} {G L w} (H : gb a1 a6 = some (a, b)) (hI : Hp G L w) (p : a1.length ≤ d) (q : Dat ah G c a1) (r : a6.length ≤ g) (s : Dat Kd.bool G f a6) :
    Calls Try.prog 24 [slice c a1.length d, slice f a6.length g].toArray w fun e w' => ∃ (h : Nat) (i : Option Addr) (j : Nat) (k : Nat) (l : Option Addr) (m : Nat) (G' : Gh), G ≤ G' ∧ Hp G' (bx h [slice i a.length j] 24 :: bx k [slice l b.length m] 25 :: L) w' ∧ a.length ≤ j ∧ Dat ah G' i a ∧ b.length ≤ m ∧ Dat Kd.bool G' l b ∧ e = .returned (func (.func 43) [].toArray [pointer (some ⟨h, 0, none⟩), pointer (some ⟨k, 0, none⟩)].toArray) := by
 refine aw (N := 6) Try.func24 z z (Nat.le_of_ble_eq_true z)<|?_
 unfold gb at H
 refine sr fun A t=>jW hI z z fun n B u=>jW u z z fun o C v=>aK z<|nl<|t _ _ _<|sr fun D x=>py (vs := []) (us := [pointer (some ⟨n, 0, none⟩), pointer (some ⟨o, 0, none⟩)]) z z<|aK z<|nl<|x _ _ _<|wr<|have y:=Hp.pick 2 [1, 0] v z;?_
 cases H
 exact ⟨.inr z, z, _, ⟨_, _, z, z, z⟩, n, c, d, o, f, g, _, gR, y, p, q, r, s, z⟩
theorem eX {a1 : ak} {b c d f g G L w} (H : cG a1 = some g) (hI : Hp G L w) (q : a1.slices.length ≤ c) (j : Dat ah G b a1.slices) (r : a1.notes.length ≤ f) (s : Dat ah G d a1.notes) :
    Calls Try.prog 26 [agg [slice b a1.slices.length c, slice d a1.notes.length f, int .i64 a1.end_].toArray].toArray w fun e w' => Hp G L w' ∧ e = .returned (int .i64 g) := by
 refine aw (N := 8) Try.func26 z z (Nat.le_of_ble_eq_true z)<|?_
 unfold cG at H
 refine sr fun t k=>jW hI z z fun u v a=>aK z<|nl<|k _ _ _<|sr fun x l=>fa dw z<|ld a 0 cB z z z<|iK H fun⟨h, i⟩H=>?_
 obtain ⟨y, A, m, n, B, o⟩ := Dat.get j aa (0) h i
 obtain ⟨rfl⟩ := aF n
 refine bL cA z m z h i<|eS bn z z<|et a bb z (gR.cel _ _ (o 3 _ z))<|aK z<|nl<|l _ _ _<|wr<|have p:=Hp.pick 1 [] a z;?_
 cases H
 exact rt ⟨_, _, z, z, z⟩ p
theorem dh {a1 : ak} {a b c d f G L w} (H : bj a1 = some f) (hI : Hp G L w) (g : a1.slices.length ≤ b) (h : Dat ah G a a1.slices) (i : a1.notes.length ≤ d) (j : Dat ah G c a1.notes) :
    Calls Try.prog 44 [agg [slice a a1.slices.length b, slice c a1.notes.length d, int .i64 a1.end_].toArray].toArray w fun e w' => Hp G L w' ∧ e = .returned (int .i64 f) := by
 refine aw (N := 8) Try.func44 z z (Nat.le_of_ble_eq_true z)<|?_
 unfold bj at H
 refine sr fun t k=>jW hI z z fun u x l=>aK z<|nl<|k _ _ _<|sQ fun y m=>?_
 refine jq l dJ (by kernel_rfl) ?_
 refine cw (fun Gq w hGq Iq=>fa dO z bc) z z<|cw (fun Gq w hGq Iq=>ld Iq 0 bb z z z bc) z z<|cw (fun Gq w hGq Iq=>gg Iq 0 iD z z z z bc) z z<|bK H fun n o H=>wk (vs := [agg [slice a a1.slices.length b, slice c a1.notes.length d, int .i64 a1.end_].toArray]) (v := int .i64 n) qh z z (fun Gq w hGq Iq => ?_) ?_
 refine Calls.mono (eX o Iq g (Dat.mono hGq h) i (Dat.mono hGq j))<|?_
 rintro _ A ⟨p, rfl⟩
 exact ⟨z, _, hGq, p⟩
 refine cw (fun Gq w hGq Iq=>b6 z z bc) z z<|cw (fun Gq w hGq Iq=>aK z bc) z z<|wz fun B C q r=>m _ _ _<|wr<|have s:=Hp.pick 1 [] r z;?_
 cases H
 exact rt ⟨_, _, z, z, z⟩ (Hp.low q s)
end Go.Proofs.Ytlcfemplcaejgaa.LG
