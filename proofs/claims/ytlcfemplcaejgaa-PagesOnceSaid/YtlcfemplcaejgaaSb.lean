/-
  The walks: each function computes its plain function: printed by a program out of the translation.
-/
import Derived.Test.YtlcfemplcaejgaaSa
set_option linter.unusedVariables false
set_option linter.unusedSimpArgs false
set_option maxRecDepth 100000
namespace Go.Proofs.Ytlcfemplcaejgaa.LG
open Go Go.LG Go.RowKit Go.Value
set_option maxHeartbeats 20000000
theorem pages_canBreak_spec {a1} {a6 : List Bool} {A2 c3 A7 c8 r1011 G L w} (H : pages_canBreak a1 a6 = some r1011) (hI : Hp G L w) (hl4 : a1.length ≤ c3) (hD5 : Dat k_api_Slice G A2 a1) (hl9 : a6.length ≤ c8) (hD10 : Dat Kd.bool G A7 a6) :
    Calls Try.prog 21 [slice A2 a1.length c3, slice A7 a6.length c8].toArray w fun e w' => Hp G L w' ∧ e = .returned (bool r1011) := by
 refine calls_intro (N := 71) Try.func21 z z (Nat.le_of_ble_eq_true z)<|?_
 unfold pages_canBreak at H
 refine sr fun K11 hK12=>asn z<|nl<|hK12 _ _ _<|sQ fun K13 hK14=>sr fun K15 hK16=>mv z<|q_len so24 z<|q_gtr z z<|mv z<|bK H fun v17 hC H=>js 6 hI [(0, slice A2 a1.length c3), (16, bool v17)] ?_ fun _ wd20 hI21=>?_
 refine have H:=hC;dC (10000 < (a1.length : Int)) (fun h23=>?_) fun h23=>?_
 refine yK h23 H fun H=>Sk 5 z z (bY h23) z<|pkt (bY h23) z<|nl<|?_
 cases H
 exact je ⟨z, z, tv⟩ hI
 refine nK h23 H fun H=>mv (hw:=gY z z z (bN h23)) z<|q_len (hw:=gY z z z (bN h23)) so25 z<|mv (hw:=gY z z z (bN h23)) z<|q_len (hw:=gY z z z (bN h23)) so24 z<|q_neq (hw:=gY z z z (bN h23)) z z<|pkf (bN h23) z<|nl<|?_
 cases H
 exact je ⟨z, z, tv⟩ hI
 refine nl<|hK16 _ _ _<|dC (v17 = true) (fun h24=>?_) fun h24=>?_
 refine yK h24 H fun H=>wt (vY h24)<|sr fun K25 hK26=>asn z<|nl<|hK26 _ _ _<|wr<|?_
 cases H
 exact rt ⟨_, _, z, z, z⟩ hI21
 refine nK h24 H fun H=>wf (vN h24)<|ws<|hK14 _ _ _<|sQ fun K27 hK28=>sr fun K29 hK30=>mv z<|q_len so24 z<|mv z<|nl<|hK30 _ _ _<|wb<|bK H fun o50 hC H=>wpc_mono (Q := fun e r ds w => match (generalizing := false) o50 with | (Sum.inl _) => e = .ret ∧ ds = [] ∧ Has [(4, bool false)] r ∧ Hp G (L) w ∧ True | (Sum.inr _) => e = .exit 0 ∧ ds = [] ∧ Has [] r ∧ Hp G (L) w ∧ True) ?_ ?_
 refine wpc_loop fun I hLp=>?_
 refine pages_canBreak_l41.partial_correctness a1 (fun v35 o => ∀ (r : Rg) (w : World), Has [(0, slice A2 a1.length c3), (17, slice A2 a1.length c3), (18, int .i64 (a1.length : Int)), (19, int .i64 v35)] r → Hp G (L) w → o = o50 → I r [] w) ?_ 0 _ hC _ _ ⟨rfl, rfl, rfl, rfl, tv⟩ hI21 rfl
 intro _ ih v35 o H r wd53 hHas hI54 ho
 rw [ho] at H; clear ho
 rw [hHas.eq]; clear hHas
 refine hLp _ _ _<|sr fun K55 hK56=>q_lss z z<|nl<|hK56 _ _ _<|sQ fun K57 hK58=>dC (v35 < (a1.length : Int)) (fun h59=>?_) fun h59=>?_
 refine yK h59 H fun H=>wt (bY h59)<|ws<|hK58 _ _ _<|sQ fun K60 hK61=>wb<|sr fun K62 hK63=>mv z<|iK H fun⟨h64, h64'⟩H=>?_
 obtain ⟨ad65, cs66, hA67, hK68, hn69, hc70⟩ := Dat.get hD5 z_api_Slice (v35) h64 h64'
 obtain ⟨rfl⟩ := open_api_Slice hK68
 refine q_ia el24 z hA67 z h64 h64'<|q_lfA hI54 ag36 z (cs := [int .i64 ((a1.getD (Int.toNat v35) z_api_Slice).Node), int .i64 ((a1.getD (Int.toNat v35) z_api_Slice).Table), int .i64 ((a1.getD (Int.toNat v35) z_api_Slice).X), int .i64 ((a1.getD (Int.toNat v35) z_api_Slice).Y), int .i64 ((a1.getD (Int.toNat v35) z_api_Slice).H), string ((a1.getD (Int.toNat v35) z_api_Slice).Text), bool ((a1.getD (Int.toNat v35) z_api_Slice).Head), bool ((a1.getD (Int.toNat v35) z_api_Slice).Note)]) z (fun j v hv => gR.cel _ _ (hc70 j v hv))<|q_alloc hI54 ze36 fun g72 wd73 hI74=>asn z<|stk hI74 0 ag36 z z z z z z z fun wd75 hI76=>nl<|hK63 _ _ _<|sQ fun K77 hK78=>bK H fun v98 hC H=>jc .normal hI76 [(0, slice A2 a1.length c3), (17, slice A2 a1.length c3), (18, int .i64 (a1.length : Int)), (19, int .i64 v35), (69, bool v98)] ?_ fun _ wd101 hI102=>?_
 refine have H:=hC;bK H fun y108 hy293 H=>dC ((!y108) = true) (fun h304=>?_) fun h304=>?_
 refine yK h304 H fun H=>?_
 refine wpc_drawL [0, 1, 3, 7, 15, 31, 63, 127, 255, 511, 1023, 2047, 4095, 2047, 10239, 32767, 65535, 131071, 262143, 524287, 1048575, 2097151, 4194303, 8388607, 16777215, 33554431, 67108863, 134217727, 268435455, 536870911, 1073741823, 2147483647, 4294967295, 8589934591, 17179869183, 34359738367, 68719476735, 34359738367, 34359738367, 309237645311, 996432412671, 2095944040447, 4294967295999, 8796093022207, 17592186044415, 35184372088831] (fun D r w => (∃ (G' : Gh), G ≤ G' ∧ Regs [(0, slice A2 a1.length c3), (6, pointer (some ⟨g72, 0, none⟩)), (17, slice A2 a1.length c3), (18, int .i64 (a1.length : Int)), (19, int .i64 v35)] [] [(0, 24, pointer (some ⟨g72, 0, none⟩)), (1, 25, int .i64 ((a1.getD (Int.toNat v35) z_api_Slice).Node)), (2, 26, bool y108), (3, 27, bool (!y108)), (4, 28, bool (!y108)), (5, 29, undef), (6, 30, undef), (7, 31, undef), (8, 32, undef), (9, 33, bool true), (10, 34, bool true), (11, 35, undef), (12, 36, undef), (13, 37, undef), (14, 38, undef), (15, 39, undef), (16, 40, undef), (17, 41, undef), (18, 42, bool true), (19, 43, bool true), (20, 44, undef), (21, 45, undef), (22, 46, undef), (23, 47, undef), (24, 48, bool true), (25, 49, bool true), (26, 50, undef), (27, 51, undef), (28, 52, undef), (29, 53, undef), (30, 54, bool true), (31, 55, bool true), (32, 56, undef), (33, 57, undef), (34, 58, undef), (35, 59, undef), (36, 60, undef), (37, 61, undef), (38, 62, undef), (39, 63, undef), (40, 64, undef), (41, 65, undef), (42, 66, undef), (43, 67, undef), (44, 68, undef), (45, 69, bool true)] D r ∧ Hp G' (bx g72 [int .i64 ((a1.getD (Int.toNat v35) z_api_Slice).Node), int .i64 ((a1.getD (Int.toNat v35) z_api_Slice).Table), int .i64 ((a1.getD (Int.toNat v35) z_api_Slice).X), int .i64 ((a1.getD (Int.toNat v35) z_api_Slice).Y), int .i64 ((a1.getD (Int.toNat v35) z_api_Slice).H), string ((a1.getD (Int.toNat v35) z_api_Slice).Text), bool ((a1.getD (Int.toNat v35) z_api_Slice).Head), bool ((a1.getD (Int.toNat v35) z_api_Slice).Note)] 36 :: L) w)) mixo z z ?_ ?_ ?_
 exact ⟨_, Gh.le_refl _, Regs.start ⟨z, z, z, z, z, tv⟩ trivial, hI76.drew⟩
 refine ⟨?_, ?_, ?_, ?_, ?_, ?_, ?_, ?_, ?_, ?_, ?_, ?_, ?_, ?_, ?_, ?_, ?_, ?_, ?_, ?_, ?_, ?_, ?_, ?_, ?_, ?_, ?_, ?_, ?_, ?_, ?_, ?_, ?_, ?_, ?_, ?_, ?_, ?_, ?_, ?_, ?_, ?_, ?_, ?_, ?_, ?_, tv⟩
 rintro D r wd309 ⟨G305, hG306, hReg308, hI307⟩ hDi hpre hpost
 obtain ⟨r0, rfl⟩ := Has.ex (cC (hReg308.ins.get 1 rfl) cN)
 exact fa fl36_0 z<|nl ⟨z, ⟨_, hG306, (Regs.step hReg308 hDi z z z z), hI307⟩⟩
 rintro D r wd309 ⟨G305, hG306, hReg308, hI307⟩ hDi hpre hpost
 obtain ⟨r0, rfl⟩ := Has.ex (cC (hReg308.get 0 rfl (hpre 0 rfl)) cN)
 exact ld hI307 0 ag3 z z z<|nl ⟨z, ⟨_, hG306, (Regs.step hReg308 hDi z z z z), hI307⟩⟩
 rintro D r wd309 ⟨G305, hG306, hReg308, hI307⟩ hDi hpre hpost
 obtain ⟨r0, rfl⟩ := Has.ex (cC (hReg308.get 1 rfl (hpre 1 rfl)) cN)
 exact cv bo36 (pages_within_spec hy293 hI307) z z fun wd106 hI107=>nl ⟨z, ⟨_, hG306, (Regs.step hReg308 hDi z z z z), hI107⟩⟩
 rintro D r wd309 ⟨G305, hG306, hReg308, hI307⟩ hDi hpre hpost
 obtain ⟨r0, rfl⟩ := Has.ex (cC (hReg308.get 2 rfl (hpre 2 rfl)) cN)
 exact q_not z<|nl ⟨z, ⟨_, hG306, (Regs.step hReg308 hDi z z z z), hI307⟩⟩
 rintro D r wd309 ⟨G305, hG306, hReg308, hI307⟩ hDi hpre hpost
 obtain ⟨r0, rfl⟩ := Has.ex (cC (hReg308.get 3 rfl (hpre 3 rfl)) cN)
 exact mv z<|nl ⟨z, ⟨_, hG306, (Regs.step hReg308 hDi z z z z), hI307⟩⟩
 rintro D r wd309 ⟨G305, hG306, hReg308, hI307⟩ hDi hpre hpost
 obtain ⟨r0, rfl⟩ := Has.ex (cC (hReg308.get 4 rfl (hpre 4 rfl)) cN)
 exact wN (gN z z z (vY h304) z)<|nl ⟨z, ⟨_, hG306, (Regs.step hReg308 hDi z z z z), hI307⟩⟩
 rintro D r wd309 ⟨G305, hG306, hReg308, hI307⟩ hDi hpre hpost
 obtain ⟨r0, rfl⟩ := Has.ex (cC (hReg308.get 4 rfl (hpre 4 rfl)) cN)
 exact wN (gN z z z (vY h304) z)<|nl ⟨z, ⟨_, hG306, (Regs.step hReg308 hDi z z z z), hI307⟩⟩
 rintro D r wd309 ⟨G305, hG306, hReg308, hI307⟩ hDi hpre hpost
 obtain ⟨r0, rfl⟩ := Has.ex (cC (hReg308.get 4 rfl (hpre 4 rfl)) cN)
 exact wN (gN z z z (vY h304) z)<|nl ⟨z, ⟨_, hG306, (Regs.step hReg308 hDi z z z z), hI307⟩⟩
 rintro D r wd309 ⟨G305, hG306, hReg308, hI307⟩ hDi hpre hpost
 obtain ⟨r0, rfl⟩ := Has.ex (cC (hReg308.get 4 rfl (hpre 4 rfl)) cN)
 exact wN (gN z z z (vY h304) z)<|nl ⟨z, ⟨_, hG306, (Regs.step hReg308 hDi z z z z), hI307⟩⟩
 rintro D r wd309 ⟨G305, hG306, hReg308, hI307⟩ hDi hpre hpost
 obtain ⟨r0, rfl⟩ := Has.ex (cC (hReg308.get 4 rfl (hpre 4 rfl)) (cC (hReg308.get 8 rfl (hpre 8 rfl)) cN))
 exact pkt (vY h304) z<|nl ⟨z, ⟨_, hG306, (Regs.step hReg308 hDi z z z z), hI307⟩⟩
 rintro D r wd309 ⟨G305, hG306, hReg308, hI307⟩ hDi hpre hpost
 obtain ⟨r0, rfl⟩ := Has.ex (cC (hReg308.get 9 rfl (hpre 9 rfl)) cN)
 exact mv z<|nl ⟨z, ⟨_, hG306, (Regs.step hReg308 hDi z z z z), hI307⟩⟩
 rintro D r wd309 ⟨G305, hG306, hReg308, hI307⟩ hDi hpre hpost
 obtain ⟨r0, rfl⟩ := Has.ex (cC (hReg308.get 10 rfl (hpre 10 rfl)) cN)
 exact wN (gN z z z z z)<|nl ⟨z, ⟨_, hG306, (Regs.step hReg308 hDi z z z z), hI307⟩⟩
 rintro D r wd309 ⟨G305, hG306, hReg308, hI307⟩ hDi hpre hpost
 obtain ⟨r0, rfl⟩ := Has.ex (cC (hReg308.get 10 rfl (hpre 10 rfl)) cN)
 exact wN (gN z z z z z)<|nl ⟨z, ⟨_, hG306, (Regs.step hReg308 hDi z z z z), hI307⟩⟩
 rintro D r wd309 ⟨G305, hG306, hReg308, hI307⟩ hDi hpre hpost
 obtain ⟨r0, rfl⟩ := Has.ex (cC (hReg308.get 10 rfl (hpre 10 rfl)) cN)
 exact wN (gN z z z z z)<|nl ⟨z, ⟨_, hG306, (Regs.step hReg308 hDi z z z z), hI307⟩⟩
 rintro D r wd309 ⟨G305, hG306, hReg308, hI307⟩ hDi hpre hpost
 obtain ⟨r0, rfl⟩ := Has.ex (cC (hReg308.get 10 rfl (hpre 10 rfl)) cN)
 exact wN (gN z z z z z)<|nl ⟨z, ⟨_, hG306, (Regs.step hReg308 hDi z z z z), hI307⟩⟩
 rintro D r wd309 ⟨G305, hG306, hReg308, hI307⟩ hDi hpre hpost
 obtain ⟨r0, rfl⟩ := Has.ex (cC (hReg308.get 10 rfl (hpre 10 rfl)) cN)
 exact wN (gN z z z z z)<|nl ⟨z, ⟨_, hG306, (Regs.step hReg308 hDi z z z z), hI307⟩⟩
 rintro D r wd309 ⟨G305, hG306, hReg308, hI307⟩ hDi hpre hpost
 obtain ⟨r0, rfl⟩ := Has.ex (cC (hReg308.get 10 rfl (hpre 10 rfl)) cN)
 exact wN (gN z z z z z)<|nl ⟨z, ⟨_, hG306, (Regs.step hReg308 hDi z z z z), hI307⟩⟩
 rintro D r wd309 ⟨G305, hG306, hReg308, hI307⟩ hDi hpre hpost
 obtain ⟨r0, rfl⟩ := Has.ex (cC (hReg308.get 10 rfl (hpre 10 rfl)) cN)
 exact wN (gN z z z z z)<|nl ⟨z, ⟨_, hG306, (Regs.step hReg308 hDi z z z z), hI307⟩⟩
 rintro D r wd309 ⟨G305, hG306, hReg308, hI307⟩ hDi hpre hpost
 obtain ⟨r0, rfl⟩ := Has.ex (cC (hReg308.get 10 rfl (hpre 10 rfl)) (cC (hReg308.get 17 rfl (hpre 17 rfl)) cN))
 exact pkt z z<|nl ⟨z, ⟨_, hG306, (Regs.step hReg308 hDi z z z z), hI307⟩⟩
 rintro D r wd309 ⟨G305, hG306, hReg308, hI307⟩ hDi hpre hpost
 obtain ⟨r0, rfl⟩ := Has.ex (cC (hReg308.get 18 rfl (hpre 18 rfl)) cN)
 exact mv z<|nl ⟨z, ⟨_, hG306, (Regs.step hReg308 hDi z z z z), hI307⟩⟩
 rintro D r wd309 ⟨G305, hG306, hReg308, hI307⟩ hDi hpre hpost
 obtain ⟨r0, rfl⟩ := Has.ex (cC (hReg308.get 19 rfl (hpre 19 rfl)) cN)
 exact wN (gN z z z z z)<|nl ⟨z, ⟨_, hG306, (Regs.step hReg308 hDi z z z z), hI307⟩⟩
 rintro D r wd309 ⟨G305, hG306, hReg308, hI307⟩ hDi hpre hpost
 obtain ⟨r0, rfl⟩ := Has.ex (cC (hReg308.get 19 rfl (hpre 19 rfl)) cN)
 exact wN (gN z z z z z)<|nl ⟨z, ⟨_, hG306, (Regs.step hReg308 hDi z z z z), hI307⟩⟩
 rintro D r wd309 ⟨G305, hG306, hReg308, hI307⟩ hDi hpre hpost
 obtain ⟨r0, rfl⟩ := Has.ex (cC (hReg308.get 19 rfl (hpre 19 rfl)) cN)
 exact wN (gN z z z z z)<|nl ⟨z, ⟨_, hG306, (Regs.step hReg308 hDi z z z z), hI307⟩⟩
 rintro D r wd309 ⟨G305, hG306, hReg308, hI307⟩ hDi hpre hpost
 obtain ⟨r0, rfl⟩ := Has.ex (cC (hReg308.get 19 rfl (hpre 19 rfl)) cN)
 exact wN (gN z z z z z)<|nl ⟨z, ⟨_, hG306, (Regs.step hReg308 hDi z z z z), hI307⟩⟩
 rintro D r wd309 ⟨G305, hG306, hReg308, hI307⟩ hDi hpre hpost
 obtain ⟨r0, rfl⟩ := Has.ex (cC (hReg308.get 19 rfl (hpre 19 rfl)) (cC (hReg308.get 23 rfl (hpre 23 rfl)) cN))
 exact pkt z z<|nl ⟨z, ⟨_, hG306, (Regs.step hReg308 hDi z z z z), hI307⟩⟩
 rintro D r wd309 ⟨G305, hG306, hReg308, hI307⟩ hDi hpre hpost
 obtain ⟨r0, rfl⟩ := Has.ex (cC (hReg308.get 24 rfl (hpre 24 rfl)) cN)
 exact mv z<|nl ⟨z, ⟨_, hG306, (Regs.step hReg308 hDi z z z z), hI307⟩⟩
 rintro D r wd309 ⟨G305, hG306, hReg308, hI307⟩ hDi hpre hpost
 obtain ⟨r0, rfl⟩ := Has.ex (cC (hReg308.get 25 rfl (hpre 25 rfl)) cN)
 exact wN (gN z z z z z)<|nl ⟨z, ⟨_, hG306, (Regs.step hReg308 hDi z z z z), hI307⟩⟩
 rintro D r wd309 ⟨G305, hG306, hReg308, hI307⟩ hDi hpre hpost
 obtain ⟨r0, rfl⟩ := Has.ex (cC (hReg308.get 25 rfl (hpre 25 rfl)) cN)
 exact wN (gN z z z z z)<|nl ⟨z, ⟨_, hG306, (Regs.step hReg308 hDi z z z z), hI307⟩⟩
 rintro D r wd309 ⟨G305, hG306, hReg308, hI307⟩ hDi hpre hpost
 obtain ⟨r0, rfl⟩ := Has.ex (cC (hReg308.get 25 rfl (hpre 25 rfl)) cN)
 exact wN (gN z z z z z)<|nl ⟨z, ⟨_, hG306, (Regs.step hReg308 hDi z z z z), hI307⟩⟩
 rintro D r wd309 ⟨G305, hG306, hReg308, hI307⟩ hDi hpre hpost
 obtain ⟨r0, rfl⟩ := Has.ex (cC (hReg308.get 25 rfl (hpre 25 rfl)) cN)
 exact wN (gN z z z z z)<|nl ⟨z, ⟨_, hG306, (Regs.step hReg308 hDi z z z z), hI307⟩⟩
 rintro D r wd309 ⟨G305, hG306, hReg308, hI307⟩ hDi hpre hpost
 obtain ⟨r0, rfl⟩ := Has.ex (cC (hReg308.get 25 rfl (hpre 25 rfl)) (cC (hReg308.get 29 rfl (hpre 29 rfl)) cN))
 exact pkt z z<|nl ⟨z, ⟨_, hG306, (Regs.step hReg308 hDi z z z z), hI307⟩⟩
 rintro D r wd309 ⟨G305, hG306, hReg308, hI307⟩ hDi hpre hpost
 obtain ⟨r0, rfl⟩ := Has.ex (cC (hReg308.get 30 rfl (hpre 30 rfl)) cN)
 exact mv z<|nl ⟨z, ⟨_, hG306, (Regs.step hReg308 hDi z z z z), hI307⟩⟩
 rintro D r wd309 ⟨G305, hG306, hReg308, hI307⟩ hDi hpre hpost
 obtain ⟨r0, rfl⟩ := Has.ex (cC (hReg308.get 31 rfl (hpre 31 rfl)) cN)
 exact wN (gN z z z z z)<|nl ⟨z, ⟨_, hG306, (Regs.step hReg308 hDi z z z z), hI307⟩⟩
 rintro D r wd309 ⟨G305, hG306, hReg308, hI307⟩ hDi hpre hpost
 obtain ⟨r0, rfl⟩ := Has.ex (cC (hReg308.get 31 rfl (hpre 31 rfl)) cN)
 exact wN (gN z z z z z)<|nl ⟨z, ⟨_, hG306, (Regs.step hReg308 hDi z z z z), hI307⟩⟩
 rintro D r wd309 ⟨G305, hG306, hReg308, hI307⟩ hDi hpre hpost
 obtain ⟨r0, rfl⟩ := Has.ex (cC (hReg308.get 31 rfl (hpre 31 rfl)) cN)
 exact wN (gN z z z z z)<|nl ⟨z, ⟨_, hG306, (Regs.step hReg308 hDi z z z z), hI307⟩⟩
 rintro D r wd309 ⟨G305, hG306, hReg308, hI307⟩ hDi hpre hpost
 obtain ⟨r0, rfl⟩ := Has.ex (cC (hReg308.get 34 rfl (hpre 34 rfl)) cN)
 exact wN (gN z z z z z)<|nl ⟨z, ⟨_, hG306, (Regs.step hReg308 hDi z z z z), hI307⟩⟩
 rintro D r wd309 ⟨G305, hG306, hReg308, hI307⟩ hDi hpre hpost
 obtain ⟨r0, rfl⟩ := Has.ex (cC (hReg308.get 34 rfl (hpre 34 rfl)) cN)
 exact wN (gN z z z z z)<|nl ⟨z, ⟨_, hG306, (Regs.step hReg308 hDi z z z z), hI307⟩⟩
 rintro D r wd309 ⟨G305, hG306, hReg308, hI307⟩ hDi hpre hpost
 obtain ⟨r0, rfl⟩ := Has.ex (cC (hReg308.get 34 rfl (hpre 34 rfl)) cN)
 exact wN (gN z z z z z)<|nl ⟨z, ⟨_, hG306, (Regs.step hReg308 hDi z z z z), hI307⟩⟩
 rintro D r wd309 ⟨G305, hG306, hReg308, hI307⟩ hDi hpre hpost
 obtain ⟨r0, rfl⟩ := Has.ex (cC (hReg308.get 34 rfl (hpre 34 rfl)) cN)
 exact wN (gN z z z z z)<|nl ⟨z, ⟨_, hG306, (Regs.step hReg308 hDi z z z z), hI307⟩⟩
 rintro D r wd309 ⟨G305, hG306, hReg308, hI307⟩ hDi hpre hpost
 obtain ⟨r0, rfl⟩ := Has.ex (cC (hReg308.get 34 rfl (hpre 34 rfl)) cN)
 exact wN (gN z z z z z)<|nl ⟨z, ⟨_, hG306, (Regs.step hReg308 hDi z z z z), hI307⟩⟩
 rintro D r wd309 ⟨G305, hG306, hReg308, hI307⟩ hDi hpre hpost
 obtain ⟨r0, rfl⟩ := Has.ex (cC (hReg308.get 34 rfl (hpre 34 rfl)) cN)
 exact wN (gN z z z z z)<|nl ⟨z, ⟨_, hG306, (Regs.step hReg308 hDi z z z z), hI307⟩⟩
 rintro D r wd309 ⟨G305, hG306, hReg308, hI307⟩ hDi hpre hpost
 obtain ⟨r0, rfl⟩ := Has.ex (cC (hReg308.get 34 rfl (hpre 34 rfl)) cN)
 exact wN (gN z z z z z)<|nl ⟨z, ⟨_, hG306, (Regs.step hReg308 hDi z z z z), hI307⟩⟩
 rintro D r wd309 ⟨G305, hG306, hReg308, hI307⟩ hDi hpre hpost
 obtain ⟨r0, rfl⟩ := Has.ex (cC (hReg308.get 34 rfl (hpre 34 rfl)) cN)
 exact wN (gN z z z z z)<|nl ⟨z, ⟨_, hG306, (Regs.step hReg308 hDi z z z z), hI307⟩⟩
 rintro D r wd309 ⟨G305, hG306, hReg308, hI307⟩ hDi hpre hpost
 obtain ⟨r0, rfl⟩ := Has.ex (cC (hReg308.get 34 rfl (hpre 34 rfl)) cN)
 exact wN (gN z z z z z)<|nl ⟨z, ⟨_, hG306, (Regs.step hReg308 hDi z z z z), hI307⟩⟩
 rintro D r wd309 ⟨G305, hG306, hReg308, hI307⟩ hDi hpre hpost
 obtain ⟨r0, rfl⟩ := Has.ex (cC (hReg308.get 31 rfl (hpre 31 rfl)) cN)
 exact wN (gN z z z z z)<|nl ⟨z, ⟨_, hG306, (Regs.step hReg308 hDi z z z z), hI307⟩⟩
 rintro D r wd309 ⟨G305, hG306, hReg308, hI307⟩ hDi hpre hpost
 obtain ⟨r0, rfl⟩ := Has.ex (cC (hReg308.get 31 rfl (hpre 31 rfl)) (cC (hReg308.get 44 rfl (hpre 44 rfl)) cN))
 exact pkt z z<|nl ⟨z, ⟨_, hG306, (Regs.step hReg308 hDi z z z z), hI307⟩⟩
 intro D r wd309 hall hR
 obtain ⟨G305, hG306, hReg308, hI307⟩ := hR
 obtain ⟨r0, rfl⟩ := Has.ex (cC (hReg308.ins.get 0 rfl) (cC (hReg308.ins.get 2 rfl) (cC (hReg308.ins.get 3 rfl) (cC (hReg308.ins.get 4 rfl) (cC (hReg308.get 45 rfl (hall 45 (Nat.le_of_ble_eq_true rfl))) cN)))))
 cases H
 exact je ⟨z, z, z, z, z, tv⟩ (Hp.low hG306 hI307)
 refine nK h304 H fun H=>bK H fun y314 hy499 H=>dC ((!y314) = true) (fun h510=>?_) fun h510=>?_
 refine yK h510 H fun H=>?_
 refine wpc_drawL [0, 1, 3, 7, 15, 31, 63, 127, 255, 511, 1023, 2047, 4095, 2047, 10239, 32767, 65535, 131071, 262143, 524287, 1048575, 2097151, 4194303, 8388607, 16777215, 33554431, 67108863, 134217727, 268435455, 536870911, 1073741823, 2147483647, 4294967295, 8589934591, 17179869183, 34359738367, 68719476735, 34359738367, 34359738367, 309237645311, 996432412671, 2095944040447, 4294967295999, 8796093022207, 17592186044415, 35184372088831] (fun D r w => (∃ (G' : Gh), G ≤ G' ∧ Regs [(0, slice A2 a1.length c3), (6, pointer (some ⟨g72, 0, none⟩)), (17, slice A2 a1.length c3), (18, int .i64 (a1.length : Int)), (19, int .i64 v35)] [] [(0, 24, pointer (some ⟨g72, 0, none⟩)), (1, 25, int .i64 ((a1.getD (Int.toNat v35) z_api_Slice).Node)), (2, 26, bool y108), (3, 27, bool (!y108)), (4, 28, bool (!y108)), (5, 29, pointer (some ⟨g72, 1, none⟩)), (6, 30, int .i64 ((a1.getD (Int.toNat v35) z_api_Slice).Table)), (7, 31, bool y314), (8, 32, bool (!y314)), (9, 33, bool (!y314)), (10, 34, bool (!y314)), (11, 35, undef), (12, 36, undef), (13, 37, undef), (14, 38, undef), (15, 39, undef), (16, 40, undef), (17, 41, undef), (18, 42, bool true), (19, 43, bool true), (20, 44, undef), (21, 45, undef), (22, 46, undef), (23, 47, undef), (24, 48, bool true), (25, 49, bool true), (26, 50, undef), (27, 51, undef), (28, 52, undef), (29, 53, undef), (30, 54, bool true), (31, 55, bool true), (32, 56, undef), (33, 57, undef), (34, 58, undef), (35, 59, undef), (36, 60, undef), (37, 61, undef), (38, 62, undef), (39, 63, undef), (40, 64, undef), (41, 65, undef), (42, 66, undef), (43, 67, undef), (44, 68, undef), (45, 69, bool true)] D r ∧ Hp G' (bx g72 [int .i64 ((a1.getD (Int.toNat v35) z_api_Slice).Node), int .i64 ((a1.getD (Int.toNat v35) z_api_Slice).Table), int .i64 ((a1.getD (Int.toNat v35) z_api_Slice).X), int .i64 ((a1.getD (Int.toNat v35) z_api_Slice).Y), int .i64 ((a1.getD (Int.toNat v35) z_api_Slice).H), string ((a1.getD (Int.toNat v35) z_api_Slice).Text), bool ((a1.getD (Int.toNat v35) z_api_Slice).Head), bool ((a1.getD (Int.toNat v35) z_api_Slice).Note)] 36 :: L) w)) mixo z z ?_ ?_ ?_
 exact ⟨_, Gh.le_refl _, Regs.start ⟨z, z, z, z, z, tv⟩ trivial, hI76.drew⟩
 refine ⟨?_, ?_, ?_, ?_, ?_, ?_, ?_, ?_, ?_, ?_, ?_, ?_, ?_, ?_, ?_, ?_, ?_, ?_, ?_, ?_, ?_, ?_, ?_, ?_, ?_, ?_, ?_, ?_, ?_, ?_, ?_, ?_, ?_, ?_, ?_, ?_, ?_, ?_, ?_, ?_, ?_, ?_, ?_, ?_, ?_, ?_, tv⟩
 rintro D r wd515 ⟨G511, hG512, hReg514, hI513⟩ hDi hpre hpost
 obtain ⟨r0, rfl⟩ := Has.ex (cC (hReg514.ins.get 1 rfl) cN)
 exact fa fl36_0 z<|nl ⟨z, ⟨_, hG512, (Regs.step hReg514 hDi z z z z), hI513⟩⟩
 rintro D r wd515 ⟨G511, hG512, hReg514, hI513⟩ hDi hpre hpost
 obtain ⟨r0, rfl⟩ := Has.ex (cC (hReg514.get 0 rfl (hpre 0 rfl)) cN)
 exact ld hI513 0 ag3 z z z<|nl ⟨z, ⟨_, hG512, (Regs.step hReg514 hDi z z z z), hI513⟩⟩
 rintro D r wd515 ⟨G511, hG512, hReg514, hI513⟩ hDi hpre hpost
 obtain ⟨r0, rfl⟩ := Has.ex (cC (hReg514.get 1 rfl (hpre 1 rfl)) cN)
 exact cv bo36 (pages_within_spec hy293 hI513) z z fun wd106 hI107=>nl ⟨z, ⟨_, hG512, (Regs.step hReg514 hDi z z z z), hI107⟩⟩
 rintro D r wd515 ⟨G511, hG512, hReg514, hI513⟩ hDi hpre hpost
 obtain ⟨r0, rfl⟩ := Has.ex (cC (hReg514.get 2 rfl (hpre 2 rfl)) cN)
 exact q_not z<|nl ⟨z, ⟨_, hG512, (Regs.step hReg514 hDi z z z z), hI513⟩⟩
 rintro D r wd515 ⟨G511, hG512, hReg514, hI513⟩ hDi hpre hpost
 obtain ⟨r0, rfl⟩ := Has.ex (cC (hReg514.get 3 rfl (hpre 3 rfl)) cN)
 exact mv z<|nl ⟨z, ⟨_, hG512, (Regs.step hReg514 hDi z z z z), hI513⟩⟩
 rintro D r wd515 ⟨G511, hG512, hReg514, hI513⟩ hDi hpre hpost
 obtain ⟨r0, rfl⟩ := Has.ex (cC (hReg514.ins.get 1 rfl) (cC (hReg514.get 4 rfl (hpre 4 rfl)) cN))
 exact fa (hw:=gY z z z (vN h304)) fl36_1 z<|nl ⟨z, ⟨_, hG512, (Regs.step hReg514 hDi z z z z), hI513⟩⟩
 rintro D r wd515 ⟨G511, hG512, hReg514, hI513⟩ hDi hpre hpost
 obtain ⟨r0, rfl⟩ := Has.ex (cC (hReg514.get 4 rfl (hpre 4 rfl)) (cC (hReg514.get 5 rfl (hpre 5 rfl)) cN))
 exact ld (hw:=gY z z z (vN h304)) hI513 0 ag3 z z z<|nl ⟨z, ⟨_, hG512, (Regs.step hReg514 hDi z z z z), hI513⟩⟩
 rintro D r wd515 ⟨G511, hG512, hReg514, hI513⟩ hDi hpre hpost
 obtain ⟨r0, rfl⟩ := Has.ex (cC (hReg514.get 4 rfl (hpre 4 rfl)) (cC (hReg514.get 6 rfl (hpre 6 rfl)) cN))
 exact cv (hw:=gY z z z (vN h304)) bo36 (pages_within_spec hy499 hI513) z z fun wd312 hI313=>nl ⟨z, ⟨_, hG512, (Regs.step hReg514 hDi z z z z), hI313⟩⟩
 rintro D r wd515 ⟨G511, hG512, hReg514, hI513⟩ hDi hpre hpost
 obtain ⟨r0, rfl⟩ := Has.ex (cC (hReg514.get 4 rfl (hpre 4 rfl)) (cC (hReg514.get 7 rfl (hpre 7 rfl)) cN))
 exact q_not (hw:=gY z z z (vN h304)) z<|nl ⟨z, ⟨_, hG512, (Regs.step hReg514 hDi z z z z), hI513⟩⟩
 rintro D r wd515 ⟨G511, hG512, hReg514, hI513⟩ hDi hpre hpost
 obtain ⟨r0, rfl⟩ := Has.ex (cC (hReg514.get 4 rfl (hpre 4 rfl)) (cC (hReg514.get 8 rfl (hpre 8 rfl)) cN))
 exact pkf (vN h304) z<|nl ⟨z, ⟨_, hG512, (Regs.step hReg514 hDi z z z z), hI513⟩⟩
 rintro D r wd515 ⟨G511, hG512, hReg514, hI513⟩ hDi hpre hpost
 obtain ⟨r0, rfl⟩ := Has.ex (cC (hReg514.get 9 rfl (hpre 9 rfl)) cN)
 exact mv z<|nl ⟨z, ⟨_, hG512, (Regs.step hReg514 hDi z z z z), hI513⟩⟩
 rintro D r wd515 ⟨G511, hG512, hReg514, hI513⟩ hDi hpre hpost
 obtain ⟨r0, rfl⟩ := Has.ex (cC (hReg514.get 10 rfl (hpre 10 rfl)) cN)
 exact wN (gN z z z (vY h510) z)<|nl ⟨z, ⟨_, hG512, (Regs.step hReg514 hDi z z z z), hI513⟩⟩
 rintro D r wd515 ⟨G511, hG512, hReg514, hI513⟩ hDi hpre hpost
 obtain ⟨r0, rfl⟩ := Has.ex (cC (hReg514.get 10 rfl (hpre 10 rfl)) cN)
 exact wN (gN z z z (vY h510) z)<|nl ⟨z, ⟨_, hG512, (Regs.step hReg514 hDi z z z z), hI513⟩⟩
 rintro D r wd515 ⟨G511, hG512, hReg514, hI513⟩ hDi hpre hpost
 obtain ⟨r0, rfl⟩ := Has.ex (cC (hReg514.get 10 rfl (hpre 10 rfl)) cN)
 exact wN (gN z z z (vY h510) z)<|nl ⟨z, ⟨_, hG512, (Regs.step hReg514 hDi z z z z), hI513⟩⟩
 rintro D r wd515 ⟨G511, hG512, hReg514, hI513⟩ hDi hpre hpost
 obtain ⟨r0, rfl⟩ := Has.ex (cC (hReg514.get 10 rfl (hpre 10 rfl)) cN)
 exact wN (gN z z z (vY h510) z)<|nl ⟨z, ⟨_, hG512, (Regs.step hReg514 hDi z z z z), hI513⟩⟩
 rintro D r wd515 ⟨G511, hG512, hReg514, hI513⟩ hDi hpre hpost
 obtain ⟨r0, rfl⟩ := Has.ex (cC (hReg514.get 10 rfl (hpre 10 rfl)) cN)
 exact wN (gN z z z (vY h510) z)<|nl ⟨z, ⟨_, hG512, (Regs.step hReg514 hDi z z z z), hI513⟩⟩
 rintro D r wd515 ⟨G511, hG512, hReg514, hI513⟩ hDi hpre hpost
 obtain ⟨r0, rfl⟩ := Has.ex (cC (hReg514.get 10 rfl (hpre 10 rfl)) cN)
 exact wN (gN z z z (vY h510) z)<|nl ⟨z, ⟨_, hG512, (Regs.step hReg514 hDi z z z z), hI513⟩⟩
 rintro D r wd515 ⟨G511, hG512, hReg514, hI513⟩ hDi hpre hpost
 obtain ⟨r0, rfl⟩ := Has.ex (cC (hReg514.get 10 rfl (hpre 10 rfl)) cN)
 exact wN (gN z z z (vY h510) z)<|nl ⟨z, ⟨_, hG512, (Regs.step hReg514 hDi z z z z), hI513⟩⟩
 rintro D r wd515 ⟨G511, hG512, hReg514, hI513⟩ hDi hpre hpost
 obtain ⟨r0, rfl⟩ := Has.ex (cC (hReg514.get 10 rfl (hpre 10 rfl)) (cC (hReg514.get 17 rfl (hpre 17 rfl)) cN))
 exact pkt (vY h510) z<|nl ⟨z, ⟨_, hG512, (Regs.step hReg514 hDi z z z z), hI513⟩⟩
 rintro D r wd515 ⟨G511, hG512, hReg514, hI513⟩ hDi hpre hpost
 obtain ⟨r0, rfl⟩ := Has.ex (cC (hReg514.get 18 rfl (hpre 18 rfl)) cN)
 exact mv z<|nl ⟨z, ⟨_, hG512, (Regs.step hReg514 hDi z z z z), hI513⟩⟩
 rintro D r wd515 ⟨G511, hG512, hReg514, hI513⟩ hDi hpre hpost
 obtain ⟨r0, rfl⟩ := Has.ex (cC (hReg514.get 19 rfl (hpre 19 rfl)) cN)
 exact wN (gN z z z z z)<|nl ⟨z, ⟨_, hG512, (Regs.step hReg514 hDi z z z z), hI513⟩⟩
 rintro D r wd515 ⟨G511, hG512, hReg514, hI513⟩ hDi hpre hpost
 obtain ⟨r0, rfl⟩ := Has.ex (cC (hReg514.get 19 rfl (hpre 19 rfl)) cN)
 exact wN (gN z z z z z)<|nl ⟨z, ⟨_, hG512, (Regs.step hReg514 hDi z z z z), hI513⟩⟩
 rintro D r wd515 ⟨G511, hG512, hReg514, hI513⟩ hDi hpre hpost
 obtain ⟨r0, rfl⟩ := Has.ex (cC (hReg514.get 19 rfl (hpre 19 rfl)) cN)
 exact wN (gN z z z z z)<|nl ⟨z, ⟨_, hG512, (Regs.step hReg514 hDi z z z z), hI513⟩⟩
 rintro D r wd515 ⟨G511, hG512, hReg514, hI513⟩ hDi hpre hpost
 obtain ⟨r0, rfl⟩ := Has.ex (cC (hReg514.get 19 rfl (hpre 19 rfl)) cN)
 exact wN (gN z z z z z)<|nl ⟨z, ⟨_, hG512, (Regs.step hReg514 hDi z z z z), hI513⟩⟩
 rintro D r wd515 ⟨G511, hG512, hReg514, hI513⟩ hDi hpre hpost
 obtain ⟨r0, rfl⟩ := Has.ex (cC (hReg514.get 19 rfl (hpre 19 rfl)) (cC (hReg514.get 23 rfl (hpre 23 rfl)) cN))
 exact pkt z z<|nl ⟨z, ⟨_, hG512, (Regs.step hReg514 hDi z z z z), hI513⟩⟩
 rintro D r wd515 ⟨G511, hG512, hReg514, hI513⟩ hDi hpre hpost
 obtain ⟨r0, rfl⟩ := Has.ex (cC (hReg514.get 24 rfl (hpre 24 rfl)) cN)
 exact mv z<|nl ⟨z, ⟨_, hG512, (Regs.step hReg514 hDi z z z z), hI513⟩⟩
 rintro D r wd515 ⟨G511, hG512, hReg514, hI513⟩ hDi hpre hpost
 obtain ⟨r0, rfl⟩ := Has.ex (cC (hReg514.get 25 rfl (hpre 25 rfl)) cN)
 exact wN (gN z z z z z)<|nl ⟨z, ⟨_, hG512, (Regs.step hReg514 hDi z z z z), hI513⟩⟩
 rintro D r wd515 ⟨G511, hG512, hReg514, hI513⟩ hDi hpre hpost
 obtain ⟨r0, rfl⟩ := Has.ex (cC (hReg514.get 25 rfl (hpre 25 rfl)) cN)
 exact wN (gN z z z z z)<|nl ⟨z, ⟨_, hG512, (Regs.step hReg514 hDi z z z z), hI513⟩⟩
 rintro D r wd515 ⟨G511, hG512, hReg514, hI513⟩ hDi hpre hpost
 obtain ⟨r0, rfl⟩ := Has.ex (cC (hReg514.get 25 rfl (hpre 25 rfl)) cN)
 exact wN (gN z z z z z)<|nl ⟨z, ⟨_, hG512, (Regs.step hReg514 hDi z z z z), hI513⟩⟩
 rintro D r wd515 ⟨G511, hG512, hReg514, hI513⟩ hDi hpre hpost
 obtain ⟨r0, rfl⟩ := Has.ex (cC (hReg514.get 25 rfl (hpre 25 rfl)) cN)
 exact wN (gN z z z z z)<|nl ⟨z, ⟨_, hG512, (Regs.step hReg514 hDi z z z z), hI513⟩⟩
 rintro D r wd515 ⟨G511, hG512, hReg514, hI513⟩ hDi hpre hpost
 obtain ⟨r0, rfl⟩ := Has.ex (cC (hReg514.get 25 rfl (hpre 25 rfl)) (cC (hReg514.get 29 rfl (hpre 29 rfl)) cN))
 exact pkt z z<|nl ⟨z, ⟨_, hG512, (Regs.step hReg514 hDi z z z z), hI513⟩⟩
 rintro D r wd515 ⟨G511, hG512, hReg514, hI513⟩ hDi hpre hpost
 obtain ⟨r0, rfl⟩ := Has.ex (cC (hReg514.get 30 rfl (hpre 30 rfl)) cN)
 exact mv z<|nl ⟨z, ⟨_, hG512, (Regs.step hReg514 hDi z z z z), hI513⟩⟩
 rintro D r wd515 ⟨G511, hG512, hReg514, hI513⟩ hDi hpre hpost
 obtain ⟨r0, rfl⟩ := Has.ex (cC (hReg514.get 31 rfl (hpre 31 rfl)) cN)
 exact wN (gN z z z z z)<|nl ⟨z, ⟨_, hG512, (Regs.step hReg514 hDi z z z z), hI513⟩⟩
 rintro D r wd515 ⟨G511, hG512, hReg514, hI513⟩ hDi hpre hpost
 obtain ⟨r0, rfl⟩ := Has.ex (cC (hReg514.get 31 rfl (hpre 31 rfl)) cN)
 exact wN (gN z z z z z)<|nl ⟨z, ⟨_, hG512, (Regs.step hReg514 hDi z z z z), hI513⟩⟩
 rintro D r wd515 ⟨G511, hG512, hReg514, hI513⟩ hDi hpre hpost
 obtain ⟨r0, rfl⟩ := Has.ex (cC (hReg514.get 31 rfl (hpre 31 rfl)) cN)
 exact wN (gN z z z z z)<|nl ⟨z, ⟨_, hG512, (Regs.step hReg514 hDi z z z z), hI513⟩⟩
 rintro D r wd515 ⟨G511, hG512, hReg514, hI513⟩ hDi hpre hpost
 obtain ⟨r0, rfl⟩ := Has.ex (cC (hReg514.get 34 rfl (hpre 34 rfl)) cN)
 exact wN (gN z z z z z)<|nl ⟨z, ⟨_, hG512, (Regs.step hReg514 hDi z z z z), hI513⟩⟩
 rintro D r wd515 ⟨G511, hG512, hReg514, hI513⟩ hDi hpre hpost
 obtain ⟨r0, rfl⟩ := Has.ex (cC (hReg514.get 34 rfl (hpre 34 rfl)) cN)
 exact wN (gN z z z z z)<|nl ⟨z, ⟨_, hG512, (Regs.step hReg514 hDi z z z z), hI513⟩⟩
 rintro D r wd515 ⟨G511, hG512, hReg514, hI513⟩ hDi hpre hpost
 obtain ⟨r0, rfl⟩ := Has.ex (cC (hReg514.get 34 rfl (hpre 34 rfl)) cN)
 exact wN (gN z z z z z)<|nl ⟨z, ⟨_, hG512, (Regs.step hReg514 hDi z z z z), hI513⟩⟩
 rintro D r wd515 ⟨G511, hG512, hReg514, hI513⟩ hDi hpre hpost
 obtain ⟨r0, rfl⟩ := Has.ex (cC (hReg514.get 34 rfl (hpre 34 rfl)) cN)
 exact wN (gN z z z z z)<|nl ⟨z, ⟨_, hG512, (Regs.step hReg514 hDi z z z z), hI513⟩⟩
 rintro D r wd515 ⟨G511, hG512, hReg514, hI513⟩ hDi hpre hpost
 obtain ⟨r0, rfl⟩ := Has.ex (cC (hReg514.get 34 rfl (hpre 34 rfl)) cN)
 exact wN (gN z z z z z)<|nl ⟨z, ⟨_, hG512, (Regs.step hReg514 hDi z z z z), hI513⟩⟩
 rintro D r wd515 ⟨G511, hG512, hReg514, hI513⟩ hDi hpre hpost
 obtain ⟨r0, rfl⟩ := Has.ex (cC (hReg514.get 34 rfl (hpre 34 rfl)) cN)
 exact wN (gN z z z z z)<|nl ⟨z, ⟨_, hG512, (Regs.step hReg514 hDi z z z z), hI513⟩⟩
 rintro D r wd515 ⟨G511, hG512, hReg514, hI513⟩ hDi hpre hpost
 obtain ⟨r0, rfl⟩ := Has.ex (cC (hReg514.get 34 rfl (hpre 34 rfl)) cN)
 exact wN (gN z z z z z)<|nl ⟨z, ⟨_, hG512, (Regs.step hReg514 hDi z z z z), hI513⟩⟩
 rintro D r wd515 ⟨G511, hG512, hReg514, hI513⟩ hDi hpre hpost
 obtain ⟨r0, rfl⟩ := Has.ex (cC (hReg514.get 34 rfl (hpre 34 rfl)) cN)
 exact wN (gN z z z z z)<|nl ⟨z, ⟨_, hG512, (Regs.step hReg514 hDi z z z z), hI513⟩⟩
 rintro D r wd515 ⟨G511, hG512, hReg514, hI513⟩ hDi hpre hpost
 obtain ⟨r0, rfl⟩ := Has.ex (cC (hReg514.get 34 rfl (hpre 34 rfl)) cN)
 exact wN (gN z z z z z)<|nl ⟨z, ⟨_, hG512, (Regs.step hReg514 hDi z z z z), hI513⟩⟩
 rintro D r wd515 ⟨G511, hG512, hReg514, hI513⟩ hDi hpre hpost
 obtain ⟨r0, rfl⟩ := Has.ex (cC (hReg514.get 31 rfl (hpre 31 rfl)) cN)
 exact wN (gN z z z z z)<|nl ⟨z, ⟨_, hG512, (Regs.step hReg514 hDi z z z z), hI513⟩⟩
 rintro D r wd515 ⟨G511, hG512, hReg514, hI513⟩ hDi hpre hpost
 obtain ⟨r0, rfl⟩ := Has.ex (cC (hReg514.get 31 rfl (hpre 31 rfl)) (cC (hReg514.get 44 rfl (hpre 44 rfl)) cN))
 exact pkt z z<|nl ⟨z, ⟨_, hG512, (Regs.step hReg514 hDi z z z z), hI513⟩⟩
 intro D r wd515 hall hR
 obtain ⟨G511, hG512, hReg514, hI513⟩ := hR
 obtain ⟨r0, rfl⟩ := Has.ex (cC (hReg514.ins.get 0 rfl) (cC (hReg514.ins.get 2 rfl) (cC (hReg514.ins.get 3 rfl) (cC (hReg514.ins.get 4 rfl) (cC (hReg514.get 5 rfl (hall 5 (Nat.le_of_ble_eq_true rfl))) (cC (hReg514.get 6 rfl (hall 6 (Nat.le_of_ble_eq_true rfl))) (cC (hReg514.get 7 rfl (hall 7 (Nat.le_of_ble_eq_true rfl))) (cC (hReg514.get 8 rfl (hall 8 (Nat.le_of_ble_eq_true rfl))) (cC (hReg514.get 45 rfl (hall 45 (Nat.le_of_ble_eq_true rfl))) cN)))))))))
 cases H
 exact je ⟨z, z, z, z, z, tv⟩ (Hp.low hG512 hI513)
 refine nK h510 H fun H=>bK H fun y528 hy713 H=>dC ((!y528) = true) (fun h724=>?_) fun h724=>?_
 refine yK h724 H fun H=>?_
 refine wpc_drawL [0, 1, 3, 7, 15, 31, 63, 127, 255, 511, 1023, 2047, 4095, 2047, 10239, 32767, 65535, 131071, 262143, 524287, 1048575, 2097151, 4194303, 8388607, 16777215, 33554431, 67108863, 134217727, 268435455, 536870911, 1073741823, 2147483647, 4294967295, 8589934591, 17179869183, 34359738367, 68719476735, 34359738367, 34359738367, 309237645311, 996432412671, 2095944040447, 4294967295999, 8796093022207, 17592186044415, 35184372088831] (fun D r w => (D 15 = false ∧ ∃ (G' : Gh), G ≤ G' ∧ Regs [(0, slice A2 a1.length c3), (6, pointer (some ⟨g72, 0, none⟩)), (17, slice A2 a1.length c3), (18, int .i64 (a1.length : Int)), (19, int .i64 v35)] [] [(0, 24, pointer (some ⟨g72, 0, none⟩)), (1, 25, int .i64 ((a1.getD (Int.toNat v35) z_api_Slice).Node)), (2, 26, bool y108), (3, 27, bool (!y108)), (4, 28, bool (!y108)), (5, 29, pointer (some ⟨g72, 1, none⟩)), (6, 30, int .i64 ((a1.getD (Int.toNat v35) z_api_Slice).Table)), (7, 31, bool y314), (8, 32, bool (!y314)), (9, 33, bool (!y314)), (10, 34, bool (!y314)), (11, 35, pointer (some ⟨g72, 2, none⟩)), (12, 36, int .i64 ((a1.getD (Int.toNat v35) z_api_Slice).X)), (13, 37, pointer (some ⟨g72, 3, none⟩)), (14, 38, int .i64 ((a1.getD (Int.toNat v35) z_api_Slice).Y))] D r ∧ Hp G' (bx g72 [int .i64 ((a1.getD (Int.toNat v35) z_api_Slice).Node), int .i64 ((a1.getD (Int.toNat v35) z_api_Slice).Table), int .i64 ((a1.getD (Int.toNat v35) z_api_Slice).X), int .i64 ((a1.getD (Int.toNat v35) z_api_Slice).Y), int .i64 ((a1.getD (Int.toNat v35) z_api_Slice).H), string ((a1.getD (Int.toNat v35) z_api_Slice).Text), bool ((a1.getD (Int.toNat v35) z_api_Slice).Head), bool ((a1.getD (Int.toNat v35) z_api_Slice).Note)] 36 :: L) w) ∨ (D 15 = true ∧ ∃ (g517 : Nat) (G' : Gh), G ≤ G' ∧ Dat (Kd.int .i64) G' (some ⟨g517, 0, none⟩) ([(a1.getD (Int.toNat v35) z_api_Slice).X, (a1.getD (Int.toNat v35) z_api_Slice).Y] : List Int) ∧ Regs [(0, slice A2 a1.length c3), (6, pointer (some ⟨g72, 0, none⟩)), (17, slice A2 a1.length c3), (18, int .i64 (a1.length : Int)), (19, int .i64 v35)] [] [(0, 24, pointer (some ⟨g72, 0, none⟩)), (1, 25, int .i64 ((a1.getD (Int.toNat v35) z_api_Slice).Node)), (2, 26, bool y108), (3, 27, bool (!y108)), (4, 28, bool (!y108)), (5, 29, pointer (some ⟨g72, 1, none⟩)), (6, 30, int .i64 ((a1.getD (Int.toNat v35) z_api_Slice).Table)), (7, 31, bool y314), (8, 32, bool (!y314)), (9, 33, bool (!y314)), (10, 34, bool (!y314)), (11, 35, pointer (some ⟨g72, 2, none⟩)), (12, 36, int .i64 ((a1.getD (Int.toNat v35) z_api_Slice).X)), (13, 37, pointer (some ⟨g72, 3, none⟩)), (14, 38, int .i64 ((a1.getD (Int.toNat v35) z_api_Slice).Y)), (15, 39, slice (some ⟨g517, 0, none⟩) ([(a1.getD (Int.toNat v35) z_api_Slice).X, (a1.getD (Int.toNat v35) z_api_Slice).Y] : List Int).length 2), (16, 40, bool y528), (17, 41, bool (!y528)), (18, 42, bool (!y528)), (19, 43, bool (!y528)), (20, 44, undef), (21, 45, undef), (22, 46, undef), (23, 47, undef), (24, 48, bool true), (25, 49, bool true), (26, 50, undef), (27, 51, undef), (28, 52, undef), (29, 53, undef), (30, 54, bool true), (31, 55, bool true), (32, 56, undef), (33, 57, undef), (34, 58, undef), (35, 59, undef), (36, 60, undef), (37, 61, undef), (38, 62, undef), (39, 63, undef), (40, 64, undef), (41, 65, undef), (42, 66, undef), (43, 67, undef), (44, 68, undef), (45, 69, bool true)] D r ∧ Hp G' (tk (slice (some ⟨g517, 0, none⟩) ([(a1.getD (Int.toNat v35) z_api_Slice).X, (a1.getD (Int.toNat v35) z_api_Slice).Y] : List Int).length 2) 1 3 :: bx g72 [int .i64 ((a1.getD (Int.toNat v35) z_api_Slice).Node), int .i64 ((a1.getD (Int.toNat v35) z_api_Slice).Table), int .i64 ((a1.getD (Int.toNat v35) z_api_Slice).X), int .i64 ((a1.getD (Int.toNat v35) z_api_Slice).Y), int .i64 ((a1.getD (Int.toNat v35) z_api_Slice).H), string ((a1.getD (Int.toNat v35) z_api_Slice).Text), bool ((a1.getD (Int.toNat v35) z_api_Slice).Head), bool ((a1.getD (Int.toNat v35) z_api_Slice).Note)] 36 :: L) w)) mixo z z ?_ ?_ ?_
 exact (.inl ⟨z, _, Gh.le_refl _, Regs.start ⟨z, z, z, z, z, tv⟩ trivial, hI76.drew⟩)
 refine ⟨?_, ?_, ?_, ?_, ?_, ?_, ?_, ?_, ?_, ?_, ?_, ?_, ?_, ?_, ?_, ?_, ?_, ?_, ?_, ?_, ?_, ?_, ?_, ?_, ?_, ?_, ?_, ?_, ?_, ?_, ?_, ?_, ?_, ?_, ?_, ?_, ?_, ?_, ?_, ?_, ?_, ?_, ?_, ?_, ?_, ?_, tv⟩
 rintro D r wd729 (⟨hd2, G725, hG726, hReg728, hI727⟩ | ⟨hd1, g517, G725, hG726, hD522, hReg728, hI727⟩) hDi hpre hpost
 obtain ⟨r0, rfl⟩ := Has.ex (cC (hReg728.ins.get 1 rfl) cN)
 exact fa fl36_0 z<|nl ⟨z, (.inl ⟨hd2, _, hG726, (Regs.step hReg728 hDi z z z z), hI727⟩)⟩
 cases (hpost 15 rfl).symm.trans hd1
 rintro D r wd729 (⟨hd2, G725, hG726, hReg728, hI727⟩ | ⟨hd1, g517, G725, hG726, hD522, hReg728, hI727⟩) hDi hpre hpost
 obtain ⟨r0, rfl⟩ := Has.ex (cC (hReg728.get 0 rfl (hpre 0 rfl)) cN)
 exact ld hI727 0 ag3 z z z<|nl ⟨z, (.inl ⟨hd2, _, hG726, (Regs.step hReg728 hDi z z z z), hI727⟩)⟩
 cases (hpost 15 rfl).symm.trans hd1
 rintro D r wd729 (⟨hd2, G725, hG726, hReg728, hI727⟩ | ⟨hd1, g517, G725, hG726, hD522, hReg728, hI727⟩) hDi hpre hpost
 obtain ⟨r0, rfl⟩ := Has.ex (cC (hReg728.get 1 rfl (hpre 1 rfl)) cN)
 exact cv bo36 (pages_within_spec hy293 hI727) z z fun wd106 hI107=>nl ⟨z, (.inl ⟨hd2, _, hG726, (Regs.step hReg728 hDi z z z z), hI107⟩)⟩
 cases (hpost 15 rfl).symm.trans hd1
 rintro D r wd729 (⟨hd2, G725, hG726, hReg728, hI727⟩ | ⟨hd1, g517, G725, hG726, hD522, hReg728, hI727⟩) hDi hpre hpost
 obtain ⟨r0, rfl⟩ := Has.ex (cC (hReg728.get 2 rfl (hpre 2 rfl)) cN)
 exact q_not z<|nl ⟨z, (.inl ⟨hd2, _, hG726, (Regs.step hReg728 hDi z z z z), hI727⟩)⟩
 cases (hpost 15 rfl).symm.trans hd1
 rintro D r wd729 (⟨hd2, G725, hG726, hReg728, hI727⟩ | ⟨hd1, g517, G725, hG726, hD522, hReg728, hI727⟩) hDi hpre hpost
 obtain ⟨r0, rfl⟩ := Has.ex (cC (hReg728.get 3 rfl (hpre 3 rfl)) cN)
 exact mv z<|nl ⟨z, (.inl ⟨hd2, _, hG726, (Regs.step hReg728 hDi z z z z), hI727⟩)⟩
 cases (hpost 15 rfl).symm.trans hd1
 rintro D r wd729 (⟨hd2, G725, hG726, hReg728, hI727⟩ | ⟨hd1, g517, G725, hG726, hD522, hReg728, hI727⟩) hDi hpre hpost
 obtain ⟨r0, rfl⟩ := Has.ex (cC (hReg728.ins.get 1 rfl) (cC (hReg728.get 4 rfl (hpre 4 rfl)) cN))
 exact fa (hw:=gY z z z (vN h304)) fl36_1 z<|nl ⟨z, (.inl ⟨hd2, _, hG726, (Regs.step hReg728 hDi z z z z), hI727⟩)⟩
 cases (hpost 15 rfl).symm.trans hd1
 rintro D r wd729 (⟨hd2, G725, hG726, hReg728, hI727⟩ | ⟨hd1, g517, G725, hG726, hD522, hReg728, hI727⟩) hDi hpre hpost
 obtain ⟨r0, rfl⟩ := Has.ex (cC (hReg728.get 4 rfl (hpre 4 rfl)) (cC (hReg728.get 5 rfl (hpre 5 rfl)) cN))
 exact ld (hw:=gY z z z (vN h304)) hI727 0 ag3 z z z<|nl ⟨z, (.inl ⟨hd2, _, hG726, (Regs.step hReg728 hDi z z z z), hI727⟩)⟩
 cases (hpost 15 rfl).symm.trans hd1
 rintro D r wd729 (⟨hd2, G725, hG726, hReg728, hI727⟩ | ⟨hd1, g517, G725, hG726, hD522, hReg728, hI727⟩) hDi hpre hpost
 obtain ⟨r0, rfl⟩ := Has.ex (cC (hReg728.get 4 rfl (hpre 4 rfl)) (cC (hReg728.get 6 rfl (hpre 6 rfl)) cN))
 exact cv (hw:=gY z z z (vN h304)) bo36 (pages_within_spec hy499 hI727) z z fun wd312 hI313=>nl ⟨z, (.inl ⟨hd2, _, hG726, (Regs.step hReg728 hDi z z z z), hI313⟩)⟩
 cases (hpost 15 rfl).symm.trans hd1
 rintro D r wd729 (⟨hd2, G725, hG726, hReg728, hI727⟩ | ⟨hd1, g517, G725, hG726, hD522, hReg728, hI727⟩) hDi hpre hpost
 obtain ⟨r0, rfl⟩ := Has.ex (cC (hReg728.get 4 rfl (hpre 4 rfl)) (cC (hReg728.get 7 rfl (hpre 7 rfl)) cN))
 exact q_not (hw:=gY z z z (vN h304)) z<|nl ⟨z, (.inl ⟨hd2, _, hG726, (Regs.step hReg728 hDi z z z z), hI727⟩)⟩
 cases (hpost 15 rfl).symm.trans hd1
 rintro D r wd729 (⟨hd2, G725, hG726, hReg728, hI727⟩ | ⟨hd1, g517, G725, hG726, hD522, hReg728, hI727⟩) hDi hpre hpost
 obtain ⟨r0, rfl⟩ := Has.ex (cC (hReg728.get 4 rfl (hpre 4 rfl)) (cC (hReg728.get 8 rfl (hpre 8 rfl)) cN))
 exact pkf (vN h304) z<|nl ⟨z, (.inl ⟨hd2, _, hG726, (Regs.step hReg728 hDi z z z z), hI727⟩)⟩
 cases (hpost 15 rfl).symm.trans hd1
 rintro D r wd729 (⟨hd2, G725, hG726, hReg728, hI727⟩ | ⟨hd1, g517, G725, hG726, hD522, hReg728, hI727⟩) hDi hpre hpost
 obtain ⟨r0, rfl⟩ := Has.ex (cC (hReg728.get 9 rfl (hpre 9 rfl)) cN)
 exact mv z<|nl ⟨z, (.inl ⟨hd2, _, hG726, (Regs.step hReg728 hDi z z z z), hI727⟩)⟩
 cases (hpost 15 rfl).symm.trans hd1
 rintro D r wd729 (⟨hd2, G725, hG726, hReg728, hI727⟩ | ⟨hd1, g517, G725, hG726, hD522, hReg728, hI727⟩) hDi hpre hpost
 obtain ⟨r0, rfl⟩ := Has.ex (cC (hReg728.ins.get 1 rfl) (cC (hReg728.get 10 rfl (hpre 10 rfl)) cN))
 exact fa (hw:=gY z z z (vN h510)) fl36_2 z<|nl ⟨z, (.inl ⟨hd2, _, hG726, (Regs.step hReg728 hDi z z z z), hI727⟩)⟩
 cases (hpost 15 rfl).symm.trans hd1
 rintro D r wd729 (⟨hd2, G725, hG726, hReg728, hI727⟩ | ⟨hd1, g517, G725, hG726, hD522, hReg728, hI727⟩) hDi hpre hpost
 obtain ⟨r0, rfl⟩ := Has.ex (cC (hReg728.get 10 rfl (hpre 10 rfl)) (cC (hReg728.get 11 rfl (hpre 11 rfl)) cN))
 exact ld (hw:=gY z z z (vN h510)) hI727 0 ag3 z z z<|nl ⟨z, (.inl ⟨hd2, _, hG726, (Regs.step hReg728 hDi z z z z), hI727⟩)⟩
 cases (hpost 15 rfl).symm.trans hd1
 rintro D r wd729 (⟨hd2, G725, hG726, hReg728, hI727⟩ | ⟨hd1, g517, G725, hG726, hD522, hReg728, hI727⟩) hDi hpre hpost
 obtain ⟨r0, rfl⟩ := Has.ex (cC (hReg728.ins.get 1 rfl) (cC (hReg728.get 10 rfl (hpre 10 rfl)) cN))
 exact fa (hw:=gY z z z (vN h510)) fl36_3 z<|nl ⟨z, (.inl ⟨hd2, _, hG726, (Regs.step hReg728 hDi z z z z), hI727⟩)⟩
 cases (hpost 15 rfl).symm.trans hd1
 rintro D r wd729 (⟨hd2, G725, hG726, hReg728, hI727⟩ | ⟨hd1, g517, G725, hG726, hD522, hReg728, hI727⟩) hDi hpre hpost
 obtain ⟨r0, rfl⟩ := Has.ex (cC (hReg728.get 10 rfl (hpre 10 rfl)) (cC (hReg728.get 13 rfl (hpre 13 rfl)) cN))
 exact ld (hw:=gY z z z (vN h510)) hI727 0 ag3 z z z<|nl ⟨z, (.inl ⟨hd2, _, hG726, (Regs.step hReg728 hDi z z z z), hI727⟩)⟩
 cases (hpost 15 rfl).symm.trans hd1
 rintro D r wd729 (⟨hd2, G725, hG726, hReg728, hI727⟩ | ⟨hd1, g517, G725, hG726, hD522, hReg728, hI727⟩) hDi hpre hpost
 obtain ⟨r0, rfl⟩ := Has.ex (cC (hReg728.get 10 rfl (hpre 10 rfl)) (cC (hReg728.get 12 rfl (hpre 12 rfl)) (cC (hReg728.get 14 rfl (hpre 14 rfl)) cN)))
 refine q_bs hI727 (vs := [(0, int .i64 ((a1.getD (Int.toNat v35) z_api_Slice).X)), (1, int .i64 ((a1.getD (Int.toNat v35) z_api_Slice).Y))]) (cs := [int .i64 ((a1.getD (Int.toNat v35) z_api_Slice).X), int .i64 ((a1.getD (Int.toNat v35) z_api_Slice).Y)]) el65 ze3 rfl (by decide) rfl (by kernel_rfl) (fun g517 wd518 hI519 => ?_) (hw := gY rfl rfl rfl (bval_no h510))
 obtain ⟨G520, hG521, hI523, hD522⟩ := Hp.publish (xs := ([(a1.getD (Int.toNat v35) z_api_Slice).X, (a1.getD (Int.toNat v35) z_api_Slice).Y] : List Int)) (n := 2) (Kd.int .i64) hI519 ⟨[int .i64 ((a1.getD (Int.toNat v35) z_api_Slice).X)], _, rfl, rfl, ⟨[int .i64 ((a1.getD (Int.toNat v35) z_api_Slice).Y)], _, rfl, rfl, rfl⟩⟩ rfl
 exact nl ⟨z, (.inr ⟨z, g517, _, (gT hG726 hG521), hD522, (Regs.step (Regs.more (new := [(15, 39, slice (some ⟨g517, 0, none⟩) ([(a1.getD (Int.toNat v35) z_api_Slice).X, (a1.getD (Int.toNat v35) z_api_Slice).Y] : List Int).length 2), (16, 40, bool y528), (17, 41, bool (!y528)), (18, 42, bool (!y528)), (19, 43, bool (!y528)), (20, 44, undef), (21, 45, undef), (22, 46, undef), (23, 47, undef), (24, 48, bool true), (25, 49, bool true), (26, 50, undef), (27, 51, undef), (28, 52, undef), (29, 53, undef), (30, 54, bool true), (31, 55, bool true), (32, 56, undef), (33, 57, undef), (34, 58, undef), (35, 59, undef), (36, 60, undef), (37, 61, undef), (38, 62, undef), (39, 63, undef), (40, 64, undef), (41, 65, undef), (42, 66, undef), (43, 67, undef), (44, 68, undef), (45, 69, bool true)]) hReg728 (List.forall_mem_cons.2 ⟨hDi, (List.forall_mem_cons.2 ⟨hpost 16 z, (List.forall_mem_cons.2 ⟨hpost 17 z, (List.forall_mem_cons.2 ⟨hpost 18 z, (List.forall_mem_cons.2 ⟨hpost 19 z, (List.forall_mem_cons.2 ⟨hpost 20 z, (List.forall_mem_cons.2 ⟨hpost 21 z, (List.forall_mem_cons.2 ⟨hpost 22 z, (List.forall_mem_cons.2 ⟨hpost 23 z, (List.forall_mem_cons.2 ⟨hpost 24 z, (List.forall_mem_cons.2 ⟨hpost 25 z, (List.forall_mem_cons.2 ⟨hpost 26 z, (List.forall_mem_cons.2 ⟨hpost 27 z, (List.forall_mem_cons.2 ⟨hpost 28 z, (List.forall_mem_cons.2 ⟨hpost 29 z, (List.forall_mem_cons.2 ⟨hpost 30 z, (List.forall_mem_cons.2 ⟨hpost 31 z, (List.forall_mem_cons.2 ⟨hpost 32 z, (List.forall_mem_cons.2 ⟨hpost 33 z, (List.forall_mem_cons.2 ⟨hpost 34 z, (List.forall_mem_cons.2 ⟨hpost 35 z, (List.forall_mem_cons.2 ⟨hpost 36 z, (List.forall_mem_cons.2 ⟨hpost 37 z, (List.forall_mem_cons.2 ⟨hpost 38 z, (List.forall_mem_cons.2 ⟨hpost 39 z, (List.forall_mem_cons.2 ⟨hpost 40 z, (List.forall_mem_cons.2 ⟨hpost 41 z, (List.forall_mem_cons.2 ⟨hpost 42 z, (List.forall_mem_cons.2 ⟨hpost 43 z, (List.forall_mem_cons.2 ⟨hpost 44 z, (List.forall_mem_cons.2 ⟨hpost 45 z, (fun _ h => nomatch h)⟩)⟩)⟩)⟩)⟩)⟩)⟩)⟩)⟩)⟩)⟩)⟩)⟩)⟩)⟩)⟩)⟩)⟩)⟩)⟩)⟩)⟩)⟩)⟩)⟩)⟩)⟩)⟩)⟩)⟩)⟩)) hDi z z z z), hI523⟩)⟩
 cases hDi.symm.trans hd1
 rintro D r wd729 (⟨hd2, G725, hG726, hReg728, hI727⟩ | ⟨hd1, g517, G725, hG726, hD522, hReg728, hI727⟩) hDi hpre hpost
 cases (hpre 15 rfl).symm.trans hd2
 obtain ⟨r0, rfl⟩ := Has.ex (cC (hReg728.get 10 rfl (hpre 10 rfl)) (cC (hReg728.get 15 rfl (hpre 15 rfl)) cN))
 exact cv (hw:=gY z z z (vN h510)) bo39 (pages_areCoords_spec (a1 := ([(a1.getD (Int.toNat v35) z_api_Slice).X, (a1.getD (Int.toNat v35) z_api_Slice).Y] : List Int)) hy713 hI727 (show ([(a1.getD (Int.toNat v35) z_api_Slice).X, (a1.getD (Int.toNat v35) z_api_Slice).Y] : List Int).length ≤ 2 from Nat.le_of_ble_eq_true z) hD522) z z fun wd526 hI527=>nl ⟨z, (.inr ⟨hd1, g517, _, hG726, hD522, (Regs.step hReg728 hDi z z z z), hI527⟩)⟩
 rintro D r wd729 (⟨hd2, G725, hG726, hReg728, hI727⟩ | ⟨hd1, g517, G725, hG726, hD522, hReg728, hI727⟩) hDi hpre hpost
 cases (hpre 15 rfl).symm.trans hd2
 obtain ⟨r0, rfl⟩ := Has.ex (cC (hReg728.get 10 rfl (hpre 10 rfl)) (cC (hReg728.get 16 rfl (hpre 16 rfl)) cN))
 exact q_not (hw:=gY z z z (vN h510)) z<|nl ⟨z, (.inr ⟨hd1, g517, _, hG726, hD522, (Regs.step hReg728 hDi z z z z), hI727⟩)⟩
 rintro D r wd729 (⟨hd2, G725, hG726, hReg728, hI727⟩ | ⟨hd1, g517, G725, hG726, hD522, hReg728, hI727⟩) hDi hpre hpost
 cases (hpre 15 rfl).symm.trans hd2
 obtain ⟨r0, rfl⟩ := Has.ex (cC (hReg728.get 10 rfl (hpre 10 rfl)) (cC (hReg728.get 17 rfl (hpre 17 rfl)) cN))
 exact pkf (vN h510) z<|nl ⟨z, (.inr ⟨hd1, g517, _, hG726, hD522, (Regs.step hReg728 hDi z z z z), hI727⟩)⟩
 rintro D r wd729 (⟨hd2, G725, hG726, hReg728, hI727⟩ | ⟨hd1, g517, G725, hG726, hD522, hReg728, hI727⟩) hDi hpre hpost
 cases (hpre 15 rfl).symm.trans hd2
 obtain ⟨r0, rfl⟩ := Has.ex (cC (hReg728.get 18 rfl (hpre 18 rfl)) cN)
 exact mv z<|nl ⟨z, (.inr ⟨hd1, g517, _, hG726, hD522, (Regs.step hReg728 hDi z z z z), hI727⟩)⟩
 rintro D r wd729 (⟨hd2, G725, hG726, hReg728, hI727⟩ | ⟨hd1, g517, G725, hG726, hD522, hReg728, hI727⟩) hDi hpre hpost
 cases (hpre 15 rfl).symm.trans hd2
 obtain ⟨r0, rfl⟩ := Has.ex (cC (hReg728.get 19 rfl (hpre 19 rfl)) cN)
 exact wN (gN z z z (vY h724) z)<|nl ⟨z, (.inr ⟨hd1, g517, _, hG726, hD522, (Regs.step hReg728 hDi z z z z), hI727⟩)⟩
 rintro D r wd729 (⟨hd2, G725, hG726, hReg728, hI727⟩ | ⟨hd1, g517, G725, hG726, hD522, hReg728, hI727⟩) hDi hpre hpost
 cases (hpre 15 rfl).symm.trans hd2
 obtain ⟨r0, rfl⟩ := Has.ex (cC (hReg728.get 19 rfl (hpre 19 rfl)) cN)
 exact wN (gN z z z (vY h724) z)<|nl ⟨z, (.inr ⟨hd1, g517, _, hG726, hD522, (Regs.step hReg728 hDi z z z z), hI727⟩)⟩
 rintro D r wd729 (⟨hd2, G725, hG726, hReg728, hI727⟩ | ⟨hd1, g517, G725, hG726, hD522, hReg728, hI727⟩) hDi hpre hpost
 cases (hpre 15 rfl).symm.trans hd2
 obtain ⟨r0, rfl⟩ := Has.ex (cC (hReg728.get 19 rfl (hpre 19 rfl)) cN)
 exact wN (gN z z z (vY h724) z)<|nl ⟨z, (.inr ⟨hd1, g517, _, hG726, hD522, (Regs.step hReg728 hDi z z z z), hI727⟩)⟩
 rintro D r wd729 (⟨hd2, G725, hG726, hReg728, hI727⟩ | ⟨hd1, g517, G725, hG726, hD522, hReg728, hI727⟩) hDi hpre hpost
 cases (hpre 15 rfl).symm.trans hd2
 obtain ⟨r0, rfl⟩ := Has.ex (cC (hReg728.get 19 rfl (hpre 19 rfl)) cN)
 exact wN (gN z z z (vY h724) z)<|nl ⟨z, (.inr ⟨hd1, g517, _, hG726, hD522, (Regs.step hReg728 hDi z z z z), hI727⟩)⟩
 rintro D r wd729 (⟨hd2, G725, hG726, hReg728, hI727⟩ | ⟨hd1, g517, G725, hG726, hD522, hReg728, hI727⟩) hDi hpre hpost
 cases (hpre 15 rfl).symm.trans hd2
 obtain ⟨r0, rfl⟩ := Has.ex (cC (hReg728.get 19 rfl (hpre 19 rfl)) (cC (hReg728.get 23 rfl (hpre 23 rfl)) cN))
 exact pkt (vY h724) z<|nl ⟨z, (.inr ⟨hd1, g517, _, hG726, hD522, (Regs.step hReg728 hDi z z z z), hI727⟩)⟩
 rintro D r wd729 (⟨hd2, G725, hG726, hReg728, hI727⟩ | ⟨hd1, g517, G725, hG726, hD522, hReg728, hI727⟩) hDi hpre hpost
 cases (hpre 15 rfl).symm.trans hd2
 obtain ⟨r0, rfl⟩ := Has.ex (cC (hReg728.get 24 rfl (hpre 24 rfl)) cN)
 exact mv z<|nl ⟨z, (.inr ⟨hd1, g517, _, hG726, hD522, (Regs.step hReg728 hDi z z z z), hI727⟩)⟩
 rintro D r wd729 (⟨hd2, G725, hG726, hReg728, hI727⟩ | ⟨hd1, g517, G725, hG726, hD522, hReg728, hI727⟩) hDi hpre hpost
 cases (hpre 15 rfl).symm.trans hd2
 obtain ⟨r0, rfl⟩ := Has.ex (cC (hReg728.get 25 rfl (hpre 25 rfl)) cN)
 exact wN (gN z z z z z)<|nl ⟨z, (.inr ⟨hd1, g517, _, hG726, hD522, (Regs.step hReg728 hDi z z z z), hI727⟩)⟩
 rintro D r wd729 (⟨hd2, G725, hG726, hReg728, hI727⟩ | ⟨hd1, g517, G725, hG726, hD522, hReg728, hI727⟩) hDi hpre hpost
 cases (hpre 15 rfl).symm.trans hd2
 obtain ⟨r0, rfl⟩ := Has.ex (cC (hReg728.get 25 rfl (hpre 25 rfl)) cN)
 exact wN (gN z z z z z)<|nl ⟨z, (.inr ⟨hd1, g517, _, hG726, hD522, (Regs.step hReg728 hDi z z z z), hI727⟩)⟩
 rintro D r wd729 (⟨hd2, G725, hG726, hReg728, hI727⟩ | ⟨hd1, g517, G725, hG726, hD522, hReg728, hI727⟩) hDi hpre hpost
 cases (hpre 15 rfl).symm.trans hd2
 obtain ⟨r0, rfl⟩ := Has.ex (cC (hReg728.get 25 rfl (hpre 25 rfl)) cN)
 exact wN (gN z z z z z)<|nl ⟨z, (.inr ⟨hd1, g517, _, hG726, hD522, (Regs.step hReg728 hDi z z z z), hI727⟩)⟩
 rintro D r wd729 (⟨hd2, G725, hG726, hReg728, hI727⟩ | ⟨hd1, g517, G725, hG726, hD522, hReg728, hI727⟩) hDi hpre hpost
 cases (hpre 15 rfl).symm.trans hd2
 obtain ⟨r0, rfl⟩ := Has.ex (cC (hReg728.get 25 rfl (hpre 25 rfl)) cN)
 exact wN (gN z z z z z)<|nl ⟨z, (.inr ⟨hd1, g517, _, hG726, hD522, (Regs.step hReg728 hDi z z z z), hI727⟩)⟩
 rintro D r wd729 (⟨hd2, G725, hG726, hReg728, hI727⟩ | ⟨hd1, g517, G725, hG726, hD522, hReg728, hI727⟩) hDi hpre hpost
 cases (hpre 15 rfl).symm.trans hd2
 obtain ⟨r0, rfl⟩ := Has.ex (cC (hReg728.get 25 rfl (hpre 25 rfl)) (cC (hReg728.get 29 rfl (hpre 29 rfl)) cN))
 exact pkt z z<|nl ⟨z, (.inr ⟨hd1, g517, _, hG726, hD522, (Regs.step hReg728 hDi z z z z), hI727⟩)⟩
 rintro D r wd729 (⟨hd2, G725, hG726, hReg728, hI727⟩ | ⟨hd1, g517, G725, hG726, hD522, hReg728, hI727⟩) hDi hpre hpost
 cases (hpre 15 rfl).symm.trans hd2
 obtain ⟨r0, rfl⟩ := Has.ex (cC (hReg728.get 30 rfl (hpre 30 rfl)) cN)
 exact mv z<|nl ⟨z, (.inr ⟨hd1, g517, _, hG726, hD522, (Regs.step hReg728 hDi z z z z), hI727⟩)⟩
 rintro D r wd729 (⟨hd2, G725, hG726, hReg728, hI727⟩ | ⟨hd1, g517, G725, hG726, hD522, hReg728, hI727⟩) hDi hpre hpost
 cases (hpre 15 rfl).symm.trans hd2
 obtain ⟨r0, rfl⟩ := Has.ex (cC (hReg728.get 31 rfl (hpre 31 rfl)) cN)
 exact wN (gN z z z z z)<|nl ⟨z, (.inr ⟨hd1, g517, _, hG726, hD522, (Regs.step hReg728 hDi z z z z), hI727⟩)⟩
 rintro D r wd729 (⟨hd2, G725, hG726, hReg728, hI727⟩ | ⟨hd1, g517, G725, hG726, hD522, hReg728, hI727⟩) hDi hpre hpost
 cases (hpre 15 rfl).symm.trans hd2
 obtain ⟨r0, rfl⟩ := Has.ex (cC (hReg728.get 31 rfl (hpre 31 rfl)) cN)
 exact wN (gN z z z z z)<|nl ⟨z, (.inr ⟨hd1, g517, _, hG726, hD522, (Regs.step hReg728 hDi z z z z), hI727⟩)⟩
 rintro D r wd729 (⟨hd2, G725, hG726, hReg728, hI727⟩ | ⟨hd1, g517, G725, hG726, hD522, hReg728, hI727⟩) hDi hpre hpost
 cases (hpre 15 rfl).symm.trans hd2
 obtain ⟨r0, rfl⟩ := Has.ex (cC (hReg728.get 31 rfl (hpre 31 rfl)) cN)
 exact wN (gN z z z z z)<|nl ⟨z, (.inr ⟨hd1, g517, _, hG726, hD522, (Regs.step hReg728 hDi z z z z), hI727⟩)⟩
 rintro D r wd729 (⟨hd2, G725, hG726, hReg728, hI727⟩ | ⟨hd1, g517, G725, hG726, hD522, hReg728, hI727⟩) hDi hpre hpost
 cases (hpre 15 rfl).symm.trans hd2
 obtain ⟨r0, rfl⟩ := Has.ex (cC (hReg728.get 34 rfl (hpre 34 rfl)) cN)
 exact wN (gN z z z z z)<|nl ⟨z, (.inr ⟨hd1, g517, _, hG726, hD522, (Regs.step hReg728 hDi z z z z), hI727⟩)⟩
 rintro D r wd729 (⟨hd2, G725, hG726, hReg728, hI727⟩ | ⟨hd1, g517, G725, hG726, hD522, hReg728, hI727⟩) hDi hpre hpost
 cases (hpre 15 rfl).symm.trans hd2
 obtain ⟨r0, rfl⟩ := Has.ex (cC (hReg728.get 34 rfl (hpre 34 rfl)) cN)
 exact wN (gN z z z z z)<|nl ⟨z, (.inr ⟨hd1, g517, _, hG726, hD522, (Regs.step hReg728 hDi z z z z), hI727⟩)⟩
 rintro D r wd729 (⟨hd2, G725, hG726, hReg728, hI727⟩ | ⟨hd1, g517, G725, hG726, hD522, hReg728, hI727⟩) hDi hpre hpost
 cases (hpre 15 rfl).symm.trans hd2
 obtain ⟨r0, rfl⟩ := Has.ex (cC (hReg728.get 34 rfl (hpre 34 rfl)) cN)
 exact wN (gN z z z z z)<|nl ⟨z, (.inr ⟨hd1, g517, _, hG726, hD522, (Regs.step hReg728 hDi z z z z), hI727⟩)⟩
 rintro D r wd729 (⟨hd2, G725, hG726, hReg728, hI727⟩ | ⟨hd1, g517, G725, hG726, hD522, hReg728, hI727⟩) hDi hpre hpost
 cases (hpre 15 rfl).symm.trans hd2
 obtain ⟨r0, rfl⟩ := Has.ex (cC (hReg728.get 34 rfl (hpre 34 rfl)) cN)
 exact wN (gN z z z z z)<|nl ⟨z, (.inr ⟨hd1, g517, _, hG726, hD522, (Regs.step hReg728 hDi z z z z), hI727⟩)⟩
 rintro D r wd729 (⟨hd2, G725, hG726, hReg728, hI727⟩ | ⟨hd1, g517, G725, hG726, hD522, hReg728, hI727⟩) hDi hpre hpost
 cases (hpre 15 rfl).symm.trans hd2
 obtain ⟨r0, rfl⟩ := Has.ex (cC (hReg728.get 34 rfl (hpre 34 rfl)) cN)
 exact wN (gN z z z z z)<|nl ⟨z, (.inr ⟨hd1, g517, _, hG726, hD522, (Regs.step hReg728 hDi z z z z), hI727⟩)⟩
 rintro D r wd729 (⟨hd2, G725, hG726, hReg728, hI727⟩ | ⟨hd1, g517, G725, hG726, hD522, hReg728, hI727⟩) hDi hpre hpost
 cases (hpre 15 rfl).symm.trans hd2
 obtain ⟨r0, rfl⟩ := Has.ex (cC (hReg728.get 34 rfl (hpre 34 rfl)) cN)
 exact wN (gN z z z z z)<|nl ⟨z, (.inr ⟨hd1, g517, _, hG726, hD522, (Regs.step hReg728 hDi z z z z), hI727⟩)⟩
 rintro D r wd729 (⟨hd2, G725, hG726, hReg728, hI727⟩ | ⟨hd1, g517, G725, hG726, hD522, hReg728, hI727⟩) hDi hpre hpost
 cases (hpre 15 rfl).symm.trans hd2
 obtain ⟨r0, rfl⟩ := Has.ex (cC (hReg728.get 34 rfl (hpre 34 rfl)) cN)
 exact wN (gN z z z z z)<|nl ⟨z, (.inr ⟨hd1, g517, _, hG726, hD522, (Regs.step hReg728 hDi z z z z), hI727⟩)⟩
 rintro D r wd729 (⟨hd2, G725, hG726, hReg728, hI727⟩ | ⟨hd1, g517, G725, hG726, hD522, hReg728, hI727⟩) hDi hpre hpost
 cases (hpre 15 rfl).symm.trans hd2
 obtain ⟨r0, rfl⟩ := Has.ex (cC (hReg728.get 34 rfl (hpre 34 rfl)) cN)
 exact wN (gN z z z z z)<|nl ⟨z, (.inr ⟨hd1, g517, _, hG726, hD522, (Regs.step hReg728 hDi z z z z), hI727⟩)⟩
 rintro D r wd729 (⟨hd2, G725, hG726, hReg728, hI727⟩ | ⟨hd1, g517, G725, hG726, hD522, hReg728, hI727⟩) hDi hpre hpost
 cases (hpre 15 rfl).symm.trans hd2
 obtain ⟨r0, rfl⟩ := Has.ex (cC (hReg728.get 34 rfl (hpre 34 rfl)) cN)
 exact wN (gN z z z z z)<|nl ⟨z, (.inr ⟨hd1, g517, _, hG726, hD522, (Regs.step hReg728 hDi z z z z), hI727⟩)⟩
 rintro D r wd729 (⟨hd2, G725, hG726, hReg728, hI727⟩ | ⟨hd1, g517, G725, hG726, hD522, hReg728, hI727⟩) hDi hpre hpost
 cases (hpre 15 rfl).symm.trans hd2
 obtain ⟨r0, rfl⟩ := Has.ex (cC (hReg728.get 31 rfl (hpre 31 rfl)) cN)
 exact wN (gN z z z z z)<|nl ⟨z, (.inr ⟨hd1, g517, _, hG726, hD522, (Regs.step hReg728 hDi z z z z), hI727⟩)⟩
 rintro D r wd729 (⟨hd2, G725, hG726, hReg728, hI727⟩ | ⟨hd1, g517, G725, hG726, hD522, hReg728, hI727⟩) hDi hpre hpost
 cases (hpre 15 rfl).symm.trans hd2
 obtain ⟨r0, rfl⟩ := Has.ex (cC (hReg728.get 31 rfl (hpre 31 rfl)) (cC (hReg728.get 44 rfl (hpre 44 rfl)) cN))
 exact pkt z z<|nl ⟨z, (.inr ⟨hd1, g517, _, hG726, hD522, (Regs.step hReg728 hDi z z z z), hI727⟩)⟩
 intro D r wd729 hall hR
 rcases hR with ⟨hd2, G725, hG726, hReg728, hI727⟩ | ⟨hd1, g517, G725, hG726, hD522, hReg728, hI727⟩
 cases (hall 15 (Nat.le_of_ble_eq_true rfl)).symm.trans hd2
 obtain ⟨r0, rfl⟩ := Has.ex (cC (hReg728.ins.get 0 rfl) (cC (hReg728.ins.get 2 rfl) (cC (hReg728.ins.get 3 rfl) (cC (hReg728.ins.get 4 rfl) (cC (hReg728.get 5 rfl (hall 5 (Nat.le_of_ble_eq_true rfl))) (cC (hReg728.get 6 rfl (hall 6 (Nat.le_of_ble_eq_true rfl))) (cC (hReg728.get 7 rfl (hall 7 (Nat.le_of_ble_eq_true rfl))) (cC (hReg728.get 8 rfl (hall 8 (Nat.le_of_ble_eq_true rfl))) (cC (hReg728.get 11 rfl (hall 11 (Nat.le_of_ble_eq_true rfl))) (cC (hReg728.get 12 rfl (hall 12 (Nat.le_of_ble_eq_true rfl))) (cC (hReg728.get 13 rfl (hall 13 (Nat.le_of_ble_eq_true rfl))) (cC (hReg728.get 14 rfl (hall 14 (Nat.le_of_ble_eq_true rfl))) (cC (hReg728.get 15 rfl (hall 15 (Nat.le_of_ble_eq_true rfl))) (cC (hReg728.get 16 rfl (hall 16 (Nat.le_of_ble_eq_true rfl))) (cC (hReg728.get 17 rfl (hall 17 (Nat.le_of_ble_eq_true rfl))) (cC (hReg728.get 45 rfl (hall 45 (Nat.le_of_ble_eq_true rfl))) cN))))))))))))))))
 refine have hI731:=Hp.pick 2 [1] hI727 z;?_
 cases H
 exact je ⟨z, z, z, z, z, tv⟩ (Hp.low hG726 hI731)
 refine nK h724 H fun H=>bK H fun y736 hy921 H=>dC ((!y736) = true) (fun h932=>?_) fun h932=>?_
 refine yK h932 H fun H=>?_
 refine wpc_drawL [0, 1, 3, 7, 15, 31, 63, 127, 255, 511, 1023, 2047, 4095, 2047, 10239, 32767, 65535, 131071, 262143, 524287, 1048575, 2097151, 4194303, 8388607, 16777215, 33554431, 67108863, 134217727, 268435455, 536870911, 1073741823, 2147483647, 4294967295, 8589934591, 17179869183, 34359738367, 68719476735, 34359738367, 34359738367, 309237645311, 996432412671, 2095944040447, 4294967295999, 8796093022207, 17592186044415, 35184372088831] (fun D r w => (D 15 = false ∧ ∃ (G' : Gh), G ≤ G' ∧ Regs [(0, slice A2 a1.length c3), (6, pointer (some ⟨g72, 0, none⟩)), (17, slice A2 a1.length c3), (18, int .i64 (a1.length : Int)), (19, int .i64 v35)] [] [(0, 24, pointer (some ⟨g72, 0, none⟩)), (1, 25, int .i64 ((a1.getD (Int.toNat v35) z_api_Slice).Node)), (2, 26, bool y108), (3, 27, bool (!y108)), (4, 28, bool (!y108)), (5, 29, pointer (some ⟨g72, 1, none⟩)), (6, 30, int .i64 ((a1.getD (Int.toNat v35) z_api_Slice).Table)), (7, 31, bool y314), (8, 32, bool (!y314)), (9, 33, bool (!y314)), (10, 34, bool (!y314)), (11, 35, pointer (some ⟨g72, 2, none⟩)), (12, 36, int .i64 ((a1.getD (Int.toNat v35) z_api_Slice).X)), (13, 37, pointer (some ⟨g72, 3, none⟩)), (14, 38, int .i64 ((a1.getD (Int.toNat v35) z_api_Slice).Y))] D r ∧ Hp G' (bx g72 [int .i64 ((a1.getD (Int.toNat v35) z_api_Slice).Node), int .i64 ((a1.getD (Int.toNat v35) z_api_Slice).Table), int .i64 ((a1.getD (Int.toNat v35) z_api_Slice).X), int .i64 ((a1.getD (Int.toNat v35) z_api_Slice).Y), int .i64 ((a1.getD (Int.toNat v35) z_api_Slice).H), string ((a1.getD (Int.toNat v35) z_api_Slice).Text), bool ((a1.getD (Int.toNat v35) z_api_Slice).Head), bool ((a1.getD (Int.toNat v35) z_api_Slice).Note)] 36 :: L) w) ∨ (D 15 = true ∧ ∃ (g517 : Nat) (G' : Gh), G ≤ G' ∧ Dat (Kd.int .i64) G' (some ⟨g517, 0, none⟩) ([(a1.getD (Int.toNat v35) z_api_Slice).X, (a1.getD (Int.toNat v35) z_api_Slice).Y] : List Int) ∧ Regs [(0, slice A2 a1.length c3), (6, pointer (some ⟨g72, 0, none⟩)), (17, slice A2 a1.length c3), (18, int .i64 (a1.length : Int)), (19, int .i64 v35)] [] [(0, 24, pointer (some ⟨g72, 0, none⟩)), (1, 25, int .i64 ((a1.getD (Int.toNat v35) z_api_Slice).Node)), (2, 26, bool y108), (3, 27, bool (!y108)), (4, 28, bool (!y108)), (5, 29, pointer (some ⟨g72, 1, none⟩)), (6, 30, int .i64 ((a1.getD (Int.toNat v35) z_api_Slice).Table)), (7, 31, bool y314), (8, 32, bool (!y314)), (9, 33, bool (!y314)), (10, 34, bool (!y314)), (11, 35, pointer (some ⟨g72, 2, none⟩)), (12, 36, int .i64 ((a1.getD (Int.toNat v35) z_api_Slice).X)), (13, 37, pointer (some ⟨g72, 3, none⟩)), (14, 38, int .i64 ((a1.getD (Int.toNat v35) z_api_Slice).Y)), (15, 39, slice (some ⟨g517, 0, none⟩) ([(a1.getD (Int.toNat v35) z_api_Slice).X, (a1.getD (Int.toNat v35) z_api_Slice).Y] : List Int).length 2), (16, 40, bool y528), (17, 41, bool (!y528)), (18, 42, bool (!y528)), (19, 43, bool (!y528)), (20, 44, pointer (some ⟨g72, 4, none⟩)), (21, 45, int .i64 ((a1.getD (Int.toNat v35) z_api_Slice).H)), (22, 46, bool y736), (23, 47, bool (!y736)), (24, 48, bool (!y736)), (25, 49, bool (!y736)), (26, 50, undef), (27, 51, undef), (28, 52, undef), (29, 53, undef), (30, 54, bool true), (31, 55, bool true), (32, 56, undef), (33, 57, undef), (34, 58, undef), (35, 59, undef), (36, 60, undef), (37, 61, undef), (38, 62, undef), (39, 63, undef), (40, 64, undef), (41, 65, undef), (42, 66, undef), (43, 67, undef), (44, 68, undef), (45, 69, bool true)] D r ∧ Hp G' (tk (slice (some ⟨g517, 0, none⟩) ([(a1.getD (Int.toNat v35) z_api_Slice).X, (a1.getD (Int.toNat v35) z_api_Slice).Y] : List Int).length 2) 1 3 :: bx g72 [int .i64 ((a1.getD (Int.toNat v35) z_api_Slice).Node), int .i64 ((a1.getD (Int.toNat v35) z_api_Slice).Table), int .i64 ((a1.getD (Int.toNat v35) z_api_Slice).X), int .i64 ((a1.getD (Int.toNat v35) z_api_Slice).Y), int .i64 ((a1.getD (Int.toNat v35) z_api_Slice).H), string ((a1.getD (Int.toNat v35) z_api_Slice).Text), bool ((a1.getD (Int.toNat v35) z_api_Slice).Head), bool ((a1.getD (Int.toNat v35) z_api_Slice).Note)] 36 :: L) w)) mixo z z ?_ ?_ ?_
 exact (.inl ⟨z, _, Gh.le_refl _, Regs.start ⟨z, z, z, z, z, tv⟩ trivial, hI76.drew⟩)
 refine ⟨?_, ?_, ?_, ?_, ?_, ?_, ?_, ?_, ?_, ?_, ?_, ?_, ?_, ?_, ?_, ?_, ?_, ?_, ?_, ?_, ?_, ?_, ?_, ?_, ?_, ?_, ?_, ?_, ?_, ?_, ?_, ?_, ?_, ?_, ?_, ?_, ?_, ?_, ?_, ?_, ?_, ?_, ?_, ?_, ?_, ?_, tv⟩
 rintro D r wd937 (⟨hd2, G933, hG934, hReg936, hI935⟩ | ⟨hd1, g517, G933, hG934, hD522, hReg936, hI935⟩) hDi hpre hpost
 obtain ⟨r0, rfl⟩ := Has.ex (cC (hReg936.ins.get 1 rfl) cN)
 exact fa fl36_0 z<|nl ⟨z, (.inl ⟨hd2, _, hG934, (Regs.step hReg936 hDi z z z z), hI935⟩)⟩
 cases (hpost 15 rfl).symm.trans hd1
 rintro D r wd937 (⟨hd2, G933, hG934, hReg936, hI935⟩ | ⟨hd1, g517, G933, hG934, hD522, hReg936, hI935⟩) hDi hpre hpost
 obtain ⟨r0, rfl⟩ := Has.ex (cC (hReg936.get 0 rfl (hpre 0 rfl)) cN)
 exact ld hI935 0 ag3 z z z<|nl ⟨z, (.inl ⟨hd2, _, hG934, (Regs.step hReg936 hDi z z z z), hI935⟩)⟩
 cases (hpost 15 rfl).symm.trans hd1
 rintro D r wd937 (⟨hd2, G933, hG934, hReg936, hI935⟩ | ⟨hd1, g517, G933, hG934, hD522, hReg936, hI935⟩) hDi hpre hpost
 obtain ⟨r0, rfl⟩ := Has.ex (cC (hReg936.get 1 rfl (hpre 1 rfl)) cN)
 exact cv bo36 (pages_within_spec hy293 hI935) z z fun wd106 hI107=>nl ⟨z, (.inl ⟨hd2, _, hG934, (Regs.step hReg936 hDi z z z z), hI107⟩)⟩
 cases (hpost 15 rfl).symm.trans hd1
 rintro D r wd937 (⟨hd2, G933, hG934, hReg936, hI935⟩ | ⟨hd1, g517, G933, hG934, hD522, hReg936, hI935⟩) hDi hpre hpost
 obtain ⟨r0, rfl⟩ := Has.ex (cC (hReg936.get 2 rfl (hpre 2 rfl)) cN)
 exact q_not z<|nl ⟨z, (.inl ⟨hd2, _, hG934, (Regs.step hReg936 hDi z z z z), hI935⟩)⟩
 cases (hpost 15 rfl).symm.trans hd1
 rintro D r wd937 (⟨hd2, G933, hG934, hReg936, hI935⟩ | ⟨hd1, g517, G933, hG934, hD522, hReg936, hI935⟩) hDi hpre hpost
 obtain ⟨r0, rfl⟩ := Has.ex (cC (hReg936.get 3 rfl (hpre 3 rfl)) cN)
 exact mv z<|nl ⟨z, (.inl ⟨hd2, _, hG934, (Regs.step hReg936 hDi z z z z), hI935⟩)⟩
 cases (hpost 15 rfl).symm.trans hd1
 rintro D r wd937 (⟨hd2, G933, hG934, hReg936, hI935⟩ | ⟨hd1, g517, G933, hG934, hD522, hReg936, hI935⟩) hDi hpre hpost
 obtain ⟨r0, rfl⟩ := Has.ex (cC (hReg936.ins.get 1 rfl) (cC (hReg936.get 4 rfl (hpre 4 rfl)) cN))
 exact fa (hw:=gY z z z (vN h304)) fl36_1 z<|nl ⟨z, (.inl ⟨hd2, _, hG934, (Regs.step hReg936 hDi z z z z), hI935⟩)⟩
 cases (hpost 15 rfl).symm.trans hd1
 rintro D r wd937 (⟨hd2, G933, hG934, hReg936, hI935⟩ | ⟨hd1, g517, G933, hG934, hD522, hReg936, hI935⟩) hDi hpre hpost
 obtain ⟨r0, rfl⟩ := Has.ex (cC (hReg936.get 4 rfl (hpre 4 rfl)) (cC (hReg936.get 5 rfl (hpre 5 rfl)) cN))
 exact ld (hw:=gY z z z (vN h304)) hI935 0 ag3 z z z<|nl ⟨z, (.inl ⟨hd2, _, hG934, (Regs.step hReg936 hDi z z z z), hI935⟩)⟩
 cases (hpost 15 rfl).symm.trans hd1
 rintro D r wd937 (⟨hd2, G933, hG934, hReg936, hI935⟩ | ⟨hd1, g517, G933, hG934, hD522, hReg936, hI935⟩) hDi hpre hpost
 obtain ⟨r0, rfl⟩ := Has.ex (cC (hReg936.get 4 rfl (hpre 4 rfl)) (cC (hReg936.get 6 rfl (hpre 6 rfl)) cN))
 exact cv (hw:=gY z z z (vN h304)) bo36 (pages_within_spec hy499 hI935) z z fun wd312 hI313=>nl ⟨z, (.inl ⟨hd2, _, hG934, (Regs.step hReg936 hDi z z z z), hI313⟩)⟩
 cases (hpost 15 rfl).symm.trans hd1
 rintro D r wd937 (⟨hd2, G933, hG934, hReg936, hI935⟩ | ⟨hd1, g517, G933, hG934, hD522, hReg936, hI935⟩) hDi hpre hpost
 obtain ⟨r0, rfl⟩ := Has.ex (cC (hReg936.get 4 rfl (hpre 4 rfl)) (cC (hReg936.get 7 rfl (hpre 7 rfl)) cN))
 exact q_not (hw:=gY z z z (vN h304)) z<|nl ⟨z, (.inl ⟨hd2, _, hG934, (Regs.step hReg936 hDi z z z z), hI935⟩)⟩
 cases (hpost 15 rfl).symm.trans hd1
 rintro D r wd937 (⟨hd2, G933, hG934, hReg936, hI935⟩ | ⟨hd1, g517, G933, hG934, hD522, hReg936, hI935⟩) hDi hpre hpost
 obtain ⟨r0, rfl⟩ := Has.ex (cC (hReg936.get 4 rfl (hpre 4 rfl)) (cC (hReg936.get 8 rfl (hpre 8 rfl)) cN))
 exact pkf (vN h304) z<|nl ⟨z, (.inl ⟨hd2, _, hG934, (Regs.step hReg936 hDi z z z z), hI935⟩)⟩
 cases (hpost 15 rfl).symm.trans hd1
 rintro D r wd937 (⟨hd2, G933, hG934, hReg936, hI935⟩ | ⟨hd1, g517, G933, hG934, hD522, hReg936, hI935⟩) hDi hpre hpost
 obtain ⟨r0, rfl⟩ := Has.ex (cC (hReg936.get 9 rfl (hpre 9 rfl)) cN)
 exact mv z<|nl ⟨z, (.inl ⟨hd2, _, hG934, (Regs.step hReg936 hDi z z z z), hI935⟩)⟩
 cases (hpost 15 rfl).symm.trans hd1
 rintro D r wd937 (⟨hd2, G933, hG934, hReg936, hI935⟩ | ⟨hd1, g517, G933, hG934, hD522, hReg936, hI935⟩) hDi hpre hpost
 obtain ⟨r0, rfl⟩ := Has.ex (cC (hReg936.ins.get 1 rfl) (cC (hReg936.get 10 rfl (hpre 10 rfl)) cN))
 exact fa (hw:=gY z z z (vN h510)) fl36_2 z<|nl ⟨z, (.inl ⟨hd2, _, hG934, (Regs.step hReg936 hDi z z z z), hI935⟩)⟩
 cases (hpost 15 rfl).symm.trans hd1
 rintro D r wd937 (⟨hd2, G933, hG934, hReg936, hI935⟩ | ⟨hd1, g517, G933, hG934, hD522, hReg936, hI935⟩) hDi hpre hpost
 obtain ⟨r0, rfl⟩ := Has.ex (cC (hReg936.get 10 rfl (hpre 10 rfl)) (cC (hReg936.get 11 rfl (hpre 11 rfl)) cN))
 exact ld (hw:=gY z z z (vN h510)) hI935 0 ag3 z z z<|nl ⟨z, (.inl ⟨hd2, _, hG934, (Regs.step hReg936 hDi z z z z), hI935⟩)⟩
 cases (hpost 15 rfl).symm.trans hd1
 rintro D r wd937 (⟨hd2, G933, hG934, hReg936, hI935⟩ | ⟨hd1, g517, G933, hG934, hD522, hReg936, hI935⟩) hDi hpre hpost
 obtain ⟨r0, rfl⟩ := Has.ex (cC (hReg936.ins.get 1 rfl) (cC (hReg936.get 10 rfl (hpre 10 rfl)) cN))
 exact fa (hw:=gY z z z (vN h510)) fl36_3 z<|nl ⟨z, (.inl ⟨hd2, _, hG934, (Regs.step hReg936 hDi z z z z), hI935⟩)⟩
 cases (hpost 15 rfl).symm.trans hd1
 rintro D r wd937 (⟨hd2, G933, hG934, hReg936, hI935⟩ | ⟨hd1, g517, G933, hG934, hD522, hReg936, hI935⟩) hDi hpre hpost
 obtain ⟨r0, rfl⟩ := Has.ex (cC (hReg936.get 10 rfl (hpre 10 rfl)) (cC (hReg936.get 13 rfl (hpre 13 rfl)) cN))
 exact ld (hw:=gY z z z (vN h510)) hI935 0 ag3 z z z<|nl ⟨z, (.inl ⟨hd2, _, hG934, (Regs.step hReg936 hDi z z z z), hI935⟩)⟩
 cases (hpost 15 rfl).symm.trans hd1
 rintro D r wd937 (⟨hd2, G933, hG934, hReg936, hI935⟩ | ⟨hd1, g517, G933, hG934, hD522, hReg936, hI935⟩) hDi hpre hpost
 obtain ⟨r0, rfl⟩ := Has.ex (cC (hReg936.get 10 rfl (hpre 10 rfl)) (cC (hReg936.get 12 rfl (hpre 12 rfl)) (cC (hReg936.get 14 rfl (hpre 14 rfl)) cN)))
 refine q_bs hI935 (vs := [(0, int .i64 ((a1.getD (Int.toNat v35) z_api_Slice).X)), (1, int .i64 ((a1.getD (Int.toNat v35) z_api_Slice).Y))]) (cs := [int .i64 ((a1.getD (Int.toNat v35) z_api_Slice).X), int .i64 ((a1.getD (Int.toNat v35) z_api_Slice).Y)]) el65 ze3 rfl (by decide) rfl (by kernel_rfl) (fun g517 wd518 hI519 => ?_) (hw := gY rfl rfl rfl (bval_no h510))
 obtain ⟨G520, hG521, hI523, hD522⟩ := Hp.publish (xs := ([(a1.getD (Int.toNat v35) z_api_Slice).X, (a1.getD (Int.toNat v35) z_api_Slice).Y] : List Int)) (n := 2) (Kd.int .i64) hI519 ⟨[int .i64 ((a1.getD (Int.toNat v35) z_api_Slice).X)], _, rfl, rfl, ⟨[int .i64 ((a1.getD (Int.toNat v35) z_api_Slice).Y)], _, rfl, rfl, rfl⟩⟩ rfl
 exact nl ⟨z, (.inr ⟨z, g517, _, (gT hG934 hG521), hD522, (Regs.step (Regs.more (new := [(15, 39, slice (some ⟨g517, 0, none⟩) ([(a1.getD (Int.toNat v35) z_api_Slice).X, (a1.getD (Int.toNat v35) z_api_Slice).Y] : List Int).length 2), (16, 40, bool y528), (17, 41, bool (!y528)), (18, 42, bool (!y528)), (19, 43, bool (!y528)), (20, 44, pointer (some ⟨g72, 4, none⟩)), (21, 45, int .i64 ((a1.getD (Int.toNat v35) z_api_Slice).H)), (22, 46, bool y736), (23, 47, bool (!y736)), (24, 48, bool (!y736)), (25, 49, bool (!y736)), (26, 50, undef), (27, 51, undef), (28, 52, undef), (29, 53, undef), (30, 54, bool true), (31, 55, bool true), (32, 56, undef), (33, 57, undef), (34, 58, undef), (35, 59, undef), (36, 60, undef), (37, 61, undef), (38, 62, undef), (39, 63, undef), (40, 64, undef), (41, 65, undef), (42, 66, undef), (43, 67, undef), (44, 68, undef), (45, 69, bool true)]) hReg936 (List.forall_mem_cons.2 ⟨hDi, (List.forall_mem_cons.2 ⟨hpost 16 z, (List.forall_mem_cons.2 ⟨hpost 17 z, (List.forall_mem_cons.2 ⟨hpost 18 z, (List.forall_mem_cons.2 ⟨hpost 19 z, (List.forall_mem_cons.2 ⟨hpost 20 z, (List.forall_mem_cons.2 ⟨hpost 21 z, (List.forall_mem_cons.2 ⟨hpost 22 z, (List.forall_mem_cons.2 ⟨hpost 23 z, (List.forall_mem_cons.2 ⟨hpost 24 z, (List.forall_mem_cons.2 ⟨hpost 25 z, (List.forall_mem_cons.2 ⟨hpost 26 z, (List.forall_mem_cons.2 ⟨hpost 27 z, (List.forall_mem_cons.2 ⟨hpost 28 z, (List.forall_mem_cons.2 ⟨hpost 29 z, (List.forall_mem_cons.2 ⟨hpost 30 z, (List.forall_mem_cons.2 ⟨hpost 31 z, (List.forall_mem_cons.2 ⟨hpost 32 z, (List.forall_mem_cons.2 ⟨hpost 33 z, (List.forall_mem_cons.2 ⟨hpost 34 z, (List.forall_mem_cons.2 ⟨hpost 35 z, (List.forall_mem_cons.2 ⟨hpost 36 z, (List.forall_mem_cons.2 ⟨hpost 37 z, (List.forall_mem_cons.2 ⟨hpost 38 z, (List.forall_mem_cons.2 ⟨hpost 39 z, (List.forall_mem_cons.2 ⟨hpost 40 z, (List.forall_mem_cons.2 ⟨hpost 41 z, (List.forall_mem_cons.2 ⟨hpost 42 z, (List.forall_mem_cons.2 ⟨hpost 43 z, (List.forall_mem_cons.2 ⟨hpost 44 z, (List.forall_mem_cons.2 ⟨hpost 45 z, (fun _ h => nomatch h)⟩)⟩)⟩)⟩)⟩)⟩)⟩)⟩)⟩)⟩)⟩)⟩)⟩)⟩)⟩)⟩)⟩)⟩)⟩)⟩)⟩)⟩)⟩)⟩)⟩)⟩)⟩)⟩)⟩)⟩)⟩)) hDi z z z z), hI523⟩)⟩
 cases hDi.symm.trans hd1
 rintro D r wd937 (⟨hd2, G933, hG934, hReg936, hI935⟩ | ⟨hd1, g517, G933, hG934, hD522, hReg936, hI935⟩) hDi hpre hpost
 cases (hpre 15 rfl).symm.trans hd2
 obtain ⟨r0, rfl⟩ := Has.ex (cC (hReg936.get 10 rfl (hpre 10 rfl)) (cC (hReg936.get 15 rfl (hpre 15 rfl)) cN))
 exact cv (hw:=gY z z z (vN h510)) bo39 (pages_areCoords_spec (a1 := ([(a1.getD (Int.toNat v35) z_api_Slice).X, (a1.getD (Int.toNat v35) z_api_Slice).Y] : List Int)) hy713 hI935 (show ([(a1.getD (Int.toNat v35) z_api_Slice).X, (a1.getD (Int.toNat v35) z_api_Slice).Y] : List Int).length ≤ 2 from Nat.le_of_ble_eq_true z) hD522) z z fun wd526 hI527=>nl ⟨z, (.inr ⟨hd1, g517, _, hG934, hD522, (Regs.step hReg936 hDi z z z z), hI527⟩)⟩
 rintro D r wd937 (⟨hd2, G933, hG934, hReg936, hI935⟩ | ⟨hd1, g517, G933, hG934, hD522, hReg936, hI935⟩) hDi hpre hpost
 cases (hpre 15 rfl).symm.trans hd2
 obtain ⟨r0, rfl⟩ := Has.ex (cC (hReg936.get 10 rfl (hpre 10 rfl)) (cC (hReg936.get 16 rfl (hpre 16 rfl)) cN))
 exact q_not (hw:=gY z z z (vN h510)) z<|nl ⟨z, (.inr ⟨hd1, g517, _, hG934, hD522, (Regs.step hReg936 hDi z z z z), hI935⟩)⟩
 rintro D r wd937 (⟨hd2, G933, hG934, hReg936, hI935⟩ | ⟨hd1, g517, G933, hG934, hD522, hReg936, hI935⟩) hDi hpre hpost
 cases (hpre 15 rfl).symm.trans hd2
 obtain ⟨r0, rfl⟩ := Has.ex (cC (hReg936.get 10 rfl (hpre 10 rfl)) (cC (hReg936.get 17 rfl (hpre 17 rfl)) cN))
 exact pkf (vN h510) z<|nl ⟨z, (.inr ⟨hd1, g517, _, hG934, hD522, (Regs.step hReg936 hDi z z z z), hI935⟩)⟩
 rintro D r wd937 (⟨hd2, G933, hG934, hReg936, hI935⟩ | ⟨hd1, g517, G933, hG934, hD522, hReg936, hI935⟩) hDi hpre hpost
 cases (hpre 15 rfl).symm.trans hd2
 obtain ⟨r0, rfl⟩ := Has.ex (cC (hReg936.get 18 rfl (hpre 18 rfl)) cN)
 exact mv z<|nl ⟨z, (.inr ⟨hd1, g517, _, hG934, hD522, (Regs.step hReg936 hDi z z z z), hI935⟩)⟩
 rintro D r wd937 (⟨hd2, G933, hG934, hReg936, hI935⟩ | ⟨hd1, g517, G933, hG934, hD522, hReg936, hI935⟩) hDi hpre hpost
 cases (hpre 15 rfl).symm.trans hd2
 obtain ⟨r0, rfl⟩ := Has.ex (cC (hReg936.ins.get 1 rfl) (cC (hReg936.get 19 rfl (hpre 19 rfl)) cN))
 exact fa (hw:=gY z z z (vN h724)) fl36_4 z<|nl ⟨z, (.inr ⟨hd1, g517, _, hG934, hD522, (Regs.step hReg936 hDi z z z z), hI935⟩)⟩
 rintro D r wd937 (⟨hd2, G933, hG934, hReg936, hI935⟩ | ⟨hd1, g517, G933, hG934, hD522, hReg936, hI935⟩) hDi hpre hpost
 cases (hpre 15 rfl).symm.trans hd2
 obtain ⟨r0, rfl⟩ := Has.ex (cC (hReg936.get 19 rfl (hpre 19 rfl)) (cC (hReg936.get 20 rfl (hpre 20 rfl)) cN))
 exact ld (hw:=gY z z z (vN h724)) hI935 1 ag3 z z z<|nl ⟨z, (.inr ⟨hd1, g517, _, hG934, hD522, (Regs.step hReg936 hDi z z z z), hI935⟩)⟩
 rintro D r wd937 (⟨hd2, G933, hG934, hReg936, hI935⟩ | ⟨hd1, g517, G933, hG934, hD522, hReg936, hI935⟩) hDi hpre hpost
 cases (hpre 15 rfl).symm.trans hd2
 obtain ⟨r0, rfl⟩ := Has.ex (cC (hReg936.get 19 rfl (hpre 19 rfl)) (cC (hReg936.get 21 rfl (hpre 21 rfl)) cN))
 exact cv (hw:=gY z z z (vN h724)) bo36 (pages_within_spec hy921 hI935) z z fun wd734 hI735=>nl ⟨z, (.inr ⟨hd1, g517, _, hG934, hD522, (Regs.step hReg936 hDi z z z z), hI735⟩)⟩
 rintro D r wd937 (⟨hd2, G933, hG934, hReg936, hI935⟩ | ⟨hd1, g517, G933, hG934, hD522, hReg936, hI935⟩) hDi hpre hpost
 cases (hpre 15 rfl).symm.trans hd2
 obtain ⟨r0, rfl⟩ := Has.ex (cC (hReg936.get 19 rfl (hpre 19 rfl)) (cC (hReg936.get 22 rfl (hpre 22 rfl)) cN))
 exact q_not (hw:=gY z z z (vN h724)) z<|nl ⟨z, (.inr ⟨hd1, g517, _, hG934, hD522, (Regs.step hReg936 hDi z z z z), hI935⟩)⟩
 rintro D r wd937 (⟨hd2, G933, hG934, hReg936, hI935⟩ | ⟨hd1, g517, G933, hG934, hD522, hReg936, hI935⟩) hDi hpre hpost
 cases (hpre 15 rfl).symm.trans hd2
 obtain ⟨r0, rfl⟩ := Has.ex (cC (hReg936.get 19 rfl (hpre 19 rfl)) (cC (hReg936.get 23 rfl (hpre 23 rfl)) cN))
 exact pkf (vN h724) z<|nl ⟨z, (.inr ⟨hd1, g517, _, hG934, hD522, (Regs.step hReg936 hDi z z z z), hI935⟩)⟩
 rintro D r wd937 (⟨hd2, G933, hG934, hReg936, hI935⟩ | ⟨hd1, g517, G933, hG934, hD522, hReg936, hI935⟩) hDi hpre hpost
 cases (hpre 15 rfl).symm.trans hd2
 obtain ⟨r0, rfl⟩ := Has.ex (cC (hReg936.get 24 rfl (hpre 24 rfl)) cN)
 exact mv z<|nl ⟨z, (.inr ⟨hd1, g517, _, hG934, hD522, (Regs.step hReg936 hDi z z z z), hI935⟩)⟩
 rintro D r wd937 (⟨hd2, G933, hG934, hReg936, hI935⟩ | ⟨hd1, g517, G933, hG934, hD522, hReg936, hI935⟩) hDi hpre hpost
 cases (hpre 15 rfl).symm.trans hd2
 obtain ⟨r0, rfl⟩ := Has.ex (cC (hReg936.get 25 rfl (hpre 25 rfl)) cN)
 exact wN (gN z z z (vY h932) z)<|nl ⟨z, (.inr ⟨hd1, g517, _, hG934, hD522, (Regs.step hReg936 hDi z z z z), hI935⟩)⟩
 rintro D r wd937 (⟨hd2, G933, hG934, hReg936, hI935⟩ | ⟨hd1, g517, G933, hG934, hD522, hReg936, hI935⟩) hDi hpre hpost
 cases (hpre 15 rfl).symm.trans hd2
 obtain ⟨r0, rfl⟩ := Has.ex (cC (hReg936.get 25 rfl (hpre 25 rfl)) cN)
 exact wN (gN z z z (vY h932) z)<|nl ⟨z, (.inr ⟨hd1, g517, _, hG934, hD522, (Regs.step hReg936 hDi z z z z), hI935⟩)⟩
 rintro D r wd937 (⟨hd2, G933, hG934, hReg936, hI935⟩ | ⟨hd1, g517, G933, hG934, hD522, hReg936, hI935⟩) hDi hpre hpost
 cases (hpre 15 rfl).symm.trans hd2
 obtain ⟨r0, rfl⟩ := Has.ex (cC (hReg936.get 25 rfl (hpre 25 rfl)) cN)
 exact wN (gN z z z (vY h932) z)<|nl ⟨z, (.inr ⟨hd1, g517, _, hG934, hD522, (Regs.step hReg936 hDi z z z z), hI935⟩)⟩
 rintro D r wd937 (⟨hd2, G933, hG934, hReg936, hI935⟩ | ⟨hd1, g517, G933, hG934, hD522, hReg936, hI935⟩) hDi hpre hpost
 cases (hpre 15 rfl).symm.trans hd2
 obtain ⟨r0, rfl⟩ := Has.ex (cC (hReg936.get 25 rfl (hpre 25 rfl)) cN)
 exact wN (gN z z z (vY h932) z)<|nl ⟨z, (.inr ⟨hd1, g517, _, hG934, hD522, (Regs.step hReg936 hDi z z z z), hI935⟩)⟩
 rintro D r wd937 (⟨hd2, G933, hG934, hReg936, hI935⟩ | ⟨hd1, g517, G933, hG934, hD522, hReg936, hI935⟩) hDi hpre hpost
 cases (hpre 15 rfl).symm.trans hd2
 obtain ⟨r0, rfl⟩ := Has.ex (cC (hReg936.get 25 rfl (hpre 25 rfl)) (cC (hReg936.get 29 rfl (hpre 29 rfl)) cN))
 exact pkt (vY h932) z<|nl ⟨z, (.inr ⟨hd1, g517, _, hG934, hD522, (Regs.step hReg936 hDi z z z z), hI935⟩)⟩
 rintro D r wd937 (⟨hd2, G933, hG934, hReg936, hI935⟩ | ⟨hd1, g517, G933, hG934, hD522, hReg936, hI935⟩) hDi hpre hpost
 cases (hpre 15 rfl).symm.trans hd2
 obtain ⟨r0, rfl⟩ := Has.ex (cC (hReg936.get 30 rfl (hpre 30 rfl)) cN)
 exact mv z<|nl ⟨z, (.inr ⟨hd1, g517, _, hG934, hD522, (Regs.step hReg936 hDi z z z z), hI935⟩)⟩
 rintro D r wd937 (⟨hd2, G933, hG934, hReg936, hI935⟩ | ⟨hd1, g517, G933, hG934, hD522, hReg936, hI935⟩) hDi hpre hpost
 cases (hpre 15 rfl).symm.trans hd2
 obtain ⟨r0, rfl⟩ := Has.ex (cC (hReg936.get 31 rfl (hpre 31 rfl)) cN)
 exact wN (gN z z z z z)<|nl ⟨z, (.inr ⟨hd1, g517, _, hG934, hD522, (Regs.step hReg936 hDi z z z z), hI935⟩)⟩
 rintro D r wd937 (⟨hd2, G933, hG934, hReg936, hI935⟩ | ⟨hd1, g517, G933, hG934, hD522, hReg936, hI935⟩) hDi hpre hpost
 cases (hpre 15 rfl).symm.trans hd2
 obtain ⟨r0, rfl⟩ := Has.ex (cC (hReg936.get 31 rfl (hpre 31 rfl)) cN)
 exact wN (gN z z z z z)<|nl ⟨z, (.inr ⟨hd1, g517, _, hG934, hD522, (Regs.step hReg936 hDi z z z z), hI935⟩)⟩
 rintro D r wd937 (⟨hd2, G933, hG934, hReg936, hI935⟩ | ⟨hd1, g517, G933, hG934, hD522, hReg936, hI935⟩) hDi hpre hpost
 cases (hpre 15 rfl).symm.trans hd2
 obtain ⟨r0, rfl⟩ := Has.ex (cC (hReg936.get 31 rfl (hpre 31 rfl)) cN)
 exact wN (gN z z z z z)<|nl ⟨z, (.inr ⟨hd1, g517, _, hG934, hD522, (Regs.step hReg936 hDi z z z z), hI935⟩)⟩
 rintro D r wd937 (⟨hd2, G933, hG934, hReg936, hI935⟩ | ⟨hd1, g517, G933, hG934, hD522, hReg936, hI935⟩) hDi hpre hpost
 cases (hpre 15 rfl).symm.trans hd2
 obtain ⟨r0, rfl⟩ := Has.ex (cC (hReg936.get 34 rfl (hpre 34 rfl)) cN)
 exact wN (gN z z z z z)<|nl ⟨z, (.inr ⟨hd1, g517, _, hG934, hD522, (Regs.step hReg936 hDi z z z z), hI935⟩)⟩
 rintro D r wd937 (⟨hd2, G933, hG934, hReg936, hI935⟩ | ⟨hd1, g517, G933, hG934, hD522, hReg936, hI935⟩) hDi hpre hpost
 cases (hpre 15 rfl).symm.trans hd2
 obtain ⟨r0, rfl⟩ := Has.ex (cC (hReg936.get 34 rfl (hpre 34 rfl)) cN)
 exact wN (gN z z z z z)<|nl ⟨z, (.inr ⟨hd1, g517, _, hG934, hD522, (Regs.step hReg936 hDi z z z z), hI935⟩)⟩
 rintro D r wd937 (⟨hd2, G933, hG934, hReg936, hI935⟩ | ⟨hd1, g517, G933, hG934, hD522, hReg936, hI935⟩) hDi hpre hpost
 cases (hpre 15 rfl).symm.trans hd2
 obtain ⟨r0, rfl⟩ := Has.ex (cC (hReg936.get 34 rfl (hpre 34 rfl)) cN)
 exact wN (gN z z z z z)<|nl ⟨z, (.inr ⟨hd1, g517, _, hG934, hD522, (Regs.step hReg936 hDi z z z z), hI935⟩)⟩
 rintro D r wd937 (⟨hd2, G933, hG934, hReg936, hI935⟩ | ⟨hd1, g517, G933, hG934, hD522, hReg936, hI935⟩) hDi hpre hpost
 cases (hpre 15 rfl).symm.trans hd2
 obtain ⟨r0, rfl⟩ := Has.ex (cC (hReg936.get 34 rfl (hpre 34 rfl)) cN)
 exact wN (gN z z z z z)<|nl ⟨z, (.inr ⟨hd1, g517, _, hG934, hD522, (Regs.step hReg936 hDi z z z z), hI935⟩)⟩
 rintro D r wd937 (⟨hd2, G933, hG934, hReg936, hI935⟩ | ⟨hd1, g517, G933, hG934, hD522, hReg936, hI935⟩) hDi hpre hpost
 cases (hpre 15 rfl).symm.trans hd2
 obtain ⟨r0, rfl⟩ := Has.ex (cC (hReg936.get 34 rfl (hpre 34 rfl)) cN)
 exact wN (gN z z z z z)<|nl ⟨z, (.inr ⟨hd1, g517, _, hG934, hD522, (Regs.step hReg936 hDi z z z z), hI935⟩)⟩
 rintro D r wd937 (⟨hd2, G933, hG934, hReg936, hI935⟩ | ⟨hd1, g517, G933, hG934, hD522, hReg936, hI935⟩) hDi hpre hpost
 cases (hpre 15 rfl).symm.trans hd2
 obtain ⟨r0, rfl⟩ := Has.ex (cC (hReg936.get 34 rfl (hpre 34 rfl)) cN)
 exact wN (gN z z z z z)<|nl ⟨z, (.inr ⟨hd1, g517, _, hG934, hD522, (Regs.step hReg936 hDi z z z z), hI935⟩)⟩
 rintro D r wd937 (⟨hd2, G933, hG934, hReg936, hI935⟩ | ⟨hd1, g517, G933, hG934, hD522, hReg936, hI935⟩) hDi hpre hpost
 cases (hpre 15 rfl).symm.trans hd2
 obtain ⟨r0, rfl⟩ := Has.ex (cC (hReg936.get 34 rfl (hpre 34 rfl)) cN)
 exact wN (gN z z z z z)<|nl ⟨z, (.inr ⟨hd1, g517, _, hG934, hD522, (Regs.step hReg936 hDi z z z z), hI935⟩)⟩
 rintro D r wd937 (⟨hd2, G933, hG934, hReg936, hI935⟩ | ⟨hd1, g517, G933, hG934, hD522, hReg936, hI935⟩) hDi hpre hpost
 cases (hpre 15 rfl).symm.trans hd2
 obtain ⟨r0, rfl⟩ := Has.ex (cC (hReg936.get 34 rfl (hpre 34 rfl)) cN)
 exact wN (gN z z z z z)<|nl ⟨z, (.inr ⟨hd1, g517, _, hG934, hD522, (Regs.step hReg936 hDi z z z z), hI935⟩)⟩
 rintro D r wd937 (⟨hd2, G933, hG934, hReg936, hI935⟩ | ⟨hd1, g517, G933, hG934, hD522, hReg936, hI935⟩) hDi hpre hpost
 cases (hpre 15 rfl).symm.trans hd2
 obtain ⟨r0, rfl⟩ := Has.ex (cC (hReg936.get 34 rfl (hpre 34 rfl)) cN)
 exact wN (gN z z z z z)<|nl ⟨z, (.inr ⟨hd1, g517, _, hG934, hD522, (Regs.step hReg936 hDi z z z z), hI935⟩)⟩
 rintro D r wd937 (⟨hd2, G933, hG934, hReg936, hI935⟩ | ⟨hd1, g517, G933, hG934, hD522, hReg936, hI935⟩) hDi hpre hpost
 cases (hpre 15 rfl).symm.trans hd2
 obtain ⟨r0, rfl⟩ := Has.ex (cC (hReg936.get 31 rfl (hpre 31 rfl)) cN)
 exact wN (gN z z z z z)<|nl ⟨z, (.inr ⟨hd1, g517, _, hG934, hD522, (Regs.step hReg936 hDi z z z z), hI935⟩)⟩
 rintro D r wd937 (⟨hd2, G933, hG934, hReg936, hI935⟩ | ⟨hd1, g517, G933, hG934, hD522, hReg936, hI935⟩) hDi hpre hpost
 cases (hpre 15 rfl).symm.trans hd2
 obtain ⟨r0, rfl⟩ := Has.ex (cC (hReg936.get 31 rfl (hpre 31 rfl)) (cC (hReg936.get 44 rfl (hpre 44 rfl)) cN))
 exact pkt z z<|nl ⟨z, (.inr ⟨hd1, g517, _, hG934, hD522, (Regs.step hReg936 hDi z z z z), hI935⟩)⟩
 intro D r wd937 hall hR
 rcases hR with ⟨hd2, G933, hG934, hReg936, hI935⟩ | ⟨hd1, g517, G933, hG934, hD522, hReg936, hI935⟩
 cases (hall 15 (Nat.le_of_ble_eq_true rfl)).symm.trans hd2
 obtain ⟨r0, rfl⟩ := Has.ex (cC (hReg936.ins.get 0 rfl) (cC (hReg936.ins.get 2 rfl) (cC (hReg936.ins.get 3 rfl) (cC (hReg936.ins.get 4 rfl) (cC (hReg936.get 5 rfl (hall 5 (Nat.le_of_ble_eq_true rfl))) (cC (hReg936.get 6 rfl (hall 6 (Nat.le_of_ble_eq_true rfl))) (cC (hReg936.get 7 rfl (hall 7 (Nat.le_of_ble_eq_true rfl))) (cC (hReg936.get 8 rfl (hall 8 (Nat.le_of_ble_eq_true rfl))) (cC (hReg936.get 11 rfl (hall 11 (Nat.le_of_ble_eq_true rfl))) (cC (hReg936.get 12 rfl (hall 12 (Nat.le_of_ble_eq_true rfl))) (cC (hReg936.get 13 rfl (hall 13 (Nat.le_of_ble_eq_true rfl))) (cC (hReg936.get 14 rfl (hall 14 (Nat.le_of_ble_eq_true rfl))) (cC (hReg936.get 15 rfl (hall 15 (Nat.le_of_ble_eq_true rfl))) (cC (hReg936.get 16 rfl (hall 16 (Nat.le_of_ble_eq_true rfl))) (cC (hReg936.get 17 rfl (hall 17 (Nat.le_of_ble_eq_true rfl))) (cC (hReg936.get 20 rfl (hall 20 (Nat.le_of_ble_eq_true rfl))) (cC (hReg936.get 21 rfl (hall 21 (Nat.le_of_ble_eq_true rfl))) (cC (hReg936.get 22 rfl (hall 22 (Nat.le_of_ble_eq_true rfl))) (cC (hReg936.get 23 rfl (hall 23 (Nat.le_of_ble_eq_true rfl))) (cC (hReg936.get 45 rfl (hall 45 (Nat.le_of_ble_eq_true rfl))) cN))))))))))))))))))))
 refine have hI939:=Hp.pick 2 [1] hI935 z;?_
 cases H
 exact je ⟨z, z, z, z, z, tv⟩ (Hp.low hG934 hI939)
 refine nK h932 H fun H=>bK H fun y944 hy1129 H=>dC ((!y944) = true) (fun h1140=>?_) fun h1140=>?_
 refine yK h1140 H fun H=>?_
 refine wpc_drawL [0, 1, 3, 7, 15, 31, 63, 127, 255, 511, 1023, 2047, 4095, 2047, 10239, 32767, 65535, 131071, 262143, 524287, 1048575, 2097151, 4194303, 8388607, 16777215, 33554431, 67108863, 134217727, 268435455, 536870911, 1073741823, 2147483647, 4294967295, 8589934591, 17179869183, 34359738367, 68719476735, 34359738367, 34359738367, 309237645311, 996432412671, 2095944040447, 4294967295999, 8796093022207, 17592186044415, 35184372088831] (fun D r w => (D 15 = false ∧ ∃ (G' : Gh), G ≤ G' ∧ Regs [(0, slice A2 a1.length c3), (6, pointer (some ⟨g72, 0, none⟩)), (17, slice A2 a1.length c3), (18, int .i64 (a1.length : Int)), (19, int .i64 v35)] [] [(0, 24, pointer (some ⟨g72, 0, none⟩)), (1, 25, int .i64 ((a1.getD (Int.toNat v35) z_api_Slice).Node)), (2, 26, bool y108), (3, 27, bool (!y108)), (4, 28, bool (!y108)), (5, 29, pointer (some ⟨g72, 1, none⟩)), (6, 30, int .i64 ((a1.getD (Int.toNat v35) z_api_Slice).Table)), (7, 31, bool y314), (8, 32, bool (!y314)), (9, 33, bool (!y314)), (10, 34, bool (!y314)), (11, 35, pointer (some ⟨g72, 2, none⟩)), (12, 36, int .i64 ((a1.getD (Int.toNat v35) z_api_Slice).X)), (13, 37, pointer (some ⟨g72, 3, none⟩)), (14, 38, int .i64 ((a1.getD (Int.toNat v35) z_api_Slice).Y))] D r ∧ Hp G' (bx g72 [int .i64 ((a1.getD (Int.toNat v35) z_api_Slice).Node), int .i64 ((a1.getD (Int.toNat v35) z_api_Slice).Table), int .i64 ((a1.getD (Int.toNat v35) z_api_Slice).X), int .i64 ((a1.getD (Int.toNat v35) z_api_Slice).Y), int .i64 ((a1.getD (Int.toNat v35) z_api_Slice).H), string ((a1.getD (Int.toNat v35) z_api_Slice).Text), bool ((a1.getD (Int.toNat v35) z_api_Slice).Head), bool ((a1.getD (Int.toNat v35) z_api_Slice).Note)] 36 :: L) w) ∨ (D 15 = true ∧ ∃ (g517 : Nat) (G' : Gh), G ≤ G' ∧ Dat (Kd.int .i64) G' (some ⟨g517, 0, none⟩) ([(a1.getD (Int.toNat v35) z_api_Slice).X, (a1.getD (Int.toNat v35) z_api_Slice).Y] : List Int) ∧ Regs [(0, slice A2 a1.length c3), (6, pointer (some ⟨g72, 0, none⟩)), (17, slice A2 a1.length c3), (18, int .i64 (a1.length : Int)), (19, int .i64 v35)] [] [(0, 24, pointer (some ⟨g72, 0, none⟩)), (1, 25, int .i64 ((a1.getD (Int.toNat v35) z_api_Slice).Node)), (2, 26, bool y108), (3, 27, bool (!y108)), (4, 28, bool (!y108)), (5, 29, pointer (some ⟨g72, 1, none⟩)), (6, 30, int .i64 ((a1.getD (Int.toNat v35) z_api_Slice).Table)), (7, 31, bool y314), (8, 32, bool (!y314)), (9, 33, bool (!y314)), (10, 34, bool (!y314)), (11, 35, pointer (some ⟨g72, 2, none⟩)), (12, 36, int .i64 ((a1.getD (Int.toNat v35) z_api_Slice).X)), (13, 37, pointer (some ⟨g72, 3, none⟩)), (14, 38, int .i64 ((a1.getD (Int.toNat v35) z_api_Slice).Y)), (15, 39, slice (some ⟨g517, 0, none⟩) ([(a1.getD (Int.toNat v35) z_api_Slice).X, (a1.getD (Int.toNat v35) z_api_Slice).Y] : List Int).length 2), (16, 40, bool y528), (17, 41, bool (!y528)), (18, 42, bool (!y528)), (19, 43, bool (!y528)), (20, 44, pointer (some ⟨g72, 4, none⟩)), (21, 45, int .i64 ((a1.getD (Int.toNat v35) z_api_Slice).H)), (22, 46, bool y736), (23, 47, bool (!y736)), (24, 48, bool (!y736)), (25, 49, bool (!y736)), (26, 50, pointer (some ⟨g72, 5, none⟩)), (27, 51, string ((a1.getD (Int.toNat v35) z_api_Slice).Text)), (28, 52, bool y944), (29, 53, bool (!y944)), (30, 54, bool (!y944)), (31, 55, bool (!y944)), (32, 56, undef), (33, 57, undef), (34, 58, undef), (35, 59, undef), (36, 60, undef), (37, 61, undef), (38, 62, undef), (39, 63, undef), (40, 64, undef), (41, 65, undef), (42, 66, undef), (43, 67, undef), (44, 68, undef), (45, 69, bool true)] D r ∧ Hp G' (tk (slice (some ⟨g517, 0, none⟩) ([(a1.getD (Int.toNat v35) z_api_Slice).X, (a1.getD (Int.toNat v35) z_api_Slice).Y] : List Int).length 2) 1 3 :: bx g72 [int .i64 ((a1.getD (Int.toNat v35) z_api_Slice).Node), int .i64 ((a1.getD (Int.toNat v35) z_api_Slice).Table), int .i64 ((a1.getD (Int.toNat v35) z_api_Slice).X), int .i64 ((a1.getD (Int.toNat v35) z_api_Slice).Y), int .i64 ((a1.getD (Int.toNat v35) z_api_Slice).H), string ((a1.getD (Int.toNat v35) z_api_Slice).Text), bool ((a1.getD (Int.toNat v35) z_api_Slice).Head), bool ((a1.getD (Int.toNat v35) z_api_Slice).Note)] 36 :: L) w)) mixo z z ?_ ?_ ?_
 exact (.inl ⟨z, _, Gh.le_refl _, Regs.start ⟨z, z, z, z, z, tv⟩ trivial, hI76.drew⟩)
 refine ⟨?_, ?_, ?_, ?_, ?_, ?_, ?_, ?_, ?_, ?_, ?_, ?_, ?_, ?_, ?_, ?_, ?_, ?_, ?_, ?_, ?_, ?_, ?_, ?_, ?_, ?_, ?_, ?_, ?_, ?_, ?_, ?_, ?_, ?_, ?_, ?_, ?_, ?_, ?_, ?_, ?_, ?_, ?_, ?_, ?_, ?_, tv⟩
 rintro D r wd1145 (⟨hd2, G1141, hG1142, hReg1144, hI1143⟩ | ⟨hd1, g517, G1141, hG1142, hD522, hReg1144, hI1143⟩) hDi hpre hpost
 obtain ⟨r0, rfl⟩ := Has.ex (cC (hReg1144.ins.get 1 rfl) cN)
 exact fa fl36_0 z<|nl ⟨z, (.inl ⟨hd2, _, hG1142, (Regs.step hReg1144 hDi z z z z), hI1143⟩)⟩
 cases (hpost 15 rfl).symm.trans hd1
 rintro D r wd1145 (⟨hd2, G1141, hG1142, hReg1144, hI1143⟩ | ⟨hd1, g517, G1141, hG1142, hD522, hReg1144, hI1143⟩) hDi hpre hpost
 obtain ⟨r0, rfl⟩ := Has.ex (cC (hReg1144.get 0 rfl (hpre 0 rfl)) cN)
 exact ld hI1143 0 ag3 z z z<|nl ⟨z, (.inl ⟨hd2, _, hG1142, (Regs.step hReg1144 hDi z z z z), hI1143⟩)⟩
 cases (hpost 15 rfl).symm.trans hd1
 rintro D r wd1145 (⟨hd2, G1141, hG1142, hReg1144, hI1143⟩ | ⟨hd1, g517, G1141, hG1142, hD522, hReg1144, hI1143⟩) hDi hpre hpost
 obtain ⟨r0, rfl⟩ := Has.ex (cC (hReg1144.get 1 rfl (hpre 1 rfl)) cN)
 exact cv bo36 (pages_within_spec hy293 hI1143) z z fun wd106 hI107=>nl ⟨z, (.inl ⟨hd2, _, hG1142, (Regs.step hReg1144 hDi z z z z), hI107⟩)⟩
 cases (hpost 15 rfl).symm.trans hd1
 rintro D r wd1145 (⟨hd2, G1141, hG1142, hReg1144, hI1143⟩ | ⟨hd1, g517, G1141, hG1142, hD522, hReg1144, hI1143⟩) hDi hpre hpost
 obtain ⟨r0, rfl⟩ := Has.ex (cC (hReg1144.get 2 rfl (hpre 2 rfl)) cN)
 exact q_not z<|nl ⟨z, (.inl ⟨hd2, _, hG1142, (Regs.step hReg1144 hDi z z z z), hI1143⟩)⟩
 cases (hpost 15 rfl).symm.trans hd1
 rintro D r wd1145 (⟨hd2, G1141, hG1142, hReg1144, hI1143⟩ | ⟨hd1, g517, G1141, hG1142, hD522, hReg1144, hI1143⟩) hDi hpre hpost
 obtain ⟨r0, rfl⟩ := Has.ex (cC (hReg1144.get 3 rfl (hpre 3 rfl)) cN)
 exact mv z<|nl ⟨z, (.inl ⟨hd2, _, hG1142, (Regs.step hReg1144 hDi z z z z), hI1143⟩)⟩
 cases (hpost 15 rfl).symm.trans hd1
 rintro D r wd1145 (⟨hd2, G1141, hG1142, hReg1144, hI1143⟩ | ⟨hd1, g517, G1141, hG1142, hD522, hReg1144, hI1143⟩) hDi hpre hpost
 obtain ⟨r0, rfl⟩ := Has.ex (cC (hReg1144.ins.get 1 rfl) (cC (hReg1144.get 4 rfl (hpre 4 rfl)) cN))
 exact fa (hw:=gY z z z (vN h304)) fl36_1 z<|nl ⟨z, (.inl ⟨hd2, _, hG1142, (Regs.step hReg1144 hDi z z z z), hI1143⟩)⟩
 cases (hpost 15 rfl).symm.trans hd1
 rintro D r wd1145 (⟨hd2, G1141, hG1142, hReg1144, hI1143⟩ | ⟨hd1, g517, G1141, hG1142, hD522, hReg1144, hI1143⟩) hDi hpre hpost
 obtain ⟨r0, rfl⟩ := Has.ex (cC (hReg1144.get 4 rfl (hpre 4 rfl)) (cC (hReg1144.get 5 rfl (hpre 5 rfl)) cN))
 exact ld (hw:=gY z z z (vN h304)) hI1143 0 ag3 z z z<|nl ⟨z, (.inl ⟨hd2, _, hG1142, (Regs.step hReg1144 hDi z z z z), hI1143⟩)⟩
 cases (hpost 15 rfl).symm.trans hd1
 rintro D r wd1145 (⟨hd2, G1141, hG1142, hReg1144, hI1143⟩ | ⟨hd1, g517, G1141, hG1142, hD522, hReg1144, hI1143⟩) hDi hpre hpost
 obtain ⟨r0, rfl⟩ := Has.ex (cC (hReg1144.get 4 rfl (hpre 4 rfl)) (cC (hReg1144.get 6 rfl (hpre 6 rfl)) cN))
 exact cv (hw:=gY z z z (vN h304)) bo36 (pages_within_spec hy499 hI1143) z z fun wd312 hI313=>nl ⟨z, (.inl ⟨hd2, _, hG1142, (Regs.step hReg1144 hDi z z z z), hI313⟩)⟩
 cases (hpost 15 rfl).symm.trans hd1
 rintro D r wd1145 (⟨hd2, G1141, hG1142, hReg1144, hI1143⟩ | ⟨hd1, g517, G1141, hG1142, hD522, hReg1144, hI1143⟩) hDi hpre hpost
 obtain ⟨r0, rfl⟩ := Has.ex (cC (hReg1144.get 4 rfl (hpre 4 rfl)) (cC (hReg1144.get 7 rfl (hpre 7 rfl)) cN))
 exact q_not (hw:=gY z z z (vN h304)) z<|nl ⟨z, (.inl ⟨hd2, _, hG1142, (Regs.step hReg1144 hDi z z z z), hI1143⟩)⟩
 cases (hpost 15 rfl).symm.trans hd1
 rintro D r wd1145 (⟨hd2, G1141, hG1142, hReg1144, hI1143⟩ | ⟨hd1, g517, G1141, hG1142, hD522, hReg1144, hI1143⟩) hDi hpre hpost
 obtain ⟨r0, rfl⟩ := Has.ex (cC (hReg1144.get 4 rfl (hpre 4 rfl)) (cC (hReg1144.get 8 rfl (hpre 8 rfl)) cN))
 exact pkf (vN h304) z<|nl ⟨z, (.inl ⟨hd2, _, hG1142, (Regs.step hReg1144 hDi z z z z), hI1143⟩)⟩
 cases (hpost 15 rfl).symm.trans hd1
 rintro D r wd1145 (⟨hd2, G1141, hG1142, hReg1144, hI1143⟩ | ⟨hd1, g517, G1141, hG1142, hD522, hReg1144, hI1143⟩) hDi hpre hpost
 obtain ⟨r0, rfl⟩ := Has.ex (cC (hReg1144.get 9 rfl (hpre 9 rfl)) cN)
 exact mv z<|nl ⟨z, (.inl ⟨hd2, _, hG1142, (Regs.step hReg1144 hDi z z z z), hI1143⟩)⟩
 cases (hpost 15 rfl).symm.trans hd1
 rintro D r wd1145 (⟨hd2, G1141, hG1142, hReg1144, hI1143⟩ | ⟨hd1, g517, G1141, hG1142, hD522, hReg1144, hI1143⟩) hDi hpre hpost
 obtain ⟨r0, rfl⟩ := Has.ex (cC (hReg1144.ins.get 1 rfl) (cC (hReg1144.get 10 rfl (hpre 10 rfl)) cN))
 exact fa (hw:=gY z z z (vN h510)) fl36_2 z<|nl ⟨z, (.inl ⟨hd2, _, hG1142, (Regs.step hReg1144 hDi z z z z), hI1143⟩)⟩
 cases (hpost 15 rfl).symm.trans hd1
 rintro D r wd1145 (⟨hd2, G1141, hG1142, hReg1144, hI1143⟩ | ⟨hd1, g517, G1141, hG1142, hD522, hReg1144, hI1143⟩) hDi hpre hpost
 obtain ⟨r0, rfl⟩ := Has.ex (cC (hReg1144.get 10 rfl (hpre 10 rfl)) (cC (hReg1144.get 11 rfl (hpre 11 rfl)) cN))
 exact ld (hw:=gY z z z (vN h510)) hI1143 0 ag3 z z z<|nl ⟨z, (.inl ⟨hd2, _, hG1142, (Regs.step hReg1144 hDi z z z z), hI1143⟩)⟩
 cases (hpost 15 rfl).symm.trans hd1
 rintro D r wd1145 (⟨hd2, G1141, hG1142, hReg1144, hI1143⟩ | ⟨hd1, g517, G1141, hG1142, hD522, hReg1144, hI1143⟩) hDi hpre hpost
 obtain ⟨r0, rfl⟩ := Has.ex (cC (hReg1144.ins.get 1 rfl) (cC (hReg1144.get 10 rfl (hpre 10 rfl)) cN))
 exact fa (hw:=gY z z z (vN h510)) fl36_3 z<|nl ⟨z, (.inl ⟨hd2, _, hG1142, (Regs.step hReg1144 hDi z z z z), hI1143⟩)⟩
 cases (hpost 15 rfl).symm.trans hd1
 rintro D r wd1145 (⟨hd2, G1141, hG1142, hReg1144, hI1143⟩ | ⟨hd1, g517, G1141, hG1142, hD522, hReg1144, hI1143⟩) hDi hpre hpost
 obtain ⟨r0, rfl⟩ := Has.ex (cC (hReg1144.get 10 rfl (hpre 10 rfl)) (cC (hReg1144.get 13 rfl (hpre 13 rfl)) cN))
 exact ld (hw:=gY z z z (vN h510)) hI1143 0 ag3 z z z<|nl ⟨z, (.inl ⟨hd2, _, hG1142, (Regs.step hReg1144 hDi z z z z), hI1143⟩)⟩
 cases (hpost 15 rfl).symm.trans hd1
 rintro D r wd1145 (⟨hd2, G1141, hG1142, hReg1144, hI1143⟩ | ⟨hd1, g517, G1141, hG1142, hD522, hReg1144, hI1143⟩) hDi hpre hpost
 obtain ⟨r0, rfl⟩ := Has.ex (cC (hReg1144.get 10 rfl (hpre 10 rfl)) (cC (hReg1144.get 12 rfl (hpre 12 rfl)) (cC (hReg1144.get 14 rfl (hpre 14 rfl)) cN)))
 refine q_bs hI1143 (vs := [(0, int .i64 ((a1.getD (Int.toNat v35) z_api_Slice).X)), (1, int .i64 ((a1.getD (Int.toNat v35) z_api_Slice).Y))]) (cs := [int .i64 ((a1.getD (Int.toNat v35) z_api_Slice).X), int .i64 ((a1.getD (Int.toNat v35) z_api_Slice).Y)]) el65 ze3 rfl (by decide) rfl (by kernel_rfl) (fun g517 wd518 hI519 => ?_) (hw := gY rfl rfl rfl (bval_no h510))
 obtain ⟨G520, hG521, hI523, hD522⟩ := Hp.publish (xs := ([(a1.getD (Int.toNat v35) z_api_Slice).X, (a1.getD (Int.toNat v35) z_api_Slice).Y] : List Int)) (n := 2) (Kd.int .i64) hI519 ⟨[int .i64 ((a1.getD (Int.toNat v35) z_api_Slice).X)], _, rfl, rfl, ⟨[int .i64 ((a1.getD (Int.toNat v35) z_api_Slice).Y)], _, rfl, rfl, rfl⟩⟩ rfl
 exact nl ⟨z, (.inr ⟨z, g517, _, (gT hG1142 hG521), hD522, (Regs.step (Regs.more (new := [(15, 39, slice (some ⟨g517, 0, none⟩) ([(a1.getD (Int.toNat v35) z_api_Slice).X, (a1.getD (Int.toNat v35) z_api_Slice).Y] : List Int).length 2), (16, 40, bool y528), (17, 41, bool (!y528)), (18, 42, bool (!y528)), (19, 43, bool (!y528)), (20, 44, pointer (some ⟨g72, 4, none⟩)), (21, 45, int .i64 ((a1.getD (Int.toNat v35) z_api_Slice).H)), (22, 46, bool y736), (23, 47, bool (!y736)), (24, 48, bool (!y736)), (25, 49, bool (!y736)), (26, 50, pointer (some ⟨g72, 5, none⟩)), (27, 51, string ((a1.getD (Int.toNat v35) z_api_Slice).Text)), (28, 52, bool y944), (29, 53, bool (!y944)), (30, 54, bool (!y944)), (31, 55, bool (!y944)), (32, 56, undef), (33, 57, undef), (34, 58, undef), (35, 59, undef), (36, 60, undef), (37, 61, undef), (38, 62, undef), (39, 63, undef), (40, 64, undef), (41, 65, undef), (42, 66, undef), (43, 67, undef), (44, 68, undef), (45, 69, bool true)]) hReg1144 (List.forall_mem_cons.2 ⟨hDi, (List.forall_mem_cons.2 ⟨hpost 16 z, (List.forall_mem_cons.2 ⟨hpost 17 z, (List.forall_mem_cons.2 ⟨hpost 18 z, (List.forall_mem_cons.2 ⟨hpost 19 z, (List.forall_mem_cons.2 ⟨hpost 20 z, (List.forall_mem_cons.2 ⟨hpost 21 z, (List.forall_mem_cons.2 ⟨hpost 22 z, (List.forall_mem_cons.2 ⟨hpost 23 z, (List.forall_mem_cons.2 ⟨hpost 24 z, (List.forall_mem_cons.2 ⟨hpost 25 z, (List.forall_mem_cons.2 ⟨hpost 26 z, (List.forall_mem_cons.2 ⟨hpost 27 z, (List.forall_mem_cons.2 ⟨hpost 28 z, (List.forall_mem_cons.2 ⟨hpost 29 z, (List.forall_mem_cons.2 ⟨hpost 30 z, (List.forall_mem_cons.2 ⟨hpost 31 z, (List.forall_mem_cons.2 ⟨hpost 32 z, (List.forall_mem_cons.2 ⟨hpost 33 z, (List.forall_mem_cons.2 ⟨hpost 34 z, (List.forall_mem_cons.2 ⟨hpost 35 z, (List.forall_mem_cons.2 ⟨hpost 36 z, (List.forall_mem_cons.2 ⟨hpost 37 z, (List.forall_mem_cons.2 ⟨hpost 38 z, (List.forall_mem_cons.2 ⟨hpost 39 z, (List.forall_mem_cons.2 ⟨hpost 40 z, (List.forall_mem_cons.2 ⟨hpost 41 z, (List.forall_mem_cons.2 ⟨hpost 42 z, (List.forall_mem_cons.2 ⟨hpost 43 z, (List.forall_mem_cons.2 ⟨hpost 44 z, (List.forall_mem_cons.2 ⟨hpost 45 z, (fun _ h => nomatch h)⟩)⟩)⟩)⟩)⟩)⟩)⟩)⟩)⟩)⟩)⟩)⟩)⟩)⟩)⟩)⟩)⟩)⟩)⟩)⟩)⟩)⟩)⟩)⟩)⟩)⟩)⟩)⟩)⟩)⟩)⟩)) hDi z z z z), hI523⟩)⟩
 cases hDi.symm.trans hd1
 rintro D r wd1145 (⟨hd2, G1141, hG1142, hReg1144, hI1143⟩ | ⟨hd1, g517, G1141, hG1142, hD522, hReg1144, hI1143⟩) hDi hpre hpost
 cases (hpre 15 rfl).symm.trans hd2
 obtain ⟨r0, rfl⟩ := Has.ex (cC (hReg1144.get 10 rfl (hpre 10 rfl)) (cC (hReg1144.get 15 rfl (hpre 15 rfl)) cN))
 exact cv (hw:=gY z z z (vN h510)) bo39 (pages_areCoords_spec (a1 := ([(a1.getD (Int.toNat v35) z_api_Slice).X, (a1.getD (Int.toNat v35) z_api_Slice).Y] : List Int)) hy713 hI1143 (show ([(a1.getD (Int.toNat v35) z_api_Slice).X, (a1.getD (Int.toNat v35) z_api_Slice).Y] : List Int).length ≤ 2 from Nat.le_of_ble_eq_true z) hD522) z z fun wd526 hI527=>nl ⟨z, (.inr ⟨hd1, g517, _, hG1142, hD522, (Regs.step hReg1144 hDi z z z z), hI527⟩)⟩
 rintro D r wd1145 (⟨hd2, G1141, hG1142, hReg1144, hI1143⟩ | ⟨hd1, g517, G1141, hG1142, hD522, hReg1144, hI1143⟩) hDi hpre hpost
 cases (hpre 15 rfl).symm.trans hd2
 obtain ⟨r0, rfl⟩ := Has.ex (cC (hReg1144.get 10 rfl (hpre 10 rfl)) (cC (hReg1144.get 16 rfl (hpre 16 rfl)) cN))
 exact q_not (hw:=gY z z z (vN h510)) z<|nl ⟨z, (.inr ⟨hd1, g517, _, hG1142, hD522, (Regs.step hReg1144 hDi z z z z), hI1143⟩)⟩
 rintro D r wd1145 (⟨hd2, G1141, hG1142, hReg1144, hI1143⟩ | ⟨hd1, g517, G1141, hG1142, hD522, hReg1144, hI1143⟩) hDi hpre hpost
 cases (hpre 15 rfl).symm.trans hd2
 obtain ⟨r0, rfl⟩ := Has.ex (cC (hReg1144.get 10 rfl (hpre 10 rfl)) (cC (hReg1144.get 17 rfl (hpre 17 rfl)) cN))
 exact pkf (vN h510) z<|nl ⟨z, (.inr ⟨hd1, g517, _, hG1142, hD522, (Regs.step hReg1144 hDi z z z z), hI1143⟩)⟩
 rintro D r wd1145 (⟨hd2, G1141, hG1142, hReg1144, hI1143⟩ | ⟨hd1, g517, G1141, hG1142, hD522, hReg1144, hI1143⟩) hDi hpre hpost
 cases (hpre 15 rfl).symm.trans hd2
 obtain ⟨r0, rfl⟩ := Has.ex (cC (hReg1144.get 18 rfl (hpre 18 rfl)) cN)
 exact mv z<|nl ⟨z, (.inr ⟨hd1, g517, _, hG1142, hD522, (Regs.step hReg1144 hDi z z z z), hI1143⟩)⟩
 rintro D r wd1145 (⟨hd2, G1141, hG1142, hReg1144, hI1143⟩ | ⟨hd1, g517, G1141, hG1142, hD522, hReg1144, hI1143⟩) hDi hpre hpost
 cases (hpre 15 rfl).symm.trans hd2
 obtain ⟨r0, rfl⟩ := Has.ex (cC (hReg1144.ins.get 1 rfl) (cC (hReg1144.get 19 rfl (hpre 19 rfl)) cN))
 exact fa (hw:=gY z z z (vN h724)) fl36_4 z<|nl ⟨z, (.inr ⟨hd1, g517, _, hG1142, hD522, (Regs.step hReg1144 hDi z z z z), hI1143⟩)⟩
 rintro D r wd1145 (⟨hd2, G1141, hG1142, hReg1144, hI1143⟩ | ⟨hd1, g517, G1141, hG1142, hD522, hReg1144, hI1143⟩) hDi hpre hpost
 cases (hpre 15 rfl).symm.trans hd2
 obtain ⟨r0, rfl⟩ := Has.ex (cC (hReg1144.get 19 rfl (hpre 19 rfl)) (cC (hReg1144.get 20 rfl (hpre 20 rfl)) cN))
 exact ld (hw:=gY z z z (vN h724)) hI1143 1 ag3 z z z<|nl ⟨z, (.inr ⟨hd1, g517, _, hG1142, hD522, (Regs.step hReg1144 hDi z z z z), hI1143⟩)⟩
 rintro D r wd1145 (⟨hd2, G1141, hG1142, hReg1144, hI1143⟩ | ⟨hd1, g517, G1141, hG1142, hD522, hReg1144, hI1143⟩) hDi hpre hpost
 cases (hpre 15 rfl).symm.trans hd2
 obtain ⟨r0, rfl⟩ := Has.ex (cC (hReg1144.get 19 rfl (hpre 19 rfl)) (cC (hReg1144.get 21 rfl (hpre 21 rfl)) cN))
 exact cv (hw:=gY z z z (vN h724)) bo36 (pages_within_spec hy921 hI1143) z z fun wd734 hI735=>nl ⟨z, (.inr ⟨hd1, g517, _, hG1142, hD522, (Regs.step hReg1144 hDi z z z z), hI735⟩)⟩
 rintro D r wd1145 (⟨hd2, G1141, hG1142, hReg1144, hI1143⟩ | ⟨hd1, g517, G1141, hG1142, hD522, hReg1144, hI1143⟩) hDi hpre hpost
 cases (hpre 15 rfl).symm.trans hd2
 obtain ⟨r0, rfl⟩ := Has.ex (cC (hReg1144.get 19 rfl (hpre 19 rfl)) (cC (hReg1144.get 22 rfl (hpre 22 rfl)) cN))
 exact q_not (hw:=gY z z z (vN h724)) z<|nl ⟨z, (.inr ⟨hd1, g517, _, hG1142, hD522, (Regs.step hReg1144 hDi z z z z), hI1143⟩)⟩
 rintro D r wd1145 (⟨hd2, G1141, hG1142, hReg1144, hI1143⟩ | ⟨hd1, g517, G1141, hG1142, hD522, hReg1144, hI1143⟩) hDi hpre hpost
 cases (hpre 15 rfl).symm.trans hd2
 obtain ⟨r0, rfl⟩ := Has.ex (cC (hReg1144.get 19 rfl (hpre 19 rfl)) (cC (hReg1144.get 23 rfl (hpre 23 rfl)) cN))
 exact pkf (vN h724) z<|nl ⟨z, (.inr ⟨hd1, g517, _, hG1142, hD522, (Regs.step hReg1144 hDi z z z z), hI1143⟩)⟩
 rintro D r wd1145 (⟨hd2, G1141, hG1142, hReg1144, hI1143⟩ | ⟨hd1, g517, G1141, hG1142, hD522, hReg1144, hI1143⟩) hDi hpre hpost
 cases (hpre 15 rfl).symm.trans hd2
 obtain ⟨r0, rfl⟩ := Has.ex (cC (hReg1144.get 24 rfl (hpre 24 rfl)) cN)
 exact mv z<|nl ⟨z, (.inr ⟨hd1, g517, _, hG1142, hD522, (Regs.step hReg1144 hDi z z z z), hI1143⟩)⟩
 rintro D r wd1145 (⟨hd2, G1141, hG1142, hReg1144, hI1143⟩ | ⟨hd1, g517, G1141, hG1142, hD522, hReg1144, hI1143⟩) hDi hpre hpost
 cases (hpre 15 rfl).symm.trans hd2
 obtain ⟨r0, rfl⟩ := Has.ex (cC (hReg1144.ins.get 1 rfl) (cC (hReg1144.get 25 rfl (hpre 25 rfl)) cN))
 exact fa (hw:=gY z z z (vN h932)) fl36_5 z<|nl ⟨z, (.inr ⟨hd1, g517, _, hG1142, hD522, (Regs.step hReg1144 hDi z z z z), hI1143⟩)⟩
 rintro D r wd1145 (⟨hd2, G1141, hG1142, hReg1144, hI1143⟩ | ⟨hd1, g517, G1141, hG1142, hD522, hReg1144, hI1143⟩) hDi hpre hpost
 cases (hpre 15 rfl).symm.trans hd2
 obtain ⟨r0, rfl⟩ := Has.ex (cC (hReg1144.get 25 rfl (hpre 25 rfl)) (cC (hReg1144.get 26 rfl (hpre 26 rfl)) cN))
 exact ld (hw:=gY z z z (vN h932)) hI1143 1 ag9 z z z<|nl ⟨z, (.inr ⟨hd1, g517, _, hG1142, hD522, (Regs.step hReg1144 hDi z z z z), hI1143⟩)⟩
 rintro D r wd1145 (⟨hd2, G1141, hG1142, hReg1144, hI1143⟩ | ⟨hd1, g517, G1141, hG1142, hD522, hReg1144, hI1143⟩) hDi hpre hpost
 cases (hpre 15 rfl).symm.trans hd2
 obtain ⟨r0, rfl⟩ := Has.ex (cC (hReg1144.get 25 rfl (hpre 25 rfl)) (cC (hReg1144.get 27 rfl (hpre 27 rfl)) cN))
 exact cv (hw:=gY z z z (vN h932)) bo40 (text_Valid_spec hy1129 hI1143) z z fun wd942 hI943=>nl ⟨z, (.inr ⟨hd1, g517, _, hG1142, hD522, (Regs.step hReg1144 hDi z z z z), hI943⟩)⟩
 rintro D r wd1145 (⟨hd2, G1141, hG1142, hReg1144, hI1143⟩ | ⟨hd1, g517, G1141, hG1142, hD522, hReg1144, hI1143⟩) hDi hpre hpost
 cases (hpre 15 rfl).symm.trans hd2
 obtain ⟨r0, rfl⟩ := Has.ex (cC (hReg1144.get 25 rfl (hpre 25 rfl)) (cC (hReg1144.get 28 rfl (hpre 28 rfl)) cN))
 exact q_not (hw:=gY z z z (vN h932)) z<|nl ⟨z, (.inr ⟨hd1, g517, _, hG1142, hD522, (Regs.step hReg1144 hDi z z z z), hI1143⟩)⟩
 rintro D r wd1145 (⟨hd2, G1141, hG1142, hReg1144, hI1143⟩ | ⟨hd1, g517, G1141, hG1142, hD522, hReg1144, hI1143⟩) hDi hpre hpost
 cases (hpre 15 rfl).symm.trans hd2
 obtain ⟨r0, rfl⟩ := Has.ex (cC (hReg1144.get 25 rfl (hpre 25 rfl)) (cC (hReg1144.get 29 rfl (hpre 29 rfl)) cN))
 exact pkf (vN h932) z<|nl ⟨z, (.inr ⟨hd1, g517, _, hG1142, hD522, (Regs.step hReg1144 hDi z z z z), hI1143⟩)⟩
 rintro D r wd1145 (⟨hd2, G1141, hG1142, hReg1144, hI1143⟩ | ⟨hd1, g517, G1141, hG1142, hD522, hReg1144, hI1143⟩) hDi hpre hpost
 cases (hpre 15 rfl).symm.trans hd2
 obtain ⟨r0, rfl⟩ := Has.ex (cC (hReg1144.get 30 rfl (hpre 30 rfl)) cN)
 exact mv z<|nl ⟨z, (.inr ⟨hd1, g517, _, hG1142, hD522, (Regs.step hReg1144 hDi z z z z), hI1143⟩)⟩
 rintro D r wd1145 (⟨hd2, G1141, hG1142, hReg1144, hI1143⟩ | ⟨hd1, g517, G1141, hG1142, hD522, hReg1144, hI1143⟩) hDi hpre hpost
 cases (hpre 15 rfl).symm.trans hd2
 obtain ⟨r0, rfl⟩ := Has.ex (cC (hReg1144.get 31 rfl (hpre 31 rfl)) cN)
 exact wN (gN z z z (vY h1140) z)<|nl ⟨z, (.inr ⟨hd1, g517, _, hG1142, hD522, (Regs.step hReg1144 hDi z z z z), hI1143⟩)⟩
 rintro D r wd1145 (⟨hd2, G1141, hG1142, hReg1144, hI1143⟩ | ⟨hd1, g517, G1141, hG1142, hD522, hReg1144, hI1143⟩) hDi hpre hpost
 cases (hpre 15 rfl).symm.trans hd2
 obtain ⟨r0, rfl⟩ := Has.ex (cC (hReg1144.get 31 rfl (hpre 31 rfl)) cN)
 exact wN (gN z z z (vY h1140) z)<|nl ⟨z, (.inr ⟨hd1, g517, _, hG1142, hD522, (Regs.step hReg1144 hDi z z z z), hI1143⟩)⟩
 rintro D r wd1145 (⟨hd2, G1141, hG1142, hReg1144, hI1143⟩ | ⟨hd1, g517, G1141, hG1142, hD522, hReg1144, hI1143⟩) hDi hpre hpost
 cases (hpre 15 rfl).symm.trans hd2
 obtain ⟨r0, rfl⟩ := Has.ex (cC (hReg1144.get 31 rfl (hpre 31 rfl)) cN)
 exact wN (gN z z z (vY h1140) z)<|nl ⟨z, (.inr ⟨hd1, g517, _, hG1142, hD522, (Regs.step hReg1144 hDi z z z z), hI1143⟩)⟩
 rintro D r wd1145 (⟨hd2, G1141, hG1142, hReg1144, hI1143⟩ | ⟨hd1, g517, G1141, hG1142, hD522, hReg1144, hI1143⟩) hDi hpre hpost
 cases (hpre 15 rfl).symm.trans hd2
 obtain ⟨r0, rfl⟩ := Has.ex (cC (hReg1144.get 34 rfl (hpre 34 rfl)) cN)
 exact wN (gN z z z z z)<|nl ⟨z, (.inr ⟨hd1, g517, _, hG1142, hD522, (Regs.step hReg1144 hDi z z z z), hI1143⟩)⟩
 rintro D r wd1145 (⟨hd2, G1141, hG1142, hReg1144, hI1143⟩ | ⟨hd1, g517, G1141, hG1142, hD522, hReg1144, hI1143⟩) hDi hpre hpost
 cases (hpre 15 rfl).symm.trans hd2
 obtain ⟨r0, rfl⟩ := Has.ex (cC (hReg1144.get 34 rfl (hpre 34 rfl)) cN)
 exact wN (gN z z z z z)<|nl ⟨z, (.inr ⟨hd1, g517, _, hG1142, hD522, (Regs.step hReg1144 hDi z z z z), hI1143⟩)⟩
 rintro D r wd1145 (⟨hd2, G1141, hG1142, hReg1144, hI1143⟩ | ⟨hd1, g517, G1141, hG1142, hD522, hReg1144, hI1143⟩) hDi hpre hpost
 cases (hpre 15 rfl).symm.trans hd2
 obtain ⟨r0, rfl⟩ := Has.ex (cC (hReg1144.get 34 rfl (hpre 34 rfl)) cN)
 exact wN (gN z z z z z)<|nl ⟨z, (.inr ⟨hd1, g517, _, hG1142, hD522, (Regs.step hReg1144 hDi z z z z), hI1143⟩)⟩
 rintro D r wd1145 (⟨hd2, G1141, hG1142, hReg1144, hI1143⟩ | ⟨hd1, g517, G1141, hG1142, hD522, hReg1144, hI1143⟩) hDi hpre hpost
 cases (hpre 15 rfl).symm.trans hd2
 obtain ⟨r0, rfl⟩ := Has.ex (cC (hReg1144.get 34 rfl (hpre 34 rfl)) cN)
 exact wN (gN z z z z z)<|nl ⟨z, (.inr ⟨hd1, g517, _, hG1142, hD522, (Regs.step hReg1144 hDi z z z z), hI1143⟩)⟩
 rintro D r wd1145 (⟨hd2, G1141, hG1142, hReg1144, hI1143⟩ | ⟨hd1, g517, G1141, hG1142, hD522, hReg1144, hI1143⟩) hDi hpre hpost
 cases (hpre 15 rfl).symm.trans hd2
 obtain ⟨r0, rfl⟩ := Has.ex (cC (hReg1144.get 34 rfl (hpre 34 rfl)) cN)
 exact wN (gN z z z z z)<|nl ⟨z, (.inr ⟨hd1, g517, _, hG1142, hD522, (Regs.step hReg1144 hDi z z z z), hI1143⟩)⟩
 rintro D r wd1145 (⟨hd2, G1141, hG1142, hReg1144, hI1143⟩ | ⟨hd1, g517, G1141, hG1142, hD522, hReg1144, hI1143⟩) hDi hpre hpost
 cases (hpre 15 rfl).symm.trans hd2
 obtain ⟨r0, rfl⟩ := Has.ex (cC (hReg1144.get 34 rfl (hpre 34 rfl)) cN)
 exact wN (gN z z z z z)<|nl ⟨z, (.inr ⟨hd1, g517, _, hG1142, hD522, (Regs.step hReg1144 hDi z z z z), hI1143⟩)⟩
 rintro D r wd1145 (⟨hd2, G1141, hG1142, hReg1144, hI1143⟩ | ⟨hd1, g517, G1141, hG1142, hD522, hReg1144, hI1143⟩) hDi hpre hpost
 cases (hpre 15 rfl).symm.trans hd2
 obtain ⟨r0, rfl⟩ := Has.ex (cC (hReg1144.get 34 rfl (hpre 34 rfl)) cN)
 exact wN (gN z z z z z)<|nl ⟨z, (.inr ⟨hd1, g517, _, hG1142, hD522, (Regs.step hReg1144 hDi z z z z), hI1143⟩)⟩
 rintro D r wd1145 (⟨hd2, G1141, hG1142, hReg1144, hI1143⟩ | ⟨hd1, g517, G1141, hG1142, hD522, hReg1144, hI1143⟩) hDi hpre hpost
 cases (hpre 15 rfl).symm.trans hd2
 obtain ⟨r0, rfl⟩ := Has.ex (cC (hReg1144.get 34 rfl (hpre 34 rfl)) cN)
 exact wN (gN z z z z z)<|nl ⟨z, (.inr ⟨hd1, g517, _, hG1142, hD522, (Regs.step hReg1144 hDi z z z z), hI1143⟩)⟩
 rintro D r wd1145 (⟨hd2, G1141, hG1142, hReg1144, hI1143⟩ | ⟨hd1, g517, G1141, hG1142, hD522, hReg1144, hI1143⟩) hDi hpre hpost
 cases (hpre 15 rfl).symm.trans hd2
 obtain ⟨r0, rfl⟩ := Has.ex (cC (hReg1144.get 34 rfl (hpre 34 rfl)) cN)
 exact wN (gN z z z z z)<|nl ⟨z, (.inr ⟨hd1, g517, _, hG1142, hD522, (Regs.step hReg1144 hDi z z z z), hI1143⟩)⟩
 rintro D r wd1145 (⟨hd2, G1141, hG1142, hReg1144, hI1143⟩ | ⟨hd1, g517, G1141, hG1142, hD522, hReg1144, hI1143⟩) hDi hpre hpost
 cases (hpre 15 rfl).symm.trans hd2
 obtain ⟨r0, rfl⟩ := Has.ex (cC (hReg1144.get 31 rfl (hpre 31 rfl)) cN)
 exact wN (gN z z z (vY h1140) z)<|nl ⟨z, (.inr ⟨hd1, g517, _, hG1142, hD522, (Regs.step hReg1144 hDi z z z z), hI1143⟩)⟩
 rintro D r wd1145 (⟨hd2, G1141, hG1142, hReg1144, hI1143⟩ | ⟨hd1, g517, G1141, hG1142, hD522, hReg1144, hI1143⟩) hDi hpre hpost
 cases (hpre 15 rfl).symm.trans hd2
 obtain ⟨r0, rfl⟩ := Has.ex (cC (hReg1144.get 31 rfl (hpre 31 rfl)) (cC (hReg1144.get 44 rfl (hpre 44 rfl)) cN))
 exact pkt (vY h1140) z<|nl ⟨z, (.inr ⟨hd1, g517, _, hG1142, hD522, (Regs.step hReg1144 hDi z z z z), hI1143⟩)⟩
 intro D r wd1145 hall hR
 rcases hR with ⟨hd2, G1141, hG1142, hReg1144, hI1143⟩ | ⟨hd1, g517, G1141, hG1142, hD522, hReg1144, hI1143⟩
 cases (hall 15 (Nat.le_of_ble_eq_true rfl)).symm.trans hd2
 obtain ⟨r0, rfl⟩ := Has.ex (cC (hReg1144.ins.get 0 rfl) (cC (hReg1144.ins.get 2 rfl) (cC (hReg1144.ins.get 3 rfl) (cC (hReg1144.ins.get 4 rfl) (cC (hReg1144.get 5 rfl (hall 5 (Nat.le_of_ble_eq_true rfl))) (cC (hReg1144.get 6 rfl (hall 6 (Nat.le_of_ble_eq_true rfl))) (cC (hReg1144.get 7 rfl (hall 7 (Nat.le_of_ble_eq_true rfl))) (cC (hReg1144.get 8 rfl (hall 8 (Nat.le_of_ble_eq_true rfl))) (cC (hReg1144.get 11 rfl (hall 11 (Nat.le_of_ble_eq_true rfl))) (cC (hReg1144.get 12 rfl (hall 12 (Nat.le_of_ble_eq_true rfl))) (cC (hReg1144.get 13 rfl (hall 13 (Nat.le_of_ble_eq_true rfl))) (cC (hReg1144.get 14 rfl (hall 14 (Nat.le_of_ble_eq_true rfl))) (cC (hReg1144.get 15 rfl (hall 15 (Nat.le_of_ble_eq_true rfl))) (cC (hReg1144.get 16 rfl (hall 16 (Nat.le_of_ble_eq_true rfl))) (cC (hReg1144.get 17 rfl (hall 17 (Nat.le_of_ble_eq_true rfl))) (cC (hReg1144.get 20 rfl (hall 20 (Nat.le_of_ble_eq_true rfl))) (cC (hReg1144.get 21 rfl (hall 21 (Nat.le_of_ble_eq_true rfl))) (cC (hReg1144.get 22 rfl (hall 22 (Nat.le_of_ble_eq_true rfl))) (cC (hReg1144.get 23 rfl (hall 23 (Nat.le_of_ble_eq_true rfl))) (cC (hReg1144.get 26 rfl (hall 26 (Nat.le_of_ble_eq_true rfl))) (cC (hReg1144.get 27 rfl (hall 27 (Nat.le_of_ble_eq_true rfl))) (cC (hReg1144.get 28 rfl (hall 28 (Nat.le_of_ble_eq_true rfl))) (cC (hReg1144.get 29 rfl (hall 29 (Nat.le_of_ble_eq_true rfl))) (cC (hReg1144.get 45 rfl (hall 45 (Nat.le_of_ble_eq_true rfl))) cN))))))))))))))))))))))))
 refine have hI1147:=Hp.pick 2 [1] hI1143 z;?_
 cases H
 exact je ⟨z, z, z, z, z, tv⟩ (Hp.low hG1142 hI1147)
 refine nK h1140 H fun H=>dC (0 < v35) (fun h1148=>?_) fun h1148=>?_
 refine yK h1148 H fun H=>iK H fun⟨h1149, h1149'⟩H=>?_
 obtain ⟨ad1150, cs1151, hA1152, hK1153, hn1154, hc1155⟩ := Dat.get hD5 z_api_Slice (w64 (v35 - 1)) h1149 h1149'
 obtain ⟨rfl⟩ := open_api_Slice hK1153
 refine wpc_drawL [0, 1, 3, 7, 15, 31, 63, 127, 255, 511, 1023, 2047, 4095, 2047, 10239, 32767, 65535, 131071, 262143, 524287, 1048575, 2097151, 4194303, 8388607, 16777215, 33554431, 67108863, 134217727, 268435455, 536870911, 1073741823, 2147483647, 4294967295, 8589934591, 17179869183, 34359738367, 68719476735, 34359738367, 34359738367, 309237645311, 996432412671, 2095944040447, 4294967295999, 8796093022207, 17592186044415, 35184372088831] (fun D r w => (D 15 = false ∧ ∃ (G' : Gh), G ≤ G' ∧ Regs [(0, slice A2 a1.length c3), (5, int .i64 v35), (6, pointer (some ⟨g72, 0, none⟩)), (17, slice A2 a1.length c3), (18, int .i64 (a1.length : Int)), (19, int .i64 v35)] [] [(0, 24, pointer (some ⟨g72, 0, none⟩)), (1, 25, int .i64 ((a1.getD (Int.toNat v35) z_api_Slice).Node)), (2, 26, bool y108), (3, 27, bool (!y108)), (4, 28, bool (!y108)), (5, 29, pointer (some ⟨g72, 1, none⟩)), (6, 30, int .i64 ((a1.getD (Int.toNat v35) z_api_Slice).Table)), (7, 31, bool y314), (8, 32, bool (!y314)), (9, 33, bool (!y314)), (10, 34, bool (!y314)), (11, 35, pointer (some ⟨g72, 2, none⟩)), (12, 36, int .i64 ((a1.getD (Int.toNat v35) z_api_Slice).X)), (13, 37, pointer (some ⟨g72, 3, none⟩)), (14, 38, int .i64 ((a1.getD (Int.toNat v35) z_api_Slice).Y))] D r ∧ Hp G' (bx g72 [int .i64 ((a1.getD (Int.toNat v35) z_api_Slice).Node), int .i64 ((a1.getD (Int.toNat v35) z_api_Slice).Table), int .i64 ((a1.getD (Int.toNat v35) z_api_Slice).X), int .i64 ((a1.getD (Int.toNat v35) z_api_Slice).Y), int .i64 ((a1.getD (Int.toNat v35) z_api_Slice).H), string ((a1.getD (Int.toNat v35) z_api_Slice).Text), bool ((a1.getD (Int.toNat v35) z_api_Slice).Head), bool ((a1.getD (Int.toNat v35) z_api_Slice).Note)] 36 :: L) w) ∨ (D 15 = true ∧ ∃ (g517 : Nat) (G' : Gh), G ≤ G' ∧ Dat (Kd.int .i64) G' (some ⟨g517, 0, none⟩) ([(a1.getD (Int.toNat v35) z_api_Slice).X, (a1.getD (Int.toNat v35) z_api_Slice).Y] : List Int) ∧ Regs [(0, slice A2 a1.length c3), (5, int .i64 v35), (6, pointer (some ⟨g72, 0, none⟩)), (17, slice A2 a1.length c3), (18, int .i64 (a1.length : Int)), (19, int .i64 v35)] [] [(0, 24, pointer (some ⟨g72, 0, none⟩)), (1, 25, int .i64 ((a1.getD (Int.toNat v35) z_api_Slice).Node)), (2, 26, bool y108), (3, 27, bool (!y108)), (4, 28, bool (!y108)), (5, 29, pointer (some ⟨g72, 1, none⟩)), (6, 30, int .i64 ((a1.getD (Int.toNat v35) z_api_Slice).Table)), (7, 31, bool y314), (8, 32, bool (!y314)), (9, 33, bool (!y314)), (10, 34, bool (!y314)), (11, 35, pointer (some ⟨g72, 2, none⟩)), (12, 36, int .i64 ((a1.getD (Int.toNat v35) z_api_Slice).X)), (13, 37, pointer (some ⟨g72, 3, none⟩)), (14, 38, int .i64 ((a1.getD (Int.toNat v35) z_api_Slice).Y)), (15, 39, slice (some ⟨g517, 0, none⟩) ([(a1.getD (Int.toNat v35) z_api_Slice).X, (a1.getD (Int.toNat v35) z_api_Slice).Y] : List Int).length 2), (16, 40, bool y528), (17, 41, bool (!y528)), (18, 42, bool (!y528)), (19, 43, bool (!y528)), (20, 44, pointer (some ⟨g72, 4, none⟩)), (21, 45, int .i64 ((a1.getD (Int.toNat v35) z_api_Slice).H)), (22, 46, bool y736), (23, 47, bool (!y736)), (24, 48, bool (!y736)), (25, 49, bool (!y736)), (26, 50, pointer (some ⟨g72, 5, none⟩)), (27, 51, string ((a1.getD (Int.toNat v35) z_api_Slice).Text)), (28, 52, bool y944), (29, 53, bool (!y944)), (30, 54, bool (!y944)), (31, 55, bool (!y944)), (32, 56, int .i64 v35), (33, 57, bool (decide (0 < v35))), (34, 58, bool (decide (0 < v35))), (35, 59, pointer (some ⟨g72, 3, none⟩)), (36, 60, int .i64 ((a1.getD (Int.toNat v35) z_api_Slice).Y)), (37, 61, slice A2 a1.length c3), (38, 62, int .i64 v35), (39, 63, int .i64 (w64 (v35 - 1))), (40, 64, pointer (some (ad1150.add (Int.toNat (w64 (v35 - 1)) * 8)))), (41, 65, pointer (some ((ad1150.add (Int.toNat (w64 (v35 - 1)) * 8)).add 3))), (42, 66, int .i64 ((a1.getD (Int.toNat (w64 (v35 - 1))) z_api_Slice).Y)), (43, 67, bool (decide (((a1.getD (Int.toNat v35) z_api_Slice).Y) < ((a1.getD (Int.toNat (w64 (v35 - 1))) z_api_Slice).Y)))), (44, 68, bool (decide (((a1.getD (Int.toNat v35) z_api_Slice).Y) < ((a1.getD (Int.toNat (w64 (v35 - 1))) z_api_Slice).Y)))), (45, 69, bool (decide (((a1.getD (Int.toNat v35) z_api_Slice).Y) < ((a1.getD (Int.toNat (w64 (v35 - 1))) z_api_Slice).Y))))] D r ∧ Hp G' (tk (slice (some ⟨g517, 0, none⟩) ([(a1.getD (Int.toNat v35) z_api_Slice).X, (a1.getD (Int.toNat v35) z_api_Slice).Y] : List Int).length 2) 1 3 :: bx g72 [int .i64 ((a1.getD (Int.toNat v35) z_api_Slice).Node), int .i64 ((a1.getD (Int.toNat v35) z_api_Slice).Table), int .i64 ((a1.getD (Int.toNat v35) z_api_Slice).X), int .i64 ((a1.getD (Int.toNat v35) z_api_Slice).Y), int .i64 ((a1.getD (Int.toNat v35) z_api_Slice).H), string ((a1.getD (Int.toNat v35) z_api_Slice).Text), bool ((a1.getD (Int.toNat v35) z_api_Slice).Head), bool ((a1.getD (Int.toNat v35) z_api_Slice).Note)] 36 :: L) w)) mixo z z ?_ ?_ ?_
 exact (.inl ⟨z, _, Gh.le_refl _, Regs.start ⟨z, z, z, z, z, z, tv⟩ trivial, hI76.drew⟩)
 refine ⟨?_, ?_, ?_, ?_, ?_, ?_, ?_, ?_, ?_, ?_, ?_, ?_, ?_, ?_, ?_, ?_, ?_, ?_, ?_, ?_, ?_, ?_, ?_, ?_, ?_, ?_, ?_, ?_, ?_, ?_, ?_, ?_, ?_, ?_, ?_, ?_, ?_, ?_, ?_, ?_, ?_, ?_, ?_, ?_, ?_, ?_, tv⟩
 rintro D r wd1160 (⟨hd2, G1156, hG1157, hReg1159, hI1158⟩ | ⟨hd1, g517, G1156, hG1157, hD522, hReg1159, hI1158⟩) hDi hpre hpost
 obtain ⟨r0, rfl⟩ := Has.ex (cC (hReg1159.ins.get 2 rfl) cN)
 exact fa fl36_0 z<|nl ⟨z, (.inl ⟨hd2, _, hG1157, (Regs.step hReg1159 hDi z z z z), hI1158⟩)⟩
 cases (hpost 15 rfl).symm.trans hd1
 rintro D r wd1160 (⟨hd2, G1156, hG1157, hReg1159, hI1158⟩ | ⟨hd1, g517, G1156, hG1157, hD522, hReg1159, hI1158⟩) hDi hpre hpost
 obtain ⟨r0, rfl⟩ := Has.ex (cC (hReg1159.get 0 rfl (hpre 0 rfl)) cN)
 exact ld hI1158 0 ag3 z z z<|nl ⟨z, (.inl ⟨hd2, _, hG1157, (Regs.step hReg1159 hDi z z z z), hI1158⟩)⟩
 cases (hpost 15 rfl).symm.trans hd1
 rintro D r wd1160 (⟨hd2, G1156, hG1157, hReg1159, hI1158⟩ | ⟨hd1, g517, G1156, hG1157, hD522, hReg1159, hI1158⟩) hDi hpre hpost
 obtain ⟨r0, rfl⟩ := Has.ex (cC (hReg1159.get 1 rfl (hpre 1 rfl)) cN)
 exact cv bo36 (pages_within_spec hy293 hI1158) z z fun wd106 hI107=>nl ⟨z, (.inl ⟨hd2, _, hG1157, (Regs.step hReg1159 hDi z z z z), hI107⟩)⟩
 cases (hpost 15 rfl).symm.trans hd1
 rintro D r wd1160 (⟨hd2, G1156, hG1157, hReg1159, hI1158⟩ | ⟨hd1, g517, G1156, hG1157, hD522, hReg1159, hI1158⟩) hDi hpre hpost
 obtain ⟨r0, rfl⟩ := Has.ex (cC (hReg1159.get 2 rfl (hpre 2 rfl)) cN)
 exact q_not z<|nl ⟨z, (.inl ⟨hd2, _, hG1157, (Regs.step hReg1159 hDi z z z z), hI1158⟩)⟩
 cases (hpost 15 rfl).symm.trans hd1
 rintro D r wd1160 (⟨hd2, G1156, hG1157, hReg1159, hI1158⟩ | ⟨hd1, g517, G1156, hG1157, hD522, hReg1159, hI1158⟩) hDi hpre hpost
 obtain ⟨r0, rfl⟩ := Has.ex (cC (hReg1159.get 3 rfl (hpre 3 rfl)) cN)
 exact mv z<|nl ⟨z, (.inl ⟨hd2, _, hG1157, (Regs.step hReg1159 hDi z z z z), hI1158⟩)⟩
 cases (hpost 15 rfl).symm.trans hd1
 rintro D r wd1160 (⟨hd2, G1156, hG1157, hReg1159, hI1158⟩ | ⟨hd1, g517, G1156, hG1157, hD522, hReg1159, hI1158⟩) hDi hpre hpost
 obtain ⟨r0, rfl⟩ := Has.ex (cC (hReg1159.ins.get 2 rfl) (cC (hReg1159.get 4 rfl (hpre 4 rfl)) cN))
 exact fa (hw:=gY z z z (vN h304)) fl36_1 z<|nl ⟨z, (.inl ⟨hd2, _, hG1157, (Regs.step hReg1159 hDi z z z z), hI1158⟩)⟩
 cases (hpost 15 rfl).symm.trans hd1
 rintro D r wd1160 (⟨hd2, G1156, hG1157, hReg1159, hI1158⟩ | ⟨hd1, g517, G1156, hG1157, hD522, hReg1159, hI1158⟩) hDi hpre hpost
 obtain ⟨r0, rfl⟩ := Has.ex (cC (hReg1159.get 4 rfl (hpre 4 rfl)) (cC (hReg1159.get 5 rfl (hpre 5 rfl)) cN))
 exact ld (hw:=gY z z z (vN h304)) hI1158 0 ag3 z z z<|nl ⟨z, (.inl ⟨hd2, _, hG1157, (Regs.step hReg1159 hDi z z z z), hI1158⟩)⟩
 cases (hpost 15 rfl).symm.trans hd1
 rintro D r wd1160 (⟨hd2, G1156, hG1157, hReg1159, hI1158⟩ | ⟨hd1, g517, G1156, hG1157, hD522, hReg1159, hI1158⟩) hDi hpre hpost
 obtain ⟨r0, rfl⟩ := Has.ex (cC (hReg1159.get 4 rfl (hpre 4 rfl)) (cC (hReg1159.get 6 rfl (hpre 6 rfl)) cN))
 exact cv (hw:=gY z z z (vN h304)) bo36 (pages_within_spec hy499 hI1158) z z fun wd312 hI313=>nl ⟨z, (.inl ⟨hd2, _, hG1157, (Regs.step hReg1159 hDi z z z z), hI313⟩)⟩
 cases (hpost 15 rfl).symm.trans hd1
 rintro D r wd1160 (⟨hd2, G1156, hG1157, hReg1159, hI1158⟩ | ⟨hd1, g517, G1156, hG1157, hD522, hReg1159, hI1158⟩) hDi hpre hpost
 obtain ⟨r0, rfl⟩ := Has.ex (cC (hReg1159.get 4 rfl (hpre 4 rfl)) (cC (hReg1159.get 7 rfl (hpre 7 rfl)) cN))
 exact q_not (hw:=gY z z z (vN h304)) z<|nl ⟨z, (.inl ⟨hd2, _, hG1157, (Regs.step hReg1159 hDi z z z z), hI1158⟩)⟩
 cases (hpost 15 rfl).symm.trans hd1
 rintro D r wd1160 (⟨hd2, G1156, hG1157, hReg1159, hI1158⟩ | ⟨hd1, g517, G1156, hG1157, hD522, hReg1159, hI1158⟩) hDi hpre hpost
 obtain ⟨r0, rfl⟩ := Has.ex (cC (hReg1159.get 4 rfl (hpre 4 rfl)) (cC (hReg1159.get 8 rfl (hpre 8 rfl)) cN))
 exact pkf (vN h304) z<|nl ⟨z, (.inl ⟨hd2, _, hG1157, (Regs.step hReg1159 hDi z z z z), hI1158⟩)⟩
 cases (hpost 15 rfl).symm.trans hd1
 rintro D r wd1160 (⟨hd2, G1156, hG1157, hReg1159, hI1158⟩ | ⟨hd1, g517, G1156, hG1157, hD522, hReg1159, hI1158⟩) hDi hpre hpost
 obtain ⟨r0, rfl⟩ := Has.ex (cC (hReg1159.get 9 rfl (hpre 9 rfl)) cN)
 exact mv z<|nl ⟨z, (.inl ⟨hd2, _, hG1157, (Regs.step hReg1159 hDi z z z z), hI1158⟩)⟩
 cases (hpost 15 rfl).symm.trans hd1
 rintro D r wd1160 (⟨hd2, G1156, hG1157, hReg1159, hI1158⟩ | ⟨hd1, g517, G1156, hG1157, hD522, hReg1159, hI1158⟩) hDi hpre hpost
 obtain ⟨r0, rfl⟩ := Has.ex (cC (hReg1159.ins.get 2 rfl) (cC (hReg1159.get 10 rfl (hpre 10 rfl)) cN))
 exact fa (hw:=gY z z z (vN h510)) fl36_2 z<|nl ⟨z, (.inl ⟨hd2, _, hG1157, (Regs.step hReg1159 hDi z z z z), hI1158⟩)⟩
 cases (hpost 15 rfl).symm.trans hd1
 rintro D r wd1160 (⟨hd2, G1156, hG1157, hReg1159, hI1158⟩ | ⟨hd1, g517, G1156, hG1157, hD522, hReg1159, hI1158⟩) hDi hpre hpost
 obtain ⟨r0, rfl⟩ := Has.ex (cC (hReg1159.get 10 rfl (hpre 10 rfl)) (cC (hReg1159.get 11 rfl (hpre 11 rfl)) cN))
 exact ld (hw:=gY z z z (vN h510)) hI1158 0 ag3 z z z<|nl ⟨z, (.inl ⟨hd2, _, hG1157, (Regs.step hReg1159 hDi z z z z), hI1158⟩)⟩
 cases (hpost 15 rfl).symm.trans hd1
 rintro D r wd1160 (⟨hd2, G1156, hG1157, hReg1159, hI1158⟩ | ⟨hd1, g517, G1156, hG1157, hD522, hReg1159, hI1158⟩) hDi hpre hpost
 obtain ⟨r0, rfl⟩ := Has.ex (cC (hReg1159.ins.get 2 rfl) (cC (hReg1159.get 10 rfl (hpre 10 rfl)) cN))
 exact fa (hw:=gY z z z (vN h510)) fl36_3 z<|nl ⟨z, (.inl ⟨hd2, _, hG1157, (Regs.step hReg1159 hDi z z z z), hI1158⟩)⟩
 cases (hpost 15 rfl).symm.trans hd1
 rintro D r wd1160 (⟨hd2, G1156, hG1157, hReg1159, hI1158⟩ | ⟨hd1, g517, G1156, hG1157, hD522, hReg1159, hI1158⟩) hDi hpre hpost
 obtain ⟨r0, rfl⟩ := Has.ex (cC (hReg1159.get 10 rfl (hpre 10 rfl)) (cC (hReg1159.get 13 rfl (hpre 13 rfl)) cN))
 exact ld (hw:=gY z z z (vN h510)) hI1158 0 ag3 z z z<|nl ⟨z, (.inl ⟨hd2, _, hG1157, (Regs.step hReg1159 hDi z z z z), hI1158⟩)⟩
 cases (hpost 15 rfl).symm.trans hd1
 rintro D r wd1160 (⟨hd2, G1156, hG1157, hReg1159, hI1158⟩ | ⟨hd1, g517, G1156, hG1157, hD522, hReg1159, hI1158⟩) hDi hpre hpost
 obtain ⟨r0, rfl⟩ := Has.ex (cC (hReg1159.get 10 rfl (hpre 10 rfl)) (cC (hReg1159.get 12 rfl (hpre 12 rfl)) (cC (hReg1159.get 14 rfl (hpre 14 rfl)) cN)))
 refine q_bs hI1158 (vs := [(0, int .i64 ((a1.getD (Int.toNat v35) z_api_Slice).X)), (1, int .i64 ((a1.getD (Int.toNat v35) z_api_Slice).Y))]) (cs := [int .i64 ((a1.getD (Int.toNat v35) z_api_Slice).X), int .i64 ((a1.getD (Int.toNat v35) z_api_Slice).Y)]) el65 ze3 rfl (by decide) rfl (by kernel_rfl) (fun g517 wd518 hI519 => ?_) (hw := gY rfl rfl rfl (bval_no h510))
 obtain ⟨G520, hG521, hI523, hD522⟩ := Hp.publish (xs := ([(a1.getD (Int.toNat v35) z_api_Slice).X, (a1.getD (Int.toNat v35) z_api_Slice).Y] : List Int)) (n := 2) (Kd.int .i64) hI519 ⟨[int .i64 ((a1.getD (Int.toNat v35) z_api_Slice).X)], _, rfl, rfl, ⟨[int .i64 ((a1.getD (Int.toNat v35) z_api_Slice).Y)], _, rfl, rfl, rfl⟩⟩ rfl
 exact nl ⟨z, (.inr ⟨z, g517, _, (gT hG1157 hG521), hD522, (Regs.step (Regs.more (new := [(15, 39, slice (some ⟨g517, 0, none⟩) ([(a1.getD (Int.toNat v35) z_api_Slice).X, (a1.getD (Int.toNat v35) z_api_Slice).Y] : List Int).length 2), (16, 40, bool y528), (17, 41, bool (!y528)), (18, 42, bool (!y528)), (19, 43, bool (!y528)), (20, 44, pointer (some ⟨g72, 4, none⟩)), (21, 45, int .i64 ((a1.getD (Int.toNat v35) z_api_Slice).H)), (22, 46, bool y736), (23, 47, bool (!y736)), (24, 48, bool (!y736)), (25, 49, bool (!y736)), (26, 50, pointer (some ⟨g72, 5, none⟩)), (27, 51, string ((a1.getD (Int.toNat v35) z_api_Slice).Text)), (28, 52, bool y944), (29, 53, bool (!y944)), (30, 54, bool (!y944)), (31, 55, bool (!y944)), (32, 56, int .i64 v35), (33, 57, bool (decide (0 < v35))), (34, 58, bool (decide (0 < v35))), (35, 59, pointer (some ⟨g72, 3, none⟩)), (36, 60, int .i64 ((a1.getD (Int.toNat v35) z_api_Slice).Y)), (37, 61, slice A2 a1.length c3), (38, 62, int .i64 v35), (39, 63, int .i64 (w64 (v35 - 1))), (40, 64, pointer (some (ad1150.add (Int.toNat (w64 (v35 - 1)) * 8)))), (41, 65, pointer (some ((ad1150.add (Int.toNat (w64 (v35 - 1)) * 8)).add 3))), (42, 66, int .i64 ((a1.getD (Int.toNat (w64 (v35 - 1))) z_api_Slice).Y)), (43, 67, bool (decide (((a1.getD (Int.toNat v35) z_api_Slice).Y) < ((a1.getD (Int.toNat (w64 (v35 - 1))) z_api_Slice).Y)))), (44, 68, bool (decide (((a1.getD (Int.toNat v35) z_api_Slice).Y) < ((a1.getD (Int.toNat (w64 (v35 - 1))) z_api_Slice).Y)))), (45, 69, bool (decide (((a1.getD (Int.toNat v35) z_api_Slice).Y) < ((a1.getD (Int.toNat (w64 (v35 - 1))) z_api_Slice).Y))))]) hReg1159 (List.forall_mem_cons.2 ⟨hDi, (List.forall_mem_cons.2 ⟨hpost 16 z, (List.forall_mem_cons.2 ⟨hpost 17 z, (List.forall_mem_cons.2 ⟨hpost 18 z, (List.forall_mem_cons.2 ⟨hpost 19 z, (List.forall_mem_cons.2 ⟨hpost 20 z, (List.forall_mem_cons.2 ⟨hpost 21 z, (List.forall_mem_cons.2 ⟨hpost 22 z, (List.forall_mem_cons.2 ⟨hpost 23 z, (List.forall_mem_cons.2 ⟨hpost 24 z, (List.forall_mem_cons.2 ⟨hpost 25 z, (List.forall_mem_cons.2 ⟨hpost 26 z, (List.forall_mem_cons.2 ⟨hpost 27 z, (List.forall_mem_cons.2 ⟨hpost 28 z, (List.forall_mem_cons.2 ⟨hpost 29 z, (List.forall_mem_cons.2 ⟨hpost 30 z, (List.forall_mem_cons.2 ⟨hpost 31 z, (List.forall_mem_cons.2 ⟨hpost 32 z, (List.forall_mem_cons.2 ⟨hpost 33 z, (List.forall_mem_cons.2 ⟨hpost 34 z, (List.forall_mem_cons.2 ⟨hpost 35 z, (List.forall_mem_cons.2 ⟨hpost 36 z, (List.forall_mem_cons.2 ⟨hpost 37 z, (List.forall_mem_cons.2 ⟨hpost 38 z, (List.forall_mem_cons.2 ⟨hpost 39 z, (List.forall_mem_cons.2 ⟨hpost 40 z, (List.forall_mem_cons.2 ⟨hpost 41 z, (List.forall_mem_cons.2 ⟨hpost 42 z, (List.forall_mem_cons.2 ⟨hpost 43 z, (List.forall_mem_cons.2 ⟨hpost 44 z, (List.forall_mem_cons.2 ⟨hpost 45 z, (fun _ h => nomatch h)⟩)⟩)⟩)⟩)⟩)⟩)⟩)⟩)⟩)⟩)⟩)⟩)⟩)⟩)⟩)⟩)⟩)⟩)⟩)⟩)⟩)⟩)⟩)⟩)⟩)⟩)⟩)⟩)⟩)⟩)⟩)) hDi z z z z), hI523⟩)⟩
 cases hDi.symm.trans hd1
 rintro D r wd1160 (⟨hd2, G1156, hG1157, hReg1159, hI1158⟩ | ⟨hd1, g517, G1156, hG1157, hD522, hReg1159, hI1158⟩) hDi hpre hpost
 cases (hpre 15 rfl).symm.trans hd2
 obtain ⟨r0, rfl⟩ := Has.ex (cC (hReg1159.get 10 rfl (hpre 10 rfl)) (cC (hReg1159.get 15 rfl (hpre 15 rfl)) cN))
 exact cv (hw:=gY z z z (vN h510)) bo39 (pages_areCoords_spec (a1 := ([(a1.getD (Int.toNat v35) z_api_Slice).X, (a1.getD (Int.toNat v35) z_api_Slice).Y] : List Int)) hy713 hI1158 (show ([(a1.getD (Int.toNat v35) z_api_Slice).X, (a1.getD (Int.toNat v35) z_api_Slice).Y] : List Int).length ≤ 2 from Nat.le_of_ble_eq_true z) hD522) z z fun wd526 hI527=>nl ⟨z, (.inr ⟨hd1, g517, _, hG1157, hD522, (Regs.step hReg1159 hDi z z z z), hI527⟩)⟩
 rintro D r wd1160 (⟨hd2, G1156, hG1157, hReg1159, hI1158⟩ | ⟨hd1, g517, G1156, hG1157, hD522, hReg1159, hI1158⟩) hDi hpre hpost
 cases (hpre 15 rfl).symm.trans hd2
 obtain ⟨r0, rfl⟩ := Has.ex (cC (hReg1159.get 10 rfl (hpre 10 rfl)) (cC (hReg1159.get 16 rfl (hpre 16 rfl)) cN))
 exact q_not (hw:=gY z z z (vN h510)) z<|nl ⟨z, (.inr ⟨hd1, g517, _, hG1157, hD522, (Regs.step hReg1159 hDi z z z z), hI1158⟩)⟩
 rintro D r wd1160 (⟨hd2, G1156, hG1157, hReg1159, hI1158⟩ | ⟨hd1, g517, G1156, hG1157, hD522, hReg1159, hI1158⟩) hDi hpre hpost
 cases (hpre 15 rfl).symm.trans hd2
 obtain ⟨r0, rfl⟩ := Has.ex (cC (hReg1159.get 10 rfl (hpre 10 rfl)) (cC (hReg1159.get 17 rfl (hpre 17 rfl)) cN))
 exact pkf (vN h510) z<|nl ⟨z, (.inr ⟨hd1, g517, _, hG1157, hD522, (Regs.step hReg1159 hDi z z z z), hI1158⟩)⟩
 rintro D r wd1160 (⟨hd2, G1156, hG1157, hReg1159, hI1158⟩ | ⟨hd1, g517, G1156, hG1157, hD522, hReg1159, hI1158⟩) hDi hpre hpost
 cases (hpre 15 rfl).symm.trans hd2
 obtain ⟨r0, rfl⟩ := Has.ex (cC (hReg1159.get 18 rfl (hpre 18 rfl)) cN)
 exact mv z<|nl ⟨z, (.inr ⟨hd1, g517, _, hG1157, hD522, (Regs.step hReg1159 hDi z z z z), hI1158⟩)⟩
 rintro D r wd1160 (⟨hd2, G1156, hG1157, hReg1159, hI1158⟩ | ⟨hd1, g517, G1156, hG1157, hD522, hReg1159, hI1158⟩) hDi hpre hpost
 cases (hpre 15 rfl).symm.trans hd2
 obtain ⟨r0, rfl⟩ := Has.ex (cC (hReg1159.ins.get 2 rfl) (cC (hReg1159.get 19 rfl (hpre 19 rfl)) cN))
 exact fa (hw:=gY z z z (vN h724)) fl36_4 z<|nl ⟨z, (.inr ⟨hd1, g517, _, hG1157, hD522, (Regs.step hReg1159 hDi z z z z), hI1158⟩)⟩
 rintro D r wd1160 (⟨hd2, G1156, hG1157, hReg1159, hI1158⟩ | ⟨hd1, g517, G1156, hG1157, hD522, hReg1159, hI1158⟩) hDi hpre hpost
 cases (hpre 15 rfl).symm.trans hd2
 obtain ⟨r0, rfl⟩ := Has.ex (cC (hReg1159.get 19 rfl (hpre 19 rfl)) (cC (hReg1159.get 20 rfl (hpre 20 rfl)) cN))
 exact ld (hw:=gY z z z (vN h724)) hI1158 1 ag3 z z z<|nl ⟨z, (.inr ⟨hd1, g517, _, hG1157, hD522, (Regs.step hReg1159 hDi z z z z), hI1158⟩)⟩
 rintro D r wd1160 (⟨hd2, G1156, hG1157, hReg1159, hI1158⟩ | ⟨hd1, g517, G1156, hG1157, hD522, hReg1159, hI1158⟩) hDi hpre hpost
 cases (hpre 15 rfl).symm.trans hd2
 obtain ⟨r0, rfl⟩ := Has.ex (cC (hReg1159.get 19 rfl (hpre 19 rfl)) (cC (hReg1159.get 21 rfl (hpre 21 rfl)) cN))
 exact cv (hw:=gY z z z (vN h724)) bo36 (pages_within_spec hy921 hI1158) z z fun wd734 hI735=>nl ⟨z, (.inr ⟨hd1, g517, _, hG1157, hD522, (Regs.step hReg1159 hDi z z z z), hI735⟩)⟩
 rintro D r wd1160 (⟨hd2, G1156, hG1157, hReg1159, hI1158⟩ | ⟨hd1, g517, G1156, hG1157, hD522, hReg1159, hI1158⟩) hDi hpre hpost
 cases (hpre 15 rfl).symm.trans hd2
 obtain ⟨r0, rfl⟩ := Has.ex (cC (hReg1159.get 19 rfl (hpre 19 rfl)) (cC (hReg1159.get 22 rfl (hpre 22 rfl)) cN))
 exact q_not (hw:=gY z z z (vN h724)) z<|nl ⟨z, (.inr ⟨hd1, g517, _, hG1157, hD522, (Regs.step hReg1159 hDi z z z z), hI1158⟩)⟩
 rintro D r wd1160 (⟨hd2, G1156, hG1157, hReg1159, hI1158⟩ | ⟨hd1, g517, G1156, hG1157, hD522, hReg1159, hI1158⟩) hDi hpre hpost
 cases (hpre 15 rfl).symm.trans hd2
 obtain ⟨r0, rfl⟩ := Has.ex (cC (hReg1159.get 19 rfl (hpre 19 rfl)) (cC (hReg1159.get 23 rfl (hpre 23 rfl)) cN))
 exact pkf (vN h724) z<|nl ⟨z, (.inr ⟨hd1, g517, _, hG1157, hD522, (Regs.step hReg1159 hDi z z z z), hI1158⟩)⟩
 rintro D r wd1160 (⟨hd2, G1156, hG1157, hReg1159, hI1158⟩ | ⟨hd1, g517, G1156, hG1157, hD522, hReg1159, hI1158⟩) hDi hpre hpost
 cases (hpre 15 rfl).symm.trans hd2
 obtain ⟨r0, rfl⟩ := Has.ex (cC (hReg1159.get 24 rfl (hpre 24 rfl)) cN)
 exact mv z<|nl ⟨z, (.inr ⟨hd1, g517, _, hG1157, hD522, (Regs.step hReg1159 hDi z z z z), hI1158⟩)⟩
 rintro D r wd1160 (⟨hd2, G1156, hG1157, hReg1159, hI1158⟩ | ⟨hd1, g517, G1156, hG1157, hD522, hReg1159, hI1158⟩) hDi hpre hpost
 cases (hpre 15 rfl).symm.trans hd2
 obtain ⟨r0, rfl⟩ := Has.ex (cC (hReg1159.ins.get 2 rfl) (cC (hReg1159.get 25 rfl (hpre 25 rfl)) cN))
 exact fa (hw:=gY z z z (vN h932)) fl36_5 z<|nl ⟨z, (.inr ⟨hd1, g517, _, hG1157, hD522, (Regs.step hReg1159 hDi z z z z), hI1158⟩)⟩
 rintro D r wd1160 (⟨hd2, G1156, hG1157, hReg1159, hI1158⟩ | ⟨hd1, g517, G1156, hG1157, hD522, hReg1159, hI1158⟩) hDi hpre hpost
 cases (hpre 15 rfl).symm.trans hd2
 obtain ⟨r0, rfl⟩ := Has.ex (cC (hReg1159.get 25 rfl (hpre 25 rfl)) (cC (hReg1159.get 26 rfl (hpre 26 rfl)) cN))
 exact ld (hw:=gY z z z (vN h932)) hI1158 1 ag9 z z z<|nl ⟨z, (.inr ⟨hd1, g517, _, hG1157, hD522, (Regs.step hReg1159 hDi z z z z), hI1158⟩)⟩
 rintro D r wd1160 (⟨hd2, G1156, hG1157, hReg1159, hI1158⟩ | ⟨hd1, g517, G1156, hG1157, hD522, hReg1159, hI1158⟩) hDi hpre hpost
 cases (hpre 15 rfl).symm.trans hd2
 obtain ⟨r0, rfl⟩ := Has.ex (cC (hReg1159.get 25 rfl (hpre 25 rfl)) (cC (hReg1159.get 27 rfl (hpre 27 rfl)) cN))
 exact cv (hw:=gY z z z (vN h932)) bo40 (text_Valid_spec hy1129 hI1158) z z fun wd942 hI943=>nl ⟨z, (.inr ⟨hd1, g517, _, hG1157, hD522, (Regs.step hReg1159 hDi z z z z), hI943⟩)⟩
 rintro D r wd1160 (⟨hd2, G1156, hG1157, hReg1159, hI1158⟩ | ⟨hd1, g517, G1156, hG1157, hD522, hReg1159, hI1158⟩) hDi hpre hpost
 cases (hpre 15 rfl).symm.trans hd2
 obtain ⟨r0, rfl⟩ := Has.ex (cC (hReg1159.get 25 rfl (hpre 25 rfl)) (cC (hReg1159.get 28 rfl (hpre 28 rfl)) cN))
 exact q_not (hw:=gY z z z (vN h932)) z<|nl ⟨z, (.inr ⟨hd1, g517, _, hG1157, hD522, (Regs.step hReg1159 hDi z z z z), hI1158⟩)⟩
 rintro D r wd1160 (⟨hd2, G1156, hG1157, hReg1159, hI1158⟩ | ⟨hd1, g517, G1156, hG1157, hD522, hReg1159, hI1158⟩) hDi hpre hpost
 cases (hpre 15 rfl).symm.trans hd2
 obtain ⟨r0, rfl⟩ := Has.ex (cC (hReg1159.get 25 rfl (hpre 25 rfl)) (cC (hReg1159.get 29 rfl (hpre 29 rfl)) cN))
 exact pkf (vN h932) z<|nl ⟨z, (.inr ⟨hd1, g517, _, hG1157, hD522, (Regs.step hReg1159 hDi z z z z), hI1158⟩)⟩
 rintro D r wd1160 (⟨hd2, G1156, hG1157, hReg1159, hI1158⟩ | ⟨hd1, g517, G1156, hG1157, hD522, hReg1159, hI1158⟩) hDi hpre hpost
 cases (hpre 15 rfl).symm.trans hd2
 obtain ⟨r0, rfl⟩ := Has.ex (cC (hReg1159.get 30 rfl (hpre 30 rfl)) cN)
 exact mv z<|nl ⟨z, (.inr ⟨hd1, g517, _, hG1157, hD522, (Regs.step hReg1159 hDi z z z z), hI1158⟩)⟩
 rintro D r wd1160 (⟨hd2, G1156, hG1157, hReg1159, hI1158⟩ | ⟨hd1, g517, G1156, hG1157, hD522, hReg1159, hI1158⟩) hDi hpre hpost
 cases (hpre 15 rfl).symm.trans hd2
 obtain ⟨r0, rfl⟩ := Has.ex (cC (hReg1159.ins.get 1 rfl) (cC (hReg1159.get 31 rfl (hpre 31 rfl)) cN))
 exact mv (hw:=gY z z z (vN h1140)) z<|nl ⟨z, (.inr ⟨hd1, g517, _, hG1157, hD522, (Regs.step hReg1159 hDi z z z z), hI1158⟩)⟩
 rintro D r wd1160 (⟨hd2, G1156, hG1157, hReg1159, hI1158⟩ | ⟨hd1, g517, G1156, hG1157, hD522, hReg1159, hI1158⟩) hDi hpre hpost
 cases (hpre 15 rfl).symm.trans hd2
 obtain ⟨r0, rfl⟩ := Has.ex (cC (hReg1159.get 31 rfl (hpre 31 rfl)) (cC (hReg1159.get 32 rfl (hpre 32 rfl)) cN))
 exact q_gtr (hw:=gY z z z (vN h1140)) z z<|nl ⟨z, (.inr ⟨hd1, g517, _, hG1157, hD522, (Regs.step hReg1159 hDi z z z z), hI1158⟩)⟩
 rintro D r wd1160 (⟨hd2, G1156, hG1157, hReg1159, hI1158⟩ | ⟨hd1, g517, G1156, hG1157, hD522, hReg1159, hI1158⟩) hDi hpre hpost
 cases (hpre 15 rfl).symm.trans hd2
 obtain ⟨r0, rfl⟩ := Has.ex (cC (hReg1159.get 31 rfl (hpre 31 rfl)) (cC (hReg1159.get 33 rfl (hpre 33 rfl)) cN))
 exact mv (hw:=gY z z z (vN h1140)) z<|nl ⟨z, (.inr ⟨hd1, g517, _, hG1157, hD522, (Regs.step hReg1159 hDi z z z z), hI1158⟩)⟩
 rintro D r wd1160 (⟨hd2, G1156, hG1157, hReg1159, hI1158⟩ | ⟨hd1, g517, G1156, hG1157, hD522, hReg1159, hI1158⟩) hDi hpre hpost
 cases (hpre 15 rfl).symm.trans hd2
 obtain ⟨r0, rfl⟩ := Has.ex (cC (hReg1159.ins.get 2 rfl) (cC (hReg1159.get 34 rfl (hpre 34 rfl)) cN))
 exact fa (hw:=gY z z z (bY h1148)) fl36_3 z<|nl ⟨z, (.inr ⟨hd1, g517, _, hG1157, hD522, (Regs.step hReg1159 hDi z z z z), hI1158⟩)⟩
 rintro D r wd1160 (⟨hd2, G1156, hG1157, hReg1159, hI1158⟩ | ⟨hd1, g517, G1156, hG1157, hD522, hReg1159, hI1158⟩) hDi hpre hpost
 cases (hpre 15 rfl).symm.trans hd2
 obtain ⟨r0, rfl⟩ := Has.ex (cC (hReg1159.get 34 rfl (hpre 34 rfl)) (cC (hReg1159.get 35 rfl (hpre 35 rfl)) cN))
 exact ld (hw:=gY z z z (bY h1148)) hI1158 1 ag3 z z z<|nl ⟨z, (.inr ⟨hd1, g517, _, hG1157, hD522, (Regs.step hReg1159 hDi z z z z), hI1158⟩)⟩
 rintro D r wd1160 (⟨hd2, G1156, hG1157, hReg1159, hI1158⟩ | ⟨hd1, g517, G1156, hG1157, hD522, hReg1159, hI1158⟩) hDi hpre hpost
 cases (hpre 15 rfl).symm.trans hd2
 obtain ⟨r0, rfl⟩ := Has.ex (cC (hReg1159.ins.get 0 rfl) (cC (hReg1159.get 34 rfl (hpre 34 rfl)) cN))
 exact mv (hw:=gY z z z (bY h1148)) z<|nl ⟨z, (.inr ⟨hd1, g517, _, hG1157, hD522, (Regs.step hReg1159 hDi z z z z), hI1158⟩)⟩
 rintro D r wd1160 (⟨hd2, G1156, hG1157, hReg1159, hI1158⟩ | ⟨hd1, g517, G1156, hG1157, hD522, hReg1159, hI1158⟩) hDi hpre hpost
 cases (hpre 15 rfl).symm.trans hd2
 obtain ⟨r0, rfl⟩ := Has.ex (cC (hReg1159.ins.get 1 rfl) (cC (hReg1159.get 34 rfl (hpre 34 rfl)) cN))
 exact mv (hw:=gY z z z (bY h1148)) z<|nl ⟨z, (.inr ⟨hd1, g517, _, hG1157, hD522, (Regs.step hReg1159 hDi z z z z), hI1158⟩)⟩
 rintro D r wd1160 (⟨hd2, G1156, hG1157, hReg1159, hI1158⟩ | ⟨hd1, g517, G1156, hG1157, hD522, hReg1159, hI1158⟩) hDi hpre hpost
 cases (hpre 15 rfl).symm.trans hd2
 obtain ⟨r0, rfl⟩ := Has.ex (cC (hReg1159.get 34 rfl (hpre 34 rfl)) (cC (hReg1159.get 38 rfl (hpre 38 rfl)) cN))
 exact q_sub (hw:=gY z z z (bY h1148)) z z<|nl ⟨z, (.inr ⟨hd1, g517, _, hG1157, hD522, (Regs.step hReg1159 hDi z z z z), hI1158⟩)⟩
 rintro D r wd1160 (⟨hd2, G1156, hG1157, hReg1159, hI1158⟩ | ⟨hd1, g517, G1156, hG1157, hD522, hReg1159, hI1158⟩) hDi hpre hpost
 cases (hpre 15 rfl).symm.trans hd2
 obtain ⟨r0, rfl⟩ := Has.ex (cC (hReg1159.get 34 rfl (hpre 34 rfl)) (cC (hReg1159.get 37 rfl (hpre 37 rfl)) (cC (hReg1159.get 39 rfl (hpre 39 rfl)) cN)))
 exact q_ia (hw:=gY z z z (bY h1148)) el24 z hA1152 z h1149 h1149'<|nl ⟨z, (.inr ⟨hd1, g517, _, hG1157, hD522, (Regs.step hReg1159 hDi z z z z), hI1158⟩)⟩
 rintro D r wd1160 (⟨hd2, G1156, hG1157, hReg1159, hI1158⟩ | ⟨hd1, g517, G1156, hG1157, hD522, hReg1159, hI1158⟩) hDi hpre hpost
 cases (hpre 15 rfl).symm.trans hd2
 obtain ⟨r0, rfl⟩ := Has.ex (cC (hReg1159.get 34 rfl (hpre 34 rfl)) (cC (hReg1159.get 40 rfl (hpre 40 rfl)) cN))
 exact q_fa (hw:=gY z z z (bY h1148)) fl36_3 z z<|nl ⟨z, (.inr ⟨hd1, g517, _, hG1157, hD522, (Regs.step hReg1159 hDi z z z z), hI1158⟩)⟩
 rintro D r wd1160 (⟨hd2, G1156, hG1157, hReg1159, hI1158⟩ | ⟨hd1, g517, G1156, hG1157, hD522, hReg1159, hI1158⟩) hDi hpre hpost
 cases (hpre 15 rfl).symm.trans hd2
 obtain ⟨r0, rfl⟩ := Has.ex (cC (hReg1159.get 34 rfl (hpre 34 rfl)) (cC (hReg1159.get 41 rfl (hpre 41 rfl)) cN))
 exact q_lf (hw:=gY z z z (bY h1148)) hI1158 ag3 z (hG1157.cel _ _ (hc1155 3 _ z))<|nl ⟨z, (.inr ⟨hd1, g517, _, hG1157, hD522, (Regs.step hReg1159 hDi z z z z), hI1158⟩)⟩
 rintro D r wd1160 (⟨hd2, G1156, hG1157, hReg1159, hI1158⟩ | ⟨hd1, g517, G1156, hG1157, hD522, hReg1159, hI1158⟩) hDi hpre hpost
 cases (hpre 15 rfl).symm.trans hd2
 obtain ⟨r0, rfl⟩ := Has.ex (cC (hReg1159.get 34 rfl (hpre 34 rfl)) (cC (hReg1159.get 36 rfl (hpre 36 rfl)) (cC (hReg1159.get 42 rfl (hpre 42 rfl)) cN)))
 exact q_lss (hw:=gY z z z (bY h1148)) z z<|nl ⟨z, (.inr ⟨hd1, g517, _, hG1157, hD522, (Regs.step hReg1159 hDi z z z z), hI1158⟩)⟩
 rintro D r wd1160 (⟨hd2, G1156, hG1157, hReg1159, hI1158⟩ | ⟨hd1, g517, G1156, hG1157, hD522, hReg1159, hI1158⟩) hDi hpre hpost
 cases (hpre 15 rfl).symm.trans hd2
 obtain ⟨r0, rfl⟩ := Has.ex (cC (hReg1159.get 31 rfl (hpre 31 rfl)) (cC (hReg1159.get 34 rfl (hpre 34 rfl)) (cC (hReg1159.get 43 rfl (hpre 43 rfl)) cN)))
 exact pkt (hw:=gY z z z (vN h1140)) (bY h1148) z<|nl ⟨z, (.inr ⟨hd1, g517, _, hG1157, hD522, (Regs.step hReg1159 hDi z z z z), hI1158⟩)⟩
 rintro D r wd1160 (⟨hd2, G1156, hG1157, hReg1159, hI1158⟩ | ⟨hd1, g517, G1156, hG1157, hD522, hReg1159, hI1158⟩) hDi hpre hpost
 cases (hpre 15 rfl).symm.trans hd2
 obtain ⟨r0, rfl⟩ := Has.ex (cC (hReg1159.get 31 rfl (hpre 31 rfl)) (cC (hReg1159.get 44 rfl (hpre 44 rfl)) cN))
 exact pkf (vN h1140) z<|nl ⟨z, (.inr ⟨hd1, g517, _, hG1157, hD522, (Regs.step hReg1159 hDi z z z z), hI1158⟩)⟩
 intro D r wd1160 hall hR
 rcases hR with ⟨hd2, G1156, hG1157, hReg1159, hI1158⟩ | ⟨hd1, g517, G1156, hG1157, hD522, hReg1159, hI1158⟩
 cases (hall 15 (Nat.le_of_ble_eq_true rfl)).symm.trans hd2
 obtain ⟨r0, rfl⟩ := Has.ex (cC (hReg1159.ins.get 0 rfl) (cC (hReg1159.ins.get 3 rfl) (cC (hReg1159.ins.get 4 rfl) (cC (hReg1159.ins.get 5 rfl) (cC (hReg1159.get 5 rfl (hall 5 (Nat.le_of_ble_eq_true rfl))) (cC (hReg1159.get 6 rfl (hall 6 (Nat.le_of_ble_eq_true rfl))) (cC (hReg1159.get 7 rfl (hall 7 (Nat.le_of_ble_eq_true rfl))) (cC (hReg1159.get 8 rfl (hall 8 (Nat.le_of_ble_eq_true rfl))) (cC (hReg1159.get 11 rfl (hall 11 (Nat.le_of_ble_eq_true rfl))) (cC (hReg1159.get 12 rfl (hall 12 (Nat.le_of_ble_eq_true rfl))) (cC (hReg1159.get 13 rfl (hall 13 (Nat.le_of_ble_eq_true rfl))) (cC (hReg1159.get 14 rfl (hall 14 (Nat.le_of_ble_eq_true rfl))) (cC (hReg1159.get 15 rfl (hall 15 (Nat.le_of_ble_eq_true rfl))) (cC (hReg1159.get 16 rfl (hall 16 (Nat.le_of_ble_eq_true rfl))) (cC (hReg1159.get 17 rfl (hall 17 (Nat.le_of_ble_eq_true rfl))) (cC (hReg1159.get 20 rfl (hall 20 (Nat.le_of_ble_eq_true rfl))) (cC (hReg1159.get 21 rfl (hall 21 (Nat.le_of_ble_eq_true rfl))) (cC (hReg1159.get 22 rfl (hall 22 (Nat.le_of_ble_eq_true rfl))) (cC (hReg1159.get 23 rfl (hall 23 (Nat.le_of_ble_eq_true rfl))) (cC (hReg1159.get 26 rfl (hall 26 (Nat.le_of_ble_eq_true rfl))) (cC (hReg1159.get 27 rfl (hall 27 (Nat.le_of_ble_eq_true rfl))) (cC (hReg1159.get 28 rfl (hall 28 (Nat.le_of_ble_eq_true rfl))) (cC (hReg1159.get 29 rfl (hall 29 (Nat.le_of_ble_eq_true rfl))) (cC (hReg1159.get 32 rfl (hall 32 (Nat.le_of_ble_eq_true rfl))) (cC (hReg1159.get 33 rfl (hall 33 (Nat.le_of_ble_eq_true rfl))) (cC (hReg1159.get 34 rfl (hall 34 (Nat.le_of_ble_eq_true rfl))) (cC (hReg1159.get 35 rfl (hall 35 (Nat.le_of_ble_eq_true rfl))) (cC (hReg1159.get 36 rfl (hall 36 (Nat.le_of_ble_eq_true rfl))) (cC (hReg1159.get 37 rfl (hall 37 (Nat.le_of_ble_eq_true rfl))) (cC (hReg1159.get 38 rfl (hall 38 (Nat.le_of_ble_eq_true rfl))) (cC (hReg1159.get 39 rfl (hall 39 (Nat.le_of_ble_eq_true rfl))) (cC (hReg1159.get 40 rfl (hall 40 (Nat.le_of_ble_eq_true rfl))) (cC (hReg1159.get 41 rfl (hall 41 (Nat.le_of_ble_eq_true rfl))) (cC (hReg1159.get 42 rfl (hall 42 (Nat.le_of_ble_eq_true rfl))) (cC (hReg1159.get 43 rfl (hall 43 (Nat.le_of_ble_eq_true rfl))) (cC (hReg1159.get 44 rfl (hall 44 (Nat.le_of_ble_eq_true rfl))) (cC (hReg1159.get 45 rfl (hall 45 (Nat.le_of_ble_eq_true rfl))) cN)))))))))))))))))))))))))))))))))))))
 refine have hI1162:=Hp.pick 2 [1] hI1158 z;?_
 cases H
 exact je ⟨z, z, z, z, z, tv⟩ (Hp.low hG1157 hI1162)
 refine nK h1148 H fun H=>?_
 refine wpc_drawL [0, 1, 3, 7, 15, 31, 63, 127, 255, 511, 1023, 2047, 4095, 2047, 10239, 32767, 65535, 131071, 262143, 524287, 1048575, 2097151, 4194303, 8388607, 16777215, 33554431, 67108863, 134217727, 268435455, 536870911, 1073741823, 2147483647, 4294967295, 8589934591, 17179869183, 34359738367, 68719476735, 34359738367, 34359738367, 309237645311, 996432412671, 2095944040447, 4294967295999, 8796093022207, 17592186044415, 35184372088831] (fun D r w => (D 15 = false ∧ ∃ (G' : Gh), G ≤ G' ∧ Regs [(0, slice A2 a1.length c3), (5, int .i64 v35), (6, pointer (some ⟨g72, 0, none⟩)), (17, slice A2 a1.length c3), (18, int .i64 (a1.length : Int)), (19, int .i64 v35)] [] [(0, 24, pointer (some ⟨g72, 0, none⟩)), (1, 25, int .i64 ((a1.getD (Int.toNat v35) z_api_Slice).Node)), (2, 26, bool y108), (3, 27, bool (!y108)), (4, 28, bool (!y108)), (5, 29, pointer (some ⟨g72, 1, none⟩)), (6, 30, int .i64 ((a1.getD (Int.toNat v35) z_api_Slice).Table)), (7, 31, bool y314), (8, 32, bool (!y314)), (9, 33, bool (!y314)), (10, 34, bool (!y314)), (11, 35, pointer (some ⟨g72, 2, none⟩)), (12, 36, int .i64 ((a1.getD (Int.toNat v35) z_api_Slice).X)), (13, 37, pointer (some ⟨g72, 3, none⟩)), (14, 38, int .i64 ((a1.getD (Int.toNat v35) z_api_Slice).Y))] D r ∧ Hp G' (bx g72 [int .i64 ((a1.getD (Int.toNat v35) z_api_Slice).Node), int .i64 ((a1.getD (Int.toNat v35) z_api_Slice).Table), int .i64 ((a1.getD (Int.toNat v35) z_api_Slice).X), int .i64 ((a1.getD (Int.toNat v35) z_api_Slice).Y), int .i64 ((a1.getD (Int.toNat v35) z_api_Slice).H), string ((a1.getD (Int.toNat v35) z_api_Slice).Text), bool ((a1.getD (Int.toNat v35) z_api_Slice).Head), bool ((a1.getD (Int.toNat v35) z_api_Slice).Note)] 36 :: L) w) ∨ (D 15 = true ∧ ∃ (g517 : Nat) (G' : Gh), G ≤ G' ∧ Dat (Kd.int .i64) G' (some ⟨g517, 0, none⟩) ([(a1.getD (Int.toNat v35) z_api_Slice).X, (a1.getD (Int.toNat v35) z_api_Slice).Y] : List Int) ∧ Regs [(0, slice A2 a1.length c3), (5, int .i64 v35), (6, pointer (some ⟨g72, 0, none⟩)), (17, slice A2 a1.length c3), (18, int .i64 (a1.length : Int)), (19, int .i64 v35)] [] [(0, 24, pointer (some ⟨g72, 0, none⟩)), (1, 25, int .i64 ((a1.getD (Int.toNat v35) z_api_Slice).Node)), (2, 26, bool y108), (3, 27, bool (!y108)), (4, 28, bool (!y108)), (5, 29, pointer (some ⟨g72, 1, none⟩)), (6, 30, int .i64 ((a1.getD (Int.toNat v35) z_api_Slice).Table)), (7, 31, bool y314), (8, 32, bool (!y314)), (9, 33, bool (!y314)), (10, 34, bool (!y314)), (11, 35, pointer (some ⟨g72, 2, none⟩)), (12, 36, int .i64 ((a1.getD (Int.toNat v35) z_api_Slice).X)), (13, 37, pointer (some ⟨g72, 3, none⟩)), (14, 38, int .i64 ((a1.getD (Int.toNat v35) z_api_Slice).Y)), (15, 39, slice (some ⟨g517, 0, none⟩) ([(a1.getD (Int.toNat v35) z_api_Slice).X, (a1.getD (Int.toNat v35) z_api_Slice).Y] : List Int).length 2), (16, 40, bool y528), (17, 41, bool (!y528)), (18, 42, bool (!y528)), (19, 43, bool (!y528)), (20, 44, pointer (some ⟨g72, 4, none⟩)), (21, 45, int .i64 ((a1.getD (Int.toNat v35) z_api_Slice).H)), (22, 46, bool y736), (23, 47, bool (!y736)), (24, 48, bool (!y736)), (25, 49, bool (!y736)), (26, 50, pointer (some ⟨g72, 5, none⟩)), (27, 51, string ((a1.getD (Int.toNat v35) z_api_Slice).Text)), (28, 52, bool y944), (29, 53, bool (!y944)), (30, 54, bool (!y944)), (31, 55, bool (!y944)), (32, 56, int .i64 v35), (33, 57, bool (decide (0 < v35))), (34, 58, bool (decide (0 < v35))), (35, 59, undef), (36, 60, undef), (37, 61, undef), (38, 62, undef), (39, 63, undef), (40, 64, undef), (41, 65, undef), (42, 66, undef), (43, 67, undef), (44, 68, bool false), (45, 69, bool false)] D r ∧ Hp G' (tk (slice (some ⟨g517, 0, none⟩) ([(a1.getD (Int.toNat v35) z_api_Slice).X, (a1.getD (Int.toNat v35) z_api_Slice).Y] : List Int).length 2) 1 3 :: bx g72 [int .i64 ((a1.getD (Int.toNat v35) z_api_Slice).Node), int .i64 ((a1.getD (Int.toNat v35) z_api_Slice).Table), int .i64 ((a1.getD (Int.toNat v35) z_api_Slice).X), int .i64 ((a1.getD (Int.toNat v35) z_api_Slice).Y), int .i64 ((a1.getD (Int.toNat v35) z_api_Slice).H), string ((a1.getD (Int.toNat v35) z_api_Slice).Text), bool ((a1.getD (Int.toNat v35) z_api_Slice).Head), bool ((a1.getD (Int.toNat v35) z_api_Slice).Note)] 36 :: L) w)) mixo z z ?_ ?_ ?_
 exact (.inl ⟨z, _, Gh.le_refl _, Regs.start ⟨z, z, z, z, z, z, tv⟩ trivial, hI76.drew⟩)
 refine ⟨?_, ?_, ?_, ?_, ?_, ?_, ?_, ?_, ?_, ?_, ?_, ?_, ?_, ?_, ?_, ?_, ?_, ?_, ?_, ?_, ?_, ?_, ?_, ?_, ?_, ?_, ?_, ?_, ?_, ?_, ?_, ?_, ?_, ?_, ?_, ?_, ?_, ?_, ?_, ?_, ?_, ?_, ?_, ?_, ?_, ?_, tv⟩
 rintro D r wd1167 (⟨hd2, G1163, hG1164, hReg1166, hI1165⟩ | ⟨hd1, g517, G1163, hG1164, hD522, hReg1166, hI1165⟩) hDi hpre hpost
 obtain ⟨r0, rfl⟩ := Has.ex (cC (hReg1166.ins.get 2 rfl) cN)
 exact fa fl36_0 z<|nl ⟨z, (.inl ⟨hd2, _, hG1164, (Regs.step hReg1166 hDi z z z z), hI1165⟩)⟩
 cases (hpost 15 rfl).symm.trans hd1
 rintro D r wd1167 (⟨hd2, G1163, hG1164, hReg1166, hI1165⟩ | ⟨hd1, g517, G1163, hG1164, hD522, hReg1166, hI1165⟩) hDi hpre hpost
 obtain ⟨r0, rfl⟩ := Has.ex (cC (hReg1166.get 0 rfl (hpre 0 rfl)) cN)
 exact ld hI1165 0 ag3 z z z<|nl ⟨z, (.inl ⟨hd2, _, hG1164, (Regs.step hReg1166 hDi z z z z), hI1165⟩)⟩
 cases (hpost 15 rfl).symm.trans hd1
 rintro D r wd1167 (⟨hd2, G1163, hG1164, hReg1166, hI1165⟩ | ⟨hd1, g517, G1163, hG1164, hD522, hReg1166, hI1165⟩) hDi hpre hpost
 obtain ⟨r0, rfl⟩ := Has.ex (cC (hReg1166.get 1 rfl (hpre 1 rfl)) cN)
 exact cv bo36 (pages_within_spec hy293 hI1165) z z fun wd106 hI107=>nl ⟨z, (.inl ⟨hd2, _, hG1164, (Regs.step hReg1166 hDi z z z z), hI107⟩)⟩
 cases (hpost 15 rfl).symm.trans hd1
 rintro D r wd1167 (⟨hd2, G1163, hG1164, hReg1166, hI1165⟩ | ⟨hd1, g517, G1163, hG1164, hD522, hReg1166, hI1165⟩) hDi hpre hpost
 obtain ⟨r0, rfl⟩ := Has.ex (cC (hReg1166.get 2 rfl (hpre 2 rfl)) cN)
 exact q_not z<|nl ⟨z, (.inl ⟨hd2, _, hG1164, (Regs.step hReg1166 hDi z z z z), hI1165⟩)⟩
 cases (hpost 15 rfl).symm.trans hd1
 rintro D r wd1167 (⟨hd2, G1163, hG1164, hReg1166, hI1165⟩ | ⟨hd1, g517, G1163, hG1164, hD522, hReg1166, hI1165⟩) hDi hpre hpost
 obtain ⟨r0, rfl⟩ := Has.ex (cC (hReg1166.get 3 rfl (hpre 3 rfl)) cN)
 exact mv z<|nl ⟨z, (.inl ⟨hd2, _, hG1164, (Regs.step hReg1166 hDi z z z z), hI1165⟩)⟩
 cases (hpost 15 rfl).symm.trans hd1
 rintro D r wd1167 (⟨hd2, G1163, hG1164, hReg1166, hI1165⟩ | ⟨hd1, g517, G1163, hG1164, hD522, hReg1166, hI1165⟩) hDi hpre hpost
 obtain ⟨r0, rfl⟩ := Has.ex (cC (hReg1166.ins.get 2 rfl) (cC (hReg1166.get 4 rfl (hpre 4 rfl)) cN))
 exact fa (hw:=gY z z z (vN h304)) fl36_1 z<|nl ⟨z, (.inl ⟨hd2, _, hG1164, (Regs.step hReg1166 hDi z z z z), hI1165⟩)⟩
 cases (hpost 15 rfl).symm.trans hd1
 rintro D r wd1167 (⟨hd2, G1163, hG1164, hReg1166, hI1165⟩ | ⟨hd1, g517, G1163, hG1164, hD522, hReg1166, hI1165⟩) hDi hpre hpost
 obtain ⟨r0, rfl⟩ := Has.ex (cC (hReg1166.get 4 rfl (hpre 4 rfl)) (cC (hReg1166.get 5 rfl (hpre 5 rfl)) cN))
 exact ld (hw:=gY z z z (vN h304)) hI1165 0 ag3 z z z<|nl ⟨z, (.inl ⟨hd2, _, hG1164, (Regs.step hReg1166 hDi z z z z), hI1165⟩)⟩
 cases (hpost 15 rfl).symm.trans hd1
 rintro D r wd1167 (⟨hd2, G1163, hG1164, hReg1166, hI1165⟩ | ⟨hd1, g517, G1163, hG1164, hD522, hReg1166, hI1165⟩) hDi hpre hpost
 obtain ⟨r0, rfl⟩ := Has.ex (cC (hReg1166.get 4 rfl (hpre 4 rfl)) (cC (hReg1166.get 6 rfl (hpre 6 rfl)) cN))
 exact cv (hw:=gY z z z (vN h304)) bo36 (pages_within_spec hy499 hI1165) z z fun wd312 hI313=>nl ⟨z, (.inl ⟨hd2, _, hG1164, (Regs.step hReg1166 hDi z z z z), hI313⟩)⟩
 cases (hpost 15 rfl).symm.trans hd1
 rintro D r wd1167 (⟨hd2, G1163, hG1164, hReg1166, hI1165⟩ | ⟨hd1, g517, G1163, hG1164, hD522, hReg1166, hI1165⟩) hDi hpre hpost
 obtain ⟨r0, rfl⟩ := Has.ex (cC (hReg1166.get 4 rfl (hpre 4 rfl)) (cC (hReg1166.get 7 rfl (hpre 7 rfl)) cN))
 exact q_not (hw:=gY z z z (vN h304)) z<|nl ⟨z, (.inl ⟨hd2, _, hG1164, (Regs.step hReg1166 hDi z z z z), hI1165⟩)⟩
 cases (hpost 15 rfl).symm.trans hd1
 rintro D r wd1167 (⟨hd2, G1163, hG1164, hReg1166, hI1165⟩ | ⟨hd1, g517, G1163, hG1164, hD522, hReg1166, hI1165⟩) hDi hpre hpost
 obtain ⟨r0, rfl⟩ := Has.ex (cC (hReg1166.get 4 rfl (hpre 4 rfl)) (cC (hReg1166.get 8 rfl (hpre 8 rfl)) cN))
 exact pkf (vN h304) z<|nl ⟨z, (.inl ⟨hd2, _, hG1164, (Regs.step hReg1166 hDi z z z z), hI1165⟩)⟩
 cases (hpost 15 rfl).symm.trans hd1
 rintro D r wd1167 (⟨hd2, G1163, hG1164, hReg1166, hI1165⟩ | ⟨hd1, g517, G1163, hG1164, hD522, hReg1166, hI1165⟩) hDi hpre hpost
 obtain ⟨r0, rfl⟩ := Has.ex (cC (hReg1166.get 9 rfl (hpre 9 rfl)) cN)
 exact mv z<|nl ⟨z, (.inl ⟨hd2, _, hG1164, (Regs.step hReg1166 hDi z z z z), hI1165⟩)⟩
 cases (hpost 15 rfl).symm.trans hd1
 rintro D r wd1167 (⟨hd2, G1163, hG1164, hReg1166, hI1165⟩ | ⟨hd1, g517, G1163, hG1164, hD522, hReg1166, hI1165⟩) hDi hpre hpost
 obtain ⟨r0, rfl⟩ := Has.ex (cC (hReg1166.ins.get 2 rfl) (cC (hReg1166.get 10 rfl (hpre 10 rfl)) cN))
 exact fa (hw:=gY z z z (vN h510)) fl36_2 z<|nl ⟨z, (.inl ⟨hd2, _, hG1164, (Regs.step hReg1166 hDi z z z z), hI1165⟩)⟩
 cases (hpost 15 rfl).symm.trans hd1
 rintro D r wd1167 (⟨hd2, G1163, hG1164, hReg1166, hI1165⟩ | ⟨hd1, g517, G1163, hG1164, hD522, hReg1166, hI1165⟩) hDi hpre hpost
 obtain ⟨r0, rfl⟩ := Has.ex (cC (hReg1166.get 10 rfl (hpre 10 rfl)) (cC (hReg1166.get 11 rfl (hpre 11 rfl)) cN))
 exact ld (hw:=gY z z z (vN h510)) hI1165 0 ag3 z z z<|nl ⟨z, (.inl ⟨hd2, _, hG1164, (Regs.step hReg1166 hDi z z z z), hI1165⟩)⟩
 cases (hpost 15 rfl).symm.trans hd1
 rintro D r wd1167 (⟨hd2, G1163, hG1164, hReg1166, hI1165⟩ | ⟨hd1, g517, G1163, hG1164, hD522, hReg1166, hI1165⟩) hDi hpre hpost
 obtain ⟨r0, rfl⟩ := Has.ex (cC (hReg1166.ins.get 2 rfl) (cC (hReg1166.get 10 rfl (hpre 10 rfl)) cN))
 exact fa (hw:=gY z z z (vN h510)) fl36_3 z<|nl ⟨z, (.inl ⟨hd2, _, hG1164, (Regs.step hReg1166 hDi z z z z), hI1165⟩)⟩
 cases (hpost 15 rfl).symm.trans hd1
 rintro D r wd1167 (⟨hd2, G1163, hG1164, hReg1166, hI1165⟩ | ⟨hd1, g517, G1163, hG1164, hD522, hReg1166, hI1165⟩) hDi hpre hpost
 obtain ⟨r0, rfl⟩ := Has.ex (cC (hReg1166.get 10 rfl (hpre 10 rfl)) (cC (hReg1166.get 13 rfl (hpre 13 rfl)) cN))
 exact ld (hw:=gY z z z (vN h510)) hI1165 0 ag3 z z z<|nl ⟨z, (.inl ⟨hd2, _, hG1164, (Regs.step hReg1166 hDi z z z z), hI1165⟩)⟩
 cases (hpost 15 rfl).symm.trans hd1
 rintro D r wd1167 (⟨hd2, G1163, hG1164, hReg1166, hI1165⟩ | ⟨hd1, g517, G1163, hG1164, hD522, hReg1166, hI1165⟩) hDi hpre hpost
 obtain ⟨r0, rfl⟩ := Has.ex (cC (hReg1166.get 10 rfl (hpre 10 rfl)) (cC (hReg1166.get 12 rfl (hpre 12 rfl)) (cC (hReg1166.get 14 rfl (hpre 14 rfl)) cN)))
 refine q_bs hI1165 (vs := [(0, int .i64 ((a1.getD (Int.toNat v35) z_api_Slice).X)), (1, int .i64 ((a1.getD (Int.toNat v35) z_api_Slice).Y))]) (cs := [int .i64 ((a1.getD (Int.toNat v35) z_api_Slice).X), int .i64 ((a1.getD (Int.toNat v35) z_api_Slice).Y)]) el65 ze3 rfl (by decide) rfl (by kernel_rfl) (fun g517 wd518 hI519 => ?_) (hw := gY rfl rfl rfl (bval_no h510))
 obtain ⟨G520, hG521, hI523, hD522⟩ := Hp.publish (xs := ([(a1.getD (Int.toNat v35) z_api_Slice).X, (a1.getD (Int.toNat v35) z_api_Slice).Y] : List Int)) (n := 2) (Kd.int .i64) hI519 ⟨[int .i64 ((a1.getD (Int.toNat v35) z_api_Slice).X)], _, rfl, rfl, ⟨[int .i64 ((a1.getD (Int.toNat v35) z_api_Slice).Y)], _, rfl, rfl, rfl⟩⟩ rfl
 exact nl ⟨z, (.inr ⟨z, g517, _, (gT hG1164 hG521), hD522, (Regs.step (Regs.more (new := [(15, 39, slice (some ⟨g517, 0, none⟩) ([(a1.getD (Int.toNat v35) z_api_Slice).X, (a1.getD (Int.toNat v35) z_api_Slice).Y] : List Int).length 2), (16, 40, bool y528), (17, 41, bool (!y528)), (18, 42, bool (!y528)), (19, 43, bool (!y528)), (20, 44, pointer (some ⟨g72, 4, none⟩)), (21, 45, int .i64 ((a1.getD (Int.toNat v35) z_api_Slice).H)), (22, 46, bool y736), (23, 47, bool (!y736)), (24, 48, bool (!y736)), (25, 49, bool (!y736)), (26, 50, pointer (some ⟨g72, 5, none⟩)), (27, 51, string ((a1.getD (Int.toNat v35) z_api_Slice).Text)), (28, 52, bool y944), (29, 53, bool (!y944)), (30, 54, bool (!y944)), (31, 55, bool (!y944)), (32, 56, int .i64 v35), (33, 57, bool (decide (0 < v35))), (34, 58, bool (decide (0 < v35))), (35, 59, undef), (36, 60, undef), (37, 61, undef), (38, 62, undef), (39, 63, undef), (40, 64, undef), (41, 65, undef), (42, 66, undef), (43, 67, undef), (44, 68, bool false), (45, 69, bool false)]) hReg1166 (List.forall_mem_cons.2 ⟨hDi, (List.forall_mem_cons.2 ⟨hpost 16 z, (List.forall_mem_cons.2 ⟨hpost 17 z, (List.forall_mem_cons.2 ⟨hpost 18 z, (List.forall_mem_cons.2 ⟨hpost 19 z, (List.forall_mem_cons.2 ⟨hpost 20 z, (List.forall_mem_cons.2 ⟨hpost 21 z, (List.forall_mem_cons.2 ⟨hpost 22 z, (List.forall_mem_cons.2 ⟨hpost 23 z, (List.forall_mem_cons.2 ⟨hpost 24 z, (List.forall_mem_cons.2 ⟨hpost 25 z, (List.forall_mem_cons.2 ⟨hpost 26 z, (List.forall_mem_cons.2 ⟨hpost 27 z, (List.forall_mem_cons.2 ⟨hpost 28 z, (List.forall_mem_cons.2 ⟨hpost 29 z, (List.forall_mem_cons.2 ⟨hpost 30 z, (List.forall_mem_cons.2 ⟨hpost 31 z, (List.forall_mem_cons.2 ⟨hpost 32 z, (List.forall_mem_cons.2 ⟨hpost 33 z, (List.forall_mem_cons.2 ⟨hpost 34 z, (List.forall_mem_cons.2 ⟨hpost 35 z, (List.forall_mem_cons.2 ⟨hpost 36 z, (List.forall_mem_cons.2 ⟨hpost 37 z, (List.forall_mem_cons.2 ⟨hpost 38 z, (List.forall_mem_cons.2 ⟨hpost 39 z, (List.forall_mem_cons.2 ⟨hpost 40 z, (List.forall_mem_cons.2 ⟨hpost 41 z, (List.forall_mem_cons.2 ⟨hpost 42 z, (List.forall_mem_cons.2 ⟨hpost 43 z, (List.forall_mem_cons.2 ⟨hpost 44 z, (List.forall_mem_cons.2 ⟨hpost 45 z, (fun _ h => nomatch h)⟩)⟩)⟩)⟩)⟩)⟩)⟩)⟩)⟩)⟩)⟩)⟩)⟩)⟩)⟩)⟩)⟩)⟩)⟩)⟩)⟩)⟩)⟩)⟩)⟩)⟩)⟩)⟩)⟩)⟩)⟩)) hDi z z z z), hI523⟩)⟩
 cases hDi.symm.trans hd1
 rintro D r wd1167 (⟨hd2, G1163, hG1164, hReg1166, hI1165⟩ | ⟨hd1, g517, G1163, hG1164, hD522, hReg1166, hI1165⟩) hDi hpre hpost
 cases (hpre 15 rfl).symm.trans hd2
 obtain ⟨r0, rfl⟩ := Has.ex (cC (hReg1166.get 10 rfl (hpre 10 rfl)) (cC (hReg1166.get 15 rfl (hpre 15 rfl)) cN))
 exact cv (hw:=gY z z z (vN h510)) bo39 (pages_areCoords_spec (a1 := ([(a1.getD (Int.toNat v35) z_api_Slice).X, (a1.getD (Int.toNat v35) z_api_Slice).Y] : List Int)) hy713 hI1165 (show ([(a1.getD (Int.toNat v35) z_api_Slice).X, (a1.getD (Int.toNat v35) z_api_Slice).Y] : List Int).length ≤ 2 from Nat.le_of_ble_eq_true z) hD522) z z fun wd526 hI527=>nl ⟨z, (.inr ⟨hd1, g517, _, hG1164, hD522, (Regs.step hReg1166 hDi z z z z), hI527⟩)⟩
 rintro D r wd1167 (⟨hd2, G1163, hG1164, hReg1166, hI1165⟩ | ⟨hd1, g517, G1163, hG1164, hD522, hReg1166, hI1165⟩) hDi hpre hpost
 cases (hpre 15 rfl).symm.trans hd2
 obtain ⟨r0, rfl⟩ := Has.ex (cC (hReg1166.get 10 rfl (hpre 10 rfl)) (cC (hReg1166.get 16 rfl (hpre 16 rfl)) cN))
 exact q_not (hw:=gY z z z (vN h510)) z<|nl ⟨z, (.inr ⟨hd1, g517, _, hG1164, hD522, (Regs.step hReg1166 hDi z z z z), hI1165⟩)⟩
 rintro D r wd1167 (⟨hd2, G1163, hG1164, hReg1166, hI1165⟩ | ⟨hd1, g517, G1163, hG1164, hD522, hReg1166, hI1165⟩) hDi hpre hpost
 cases (hpre 15 rfl).symm.trans hd2
 obtain ⟨r0, rfl⟩ := Has.ex (cC (hReg1166.get 10 rfl (hpre 10 rfl)) (cC (hReg1166.get 17 rfl (hpre 17 rfl)) cN))
 exact pkf (vN h510) z<|nl ⟨z, (.inr ⟨hd1, g517, _, hG1164, hD522, (Regs.step hReg1166 hDi z z z z), hI1165⟩)⟩
 rintro D r wd1167 (⟨hd2, G1163, hG1164, hReg1166, hI1165⟩ | ⟨hd1, g517, G1163, hG1164, hD522, hReg1166, hI1165⟩) hDi hpre hpost
 cases (hpre 15 rfl).symm.trans hd2
 obtain ⟨r0, rfl⟩ := Has.ex (cC (hReg1166.get 18 rfl (hpre 18 rfl)) cN)
 exact mv z<|nl ⟨z, (.inr ⟨hd1, g517, _, hG1164, hD522, (Regs.step hReg1166 hDi z z z z), hI1165⟩)⟩
 rintro D r wd1167 (⟨hd2, G1163, hG1164, hReg1166, hI1165⟩ | ⟨hd1, g517, G1163, hG1164, hD522, hReg1166, hI1165⟩) hDi hpre hpost
 cases (hpre 15 rfl).symm.trans hd2
 obtain ⟨r0, rfl⟩ := Has.ex (cC (hReg1166.ins.get 2 rfl) (cC (hReg1166.get 19 rfl (hpre 19 rfl)) cN))
 exact fa (hw:=gY z z z (vN h724)) fl36_4 z<|nl ⟨z, (.inr ⟨hd1, g517, _, hG1164, hD522, (Regs.step hReg1166 hDi z z z z), hI1165⟩)⟩
 rintro D r wd1167 (⟨hd2, G1163, hG1164, hReg1166, hI1165⟩ | ⟨hd1, g517, G1163, hG1164, hD522, hReg1166, hI1165⟩) hDi hpre hpost
 cases (hpre 15 rfl).symm.trans hd2
 obtain ⟨r0, rfl⟩ := Has.ex (cC (hReg1166.get 19 rfl (hpre 19 rfl)) (cC (hReg1166.get 20 rfl (hpre 20 rfl)) cN))
 exact ld (hw:=gY z z z (vN h724)) hI1165 1 ag3 z z z<|nl ⟨z, (.inr ⟨hd1, g517, _, hG1164, hD522, (Regs.step hReg1166 hDi z z z z), hI1165⟩)⟩
 rintro D r wd1167 (⟨hd2, G1163, hG1164, hReg1166, hI1165⟩ | ⟨hd1, g517, G1163, hG1164, hD522, hReg1166, hI1165⟩) hDi hpre hpost
 cases (hpre 15 rfl).symm.trans hd2
 obtain ⟨r0, rfl⟩ := Has.ex (cC (hReg1166.get 19 rfl (hpre 19 rfl)) (cC (hReg1166.get 21 rfl (hpre 21 rfl)) cN))
 exact cv (hw:=gY z z z (vN h724)) bo36 (pages_within_spec hy921 hI1165) z z fun wd734 hI735=>nl ⟨z, (.inr ⟨hd1, g517, _, hG1164, hD522, (Regs.step hReg1166 hDi z z z z), hI735⟩)⟩
 rintro D r wd1167 (⟨hd2, G1163, hG1164, hReg1166, hI1165⟩ | ⟨hd1, g517, G1163, hG1164, hD522, hReg1166, hI1165⟩) hDi hpre hpost
 cases (hpre 15 rfl).symm.trans hd2
 obtain ⟨r0, rfl⟩ := Has.ex (cC (hReg1166.get 19 rfl (hpre 19 rfl)) (cC (hReg1166.get 22 rfl (hpre 22 rfl)) cN))
 exact q_not (hw:=gY z z z (vN h724)) z<|nl ⟨z, (.inr ⟨hd1, g517, _, hG1164, hD522, (Regs.step hReg1166 hDi z z z z), hI1165⟩)⟩
 rintro D r wd1167 (⟨hd2, G1163, hG1164, hReg1166, hI1165⟩ | ⟨hd1, g517, G1163, hG1164, hD522, hReg1166, hI1165⟩) hDi hpre hpost
 cases (hpre 15 rfl).symm.trans hd2
 obtain ⟨r0, rfl⟩ := Has.ex (cC (hReg1166.get 19 rfl (hpre 19 rfl)) (cC (hReg1166.get 23 rfl (hpre 23 rfl)) cN))
 exact pkf (vN h724) z<|nl ⟨z, (.inr ⟨hd1, g517, _, hG1164, hD522, (Regs.step hReg1166 hDi z z z z), hI1165⟩)⟩
 rintro D r wd1167 (⟨hd2, G1163, hG1164, hReg1166, hI1165⟩ | ⟨hd1, g517, G1163, hG1164, hD522, hReg1166, hI1165⟩) hDi hpre hpost
 cases (hpre 15 rfl).symm.trans hd2
 obtain ⟨r0, rfl⟩ := Has.ex (cC (hReg1166.get 24 rfl (hpre 24 rfl)) cN)
 exact mv z<|nl ⟨z, (.inr ⟨hd1, g517, _, hG1164, hD522, (Regs.step hReg1166 hDi z z z z), hI1165⟩)⟩
 rintro D r wd1167 (⟨hd2, G1163, hG1164, hReg1166, hI1165⟩ | ⟨hd1, g517, G1163, hG1164, hD522, hReg1166, hI1165⟩) hDi hpre hpost
 cases (hpre 15 rfl).symm.trans hd2
 obtain ⟨r0, rfl⟩ := Has.ex (cC (hReg1166.ins.get 2 rfl) (cC (hReg1166.get 25 rfl (hpre 25 rfl)) cN))
 exact fa (hw:=gY z z z (vN h932)) fl36_5 z<|nl ⟨z, (.inr ⟨hd1, g517, _, hG1164, hD522, (Regs.step hReg1166 hDi z z z z), hI1165⟩)⟩
 rintro D r wd1167 (⟨hd2, G1163, hG1164, hReg1166, hI1165⟩ | ⟨hd1, g517, G1163, hG1164, hD522, hReg1166, hI1165⟩) hDi hpre hpost
 cases (hpre 15 rfl).symm.trans hd2
 obtain ⟨r0, rfl⟩ := Has.ex (cC (hReg1166.get 25 rfl (hpre 25 rfl)) (cC (hReg1166.get 26 rfl (hpre 26 rfl)) cN))
 exact ld (hw:=gY z z z (vN h932)) hI1165 1 ag9 z z z<|nl ⟨z, (.inr ⟨hd1, g517, _, hG1164, hD522, (Regs.step hReg1166 hDi z z z z), hI1165⟩)⟩
 rintro D r wd1167 (⟨hd2, G1163, hG1164, hReg1166, hI1165⟩ | ⟨hd1, g517, G1163, hG1164, hD522, hReg1166, hI1165⟩) hDi hpre hpost
 cases (hpre 15 rfl).symm.trans hd2
 obtain ⟨r0, rfl⟩ := Has.ex (cC (hReg1166.get 25 rfl (hpre 25 rfl)) (cC (hReg1166.get 27 rfl (hpre 27 rfl)) cN))
 exact cv (hw:=gY z z z (vN h932)) bo40 (text_Valid_spec hy1129 hI1165) z z fun wd942 hI943=>nl ⟨z, (.inr ⟨hd1, g517, _, hG1164, hD522, (Regs.step hReg1166 hDi z z z z), hI943⟩)⟩
 rintro D r wd1167 (⟨hd2, G1163, hG1164, hReg1166, hI1165⟩ | ⟨hd1, g517, G1163, hG1164, hD522, hReg1166, hI1165⟩) hDi hpre hpost
 cases (hpre 15 rfl).symm.trans hd2
 obtain ⟨r0, rfl⟩ := Has.ex (cC (hReg1166.get 25 rfl (hpre 25 rfl)) (cC (hReg1166.get 28 rfl (hpre 28 rfl)) cN))
 exact q_not (hw:=gY z z z (vN h932)) z<|nl ⟨z, (.inr ⟨hd1, g517, _, hG1164, hD522, (Regs.step hReg1166 hDi z z z z), hI1165⟩)⟩
 rintro D r wd1167 (⟨hd2, G1163, hG1164, hReg1166, hI1165⟩ | ⟨hd1, g517, G1163, hG1164, hD522, hReg1166, hI1165⟩) hDi hpre hpost
 cases (hpre 15 rfl).symm.trans hd2
 obtain ⟨r0, rfl⟩ := Has.ex (cC (hReg1166.get 25 rfl (hpre 25 rfl)) (cC (hReg1166.get 29 rfl (hpre 29 rfl)) cN))
 exact pkf (vN h932) z<|nl ⟨z, (.inr ⟨hd1, g517, _, hG1164, hD522, (Regs.step hReg1166 hDi z z z z), hI1165⟩)⟩
 rintro D r wd1167 (⟨hd2, G1163, hG1164, hReg1166, hI1165⟩ | ⟨hd1, g517, G1163, hG1164, hD522, hReg1166, hI1165⟩) hDi hpre hpost
 cases (hpre 15 rfl).symm.trans hd2
 obtain ⟨r0, rfl⟩ := Has.ex (cC (hReg1166.get 30 rfl (hpre 30 rfl)) cN)
 exact mv z<|nl ⟨z, (.inr ⟨hd1, g517, _, hG1164, hD522, (Regs.step hReg1166 hDi z z z z), hI1165⟩)⟩
 rintro D r wd1167 (⟨hd2, G1163, hG1164, hReg1166, hI1165⟩ | ⟨hd1, g517, G1163, hG1164, hD522, hReg1166, hI1165⟩) hDi hpre hpost
 cases (hpre 15 rfl).symm.trans hd2
 obtain ⟨r0, rfl⟩ := Has.ex (cC (hReg1166.ins.get 1 rfl) (cC (hReg1166.get 31 rfl (hpre 31 rfl)) cN))
 exact mv (hw:=gY z z z (vN h1140)) z<|nl ⟨z, (.inr ⟨hd1, g517, _, hG1164, hD522, (Regs.step hReg1166 hDi z z z z), hI1165⟩)⟩
 rintro D r wd1167 (⟨hd2, G1163, hG1164, hReg1166, hI1165⟩ | ⟨hd1, g517, G1163, hG1164, hD522, hReg1166, hI1165⟩) hDi hpre hpost
 cases (hpre 15 rfl).symm.trans hd2
 obtain ⟨r0, rfl⟩ := Has.ex (cC (hReg1166.get 31 rfl (hpre 31 rfl)) (cC (hReg1166.get 32 rfl (hpre 32 rfl)) cN))
 exact q_gtr (hw:=gY z z z (vN h1140)) z z<|nl ⟨z, (.inr ⟨hd1, g517, _, hG1164, hD522, (Regs.step hReg1166 hDi z z z z), hI1165⟩)⟩
 rintro D r wd1167 (⟨hd2, G1163, hG1164, hReg1166, hI1165⟩ | ⟨hd1, g517, G1163, hG1164, hD522, hReg1166, hI1165⟩) hDi hpre hpost
 cases (hpre 15 rfl).symm.trans hd2
 obtain ⟨r0, rfl⟩ := Has.ex (cC (hReg1166.get 31 rfl (hpre 31 rfl)) (cC (hReg1166.get 33 rfl (hpre 33 rfl)) cN))
 exact mv (hw:=gY z z z (vN h1140)) z<|nl ⟨z, (.inr ⟨hd1, g517, _, hG1164, hD522, (Regs.step hReg1166 hDi z z z z), hI1165⟩)⟩
 rintro D r wd1167 (⟨hd2, G1163, hG1164, hReg1166, hI1165⟩ | ⟨hd1, g517, G1163, hG1164, hD522, hReg1166, hI1165⟩) hDi hpre hpost
 cases (hpre 15 rfl).symm.trans hd2
 obtain ⟨r0, rfl⟩ := Has.ex (cC (hReg1166.get 34 rfl (hpre 34 rfl)) cN)
 exact wN (gN z z z (bN h1148) z)<|nl ⟨z, (.inr ⟨hd1, g517, _, hG1164, hD522, (Regs.step hReg1166 hDi z z z z), hI1165⟩)⟩
 rintro D r wd1167 (⟨hd2, G1163, hG1164, hReg1166, hI1165⟩ | ⟨hd1, g517, G1163, hG1164, hD522, hReg1166, hI1165⟩) hDi hpre hpost
 cases (hpre 15 rfl).symm.trans hd2
 obtain ⟨r0, rfl⟩ := Has.ex (cC (hReg1166.get 34 rfl (hpre 34 rfl)) cN)
 exact wN (gN z z z (bN h1148) z)<|nl ⟨z, (.inr ⟨hd1, g517, _, hG1164, hD522, (Regs.step hReg1166 hDi z z z z), hI1165⟩)⟩
 rintro D r wd1167 (⟨hd2, G1163, hG1164, hReg1166, hI1165⟩ | ⟨hd1, g517, G1163, hG1164, hD522, hReg1166, hI1165⟩) hDi hpre hpost
 cases (hpre 15 rfl).symm.trans hd2
 obtain ⟨r0, rfl⟩ := Has.ex (cC (hReg1166.get 34 rfl (hpre 34 rfl)) cN)
 exact wN (gN z z z (bN h1148) z)<|nl ⟨z, (.inr ⟨hd1, g517, _, hG1164, hD522, (Regs.step hReg1166 hDi z z z z), hI1165⟩)⟩
 rintro D r wd1167 (⟨hd2, G1163, hG1164, hReg1166, hI1165⟩ | ⟨hd1, g517, G1163, hG1164, hD522, hReg1166, hI1165⟩) hDi hpre hpost
 cases (hpre 15 rfl).symm.trans hd2
 obtain ⟨r0, rfl⟩ := Has.ex (cC (hReg1166.get 34 rfl (hpre 34 rfl)) cN)
 exact wN (gN z z z (bN h1148) z)<|nl ⟨z, (.inr ⟨hd1, g517, _, hG1164, hD522, (Regs.step hReg1166 hDi z z z z), hI1165⟩)⟩
 rintro D r wd1167 (⟨hd2, G1163, hG1164, hReg1166, hI1165⟩ | ⟨hd1, g517, G1163, hG1164, hD522, hReg1166, hI1165⟩) hDi hpre hpost
 cases (hpre 15 rfl).symm.trans hd2
 obtain ⟨r0, rfl⟩ := Has.ex (cC (hReg1166.get 34 rfl (hpre 34 rfl)) cN)
 exact wN (gN z z z (bN h1148) z)<|nl ⟨z, (.inr ⟨hd1, g517, _, hG1164, hD522, (Regs.step hReg1166 hDi z z z z), hI1165⟩)⟩
 rintro D r wd1167 (⟨hd2, G1163, hG1164, hReg1166, hI1165⟩ | ⟨hd1, g517, G1163, hG1164, hD522, hReg1166, hI1165⟩) hDi hpre hpost
 cases (hpre 15 rfl).symm.trans hd2
 obtain ⟨r0, rfl⟩ := Has.ex (cC (hReg1166.get 34 rfl (hpre 34 rfl)) cN)
 exact wN (gN z z z (bN h1148) z)<|nl ⟨z, (.inr ⟨hd1, g517, _, hG1164, hD522, (Regs.step hReg1166 hDi z z z z), hI1165⟩)⟩
 rintro D r wd1167 (⟨hd2, G1163, hG1164, hReg1166, hI1165⟩ | ⟨hd1, g517, G1163, hG1164, hD522, hReg1166, hI1165⟩) hDi hpre hpost
 cases (hpre 15 rfl).symm.trans hd2
 obtain ⟨r0, rfl⟩ := Has.ex (cC (hReg1166.get 34 rfl (hpre 34 rfl)) cN)
 exact wN (gN z z z (bN h1148) z)<|nl ⟨z, (.inr ⟨hd1, g517, _, hG1164, hD522, (Regs.step hReg1166 hDi z z z z), hI1165⟩)⟩
 rintro D r wd1167 (⟨hd2, G1163, hG1164, hReg1166, hI1165⟩ | ⟨hd1, g517, G1163, hG1164, hD522, hReg1166, hI1165⟩) hDi hpre hpost
 cases (hpre 15 rfl).symm.trans hd2
 obtain ⟨r0, rfl⟩ := Has.ex (cC (hReg1166.get 34 rfl (hpre 34 rfl)) cN)
 exact wN (gN z z z (bN h1148) z)<|nl ⟨z, (.inr ⟨hd1, g517, _, hG1164, hD522, (Regs.step hReg1166 hDi z z z z), hI1165⟩)⟩
 rintro D r wd1167 (⟨hd2, G1163, hG1164, hReg1166, hI1165⟩ | ⟨hd1, g517, G1163, hG1164, hD522, hReg1166, hI1165⟩) hDi hpre hpost
 cases (hpre 15 rfl).symm.trans hd2
 obtain ⟨r0, rfl⟩ := Has.ex (cC (hReg1166.get 34 rfl (hpre 34 rfl)) cN)
 exact wN (gN z z z (bN h1148) z)<|nl ⟨z, (.inr ⟨hd1, g517, _, hG1164, hD522, (Regs.step hReg1166 hDi z z z z), hI1165⟩)⟩
 rintro D r wd1167 (⟨hd2, G1163, hG1164, hReg1166, hI1165⟩ | ⟨hd1, g517, G1163, hG1164, hD522, hReg1166, hI1165⟩) hDi hpre hpost
 cases (hpre 15 rfl).symm.trans hd2
 obtain ⟨r0, rfl⟩ := Has.ex (cC (hReg1166.get 31 rfl (hpre 31 rfl)) (cC (hReg1166.get 34 rfl (hpre 34 rfl)) (cC (hReg1166.get 43 rfl (hpre 43 rfl)) cN)))
 exact pkf (hw:=gY z z z (vN h1140)) (bN h1148) z<|nl ⟨z, (.inr ⟨hd1, g517, _, hG1164, hD522, (Regs.step hReg1166 hDi z z z z), hI1165⟩)⟩
 rintro D r wd1167 (⟨hd2, G1163, hG1164, hReg1166, hI1165⟩ | ⟨hd1, g517, G1163, hG1164, hD522, hReg1166, hI1165⟩) hDi hpre hpost
 cases (hpre 15 rfl).symm.trans hd2
 obtain ⟨r0, rfl⟩ := Has.ex (cC (hReg1166.get 31 rfl (hpre 31 rfl)) (cC (hReg1166.get 44 rfl (hpre 44 rfl)) cN))
 exact pkf (vN h1140) z<|nl ⟨z, (.inr ⟨hd1, g517, _, hG1164, hD522, (Regs.step hReg1166 hDi z z z z), hI1165⟩)⟩
 intro D r wd1167 hall hR
 rcases hR with ⟨hd2, G1163, hG1164, hReg1166, hI1165⟩ | ⟨hd1, g517, G1163, hG1164, hD522, hReg1166, hI1165⟩
 cases (hall 15 (Nat.le_of_ble_eq_true rfl)).symm.trans hd2
 obtain ⟨r0, rfl⟩ := Has.ex (cC (hReg1166.ins.get 0 rfl) (cC (hReg1166.ins.get 3 rfl) (cC (hReg1166.ins.get 4 rfl) (cC (hReg1166.ins.get 5 rfl) (cC (hReg1166.get 5 rfl (hall 5 (Nat.le_of_ble_eq_true rfl))) (cC (hReg1166.get 6 rfl (hall 6 (Nat.le_of_ble_eq_true rfl))) (cC (hReg1166.get 7 rfl (hall 7 (Nat.le_of_ble_eq_true rfl))) (cC (hReg1166.get 8 rfl (hall 8 (Nat.le_of_ble_eq_true rfl))) (cC (hReg1166.get 11 rfl (hall 11 (Nat.le_of_ble_eq_true rfl))) (cC (hReg1166.get 12 rfl (hall 12 (Nat.le_of_ble_eq_true rfl))) (cC (hReg1166.get 13 rfl (hall 13 (Nat.le_of_ble_eq_true rfl))) (cC (hReg1166.get 14 rfl (hall 14 (Nat.le_of_ble_eq_true rfl))) (cC (hReg1166.get 15 rfl (hall 15 (Nat.le_of_ble_eq_true rfl))) (cC (hReg1166.get 16 rfl (hall 16 (Nat.le_of_ble_eq_true rfl))) (cC (hReg1166.get 17 rfl (hall 17 (Nat.le_of_ble_eq_true rfl))) (cC (hReg1166.get 20 rfl (hall 20 (Nat.le_of_ble_eq_true rfl))) (cC (hReg1166.get 21 rfl (hall 21 (Nat.le_of_ble_eq_true rfl))) (cC (hReg1166.get 22 rfl (hall 22 (Nat.le_of_ble_eq_true rfl))) (cC (hReg1166.get 23 rfl (hall 23 (Nat.le_of_ble_eq_true rfl))) (cC (hReg1166.get 26 rfl (hall 26 (Nat.le_of_ble_eq_true rfl))) (cC (hReg1166.get 27 rfl (hall 27 (Nat.le_of_ble_eq_true rfl))) (cC (hReg1166.get 28 rfl (hall 28 (Nat.le_of_ble_eq_true rfl))) (cC (hReg1166.get 29 rfl (hall 29 (Nat.le_of_ble_eq_true rfl))) (cC (hReg1166.get 32 rfl (hall 32 (Nat.le_of_ble_eq_true rfl))) (cC (hReg1166.get 33 rfl (hall 33 (Nat.le_of_ble_eq_true rfl))) (cC (hReg1166.get 34 rfl (hall 34 (Nat.le_of_ble_eq_true rfl))) (cC (hReg1166.get 44 rfl (hall 44 (Nat.le_of_ble_eq_true rfl))) (cC (hReg1166.get 45 rfl (hall 45 (Nat.le_of_ble_eq_true rfl))) cN))))))))))))))))))))))))))))
 refine have hI1169:=Hp.pick 2 [1] hI1165 z;?_
 cases H
 exact je ⟨z, z, z, z, z, tv⟩ (Hp.low hG1164 hI1169)
 refine hK78 _ _ _<|dC (v98 = true) (fun h1170=>?_) fun h1170=>?_
 refine yK h1170 H fun H=>wt (vY h1170)<|sr fun K1171 hK1172=>asn z<|nl<|hK1172 _ _ _<|wr<|have hI1173:=Hp.pick 1 [] hI102 z;?_
 cases H
 exact ⟨z, z, ⟨z, tv⟩, hI1173, tv⟩
 exact nK h1170 H fun H=>wf (vN h1170)<|ws<|hK61 _ _ _<|wpc_region<|q_add z z<|mv z<|nl<|have hI1174:=Hp.pick 1 [] hI102 z;ih _ _ H _ _ ⟨z, z, z, z, tv⟩ hI1174 z
 refine nK h59 H fun H=>wf (bN h59)<|wx<|?_
 cases H
 exact ⟨z, z, trivial, hI54, tv⟩
 rcases o50 with _ | _
 rintro e r ds wd44 ⟨rfl, rfl, hHas, hI45, _⟩
 rw [hHas.eq]; clear hHas
 cases H
 exact rt ⟨_, _, z, z, z⟩ hI45
 rintro e r ds wd48 ⟨rfl, rfl, hHas, hI49, _⟩
 rw [hHas.eq]; clear hHas
 refine hK28 _ _ _<|sr fun K1175 hK1176=>asn z<|nl<|hK1176 _ _ _<|wr<|?_
 cases H
 exact rt ⟨_, _, z, z, z⟩ hI49
theorem pages_sum_spec {a1 A2 c3 r1006 G L w} (H : pages_sum a1 = some r1006) (hI : Hp G L w) (hl4 : a1.length ≤ c3) (hD5 : Dat k_api_Slice G A2 a1) :
    Calls Try.prog 41 [slice A2 a1.length c3].toArray w fun e w' => Hp G L w' ∧ e = .returned (int .i64 r1006) := by
 refine calls_intro (N := 18) Try.func41 z z (Nat.le_of_ble_eq_true z)<|?_
 unfold pages_sum at H
 refine sr fun K6 hK7=>asn z<|nl<|hK7 _ _ _<|sr fun K8 hK9=>asn z<|nl<|hK9 _ _ _<|sQ fun K10 hK11=>sr fun K12 hK13=>mv z<|q_len so24 z<|mv z<|nl<|?_
 refine hK13 _ _ _<|wb<|bK H fun v27 hC H=>wpc_mono (Q := fun e r ds w => e = .exit 0 ∧ ds = [] ∧ Has [(3, int .i64 v27)] r ∧ Hp G (L) w ∧ True) ?_ ?_
 refine wpc_loop fun I hLp=>?_
 refine pages_sum_l26.partial_correctness a1 (fun v18 v19 o => ∀ (r : Rg) (w : World), Has [(3, int .i64 v18), (6, slice A2 a1.length c3), (7, int .i64 (a1.length : Int)), (8, int .i64 v19)] r → Hp G (L) w → o = v27 → I r [] w) ?_ 0 0 _ hC _ _ ⟨rfl, rfl, rfl, rfl, tv⟩ hI rfl
 intro _ ih v18 v19 o H r wd35 hHas hI36 ho
 rw [ho] at H; clear ho
 rw [hHas.eq]; clear hHas
 refine hLp _ _ _<|sr fun K37 hK38=>q_lss z z<|nl<|hK38 _ _ _<|sQ fun K39 hK40=>dC (v19 < (a1.length : Int)) (fun h41=>?_) fun h41=>?_
 refine yK h41 H fun H=>wt (bY h41)<|ws<|hK40 _ _ _<|sQ fun K42 hK43=>wb<|sr fun K44 hK45=>iK H fun⟨h46, h46'⟩H=>?_
 obtain ⟨ad47, cs48, hA49, hK50, hn51, hc52⟩ := Dat.get hD5 z_api_Slice (v19) h46 h46'
 obtain ⟨rfl⟩ := open_api_Slice hK50
 refine q_ia el24 z hA49 z h46 h46'<|q_lfA hI36 ag36 z (cs := [int .i64 ((a1.getD (Int.toNat v19) z_api_Slice).Node), int .i64 ((a1.getD (Int.toNat v19) z_api_Slice).Table), int .i64 ((a1.getD (Int.toNat v19) z_api_Slice).X), int .i64 ((a1.getD (Int.toNat v19) z_api_Slice).Y), int .i64 ((a1.getD (Int.toNat v19) z_api_Slice).H), string ((a1.getD (Int.toNat v19) z_api_Slice).Text), bool ((a1.getD (Int.toNat v19) z_api_Slice).Head), bool ((a1.getD (Int.toNat v19) z_api_Slice).Note)]) z (fun j v hv => gR.cel _ _ (hc52 j v hv))<|q_alloc hI36 ze36 fun g54 wd55 hI56=>stk hI56 0 ag36 z z z z z z z fun wd57 hI58=>nl<|hK45 _ _ _<|wpc_region<|mv z<|fa fl36_4 z<|ld hI58 0 ag3 z z z<|q_add z z<|asn z<|nl<|hK43 _ _ _<|?_
 exact wpc_region<|q_add z z<|mv z<|nl<|have hI59:=Hp.pick 1 [] hI58 z;ih _ _ _ H _ _ ⟨z, z, z, z, tv⟩ hI59 z
 refine nK h41 H fun H=>wf (bN h41)<|wx<|?_
 cases H
 exact ⟨z, z, ⟨z, tv⟩, hI36, tv⟩
 rintro e r ds wd30 ⟨rfl, rfl, hHas, hI31, _⟩
 rw [hHas.eq]; clear hHas
 refine hK11 _ _ _<|sr fun K60 hK61=>mv z<|asn z<|nl<|hK61 _ _ _<|wr<|?_
 cases H
 exact rt ⟨_, _, z, z, z⟩ hI31
theorem pages_bands_spec {a1} {a6 : List Bool} {A2 c3 A7 c8 r1013} {r1020 : List Bool} {G L w} (H : pages_bands a1 a6 = some (r1013, r1020)) (hI : Hp G L w) (hl4 : a1.length ≤ c3) (hD5 : Dat k_api_Slice G A2 a1) (hl9 : a6.length ≤ c8) (hD10 : Dat Kd.bool G A7 a6) :
    Calls Try.prog 24 [slice A2 a1.length c3, slice A7 a6.length c8].toArray w fun e w' => ∃ (g1012 : Nat) (A1014 : Option Addr) (c1015 : Nat) (g1019 : Nat) (A1021 : Option Addr) (c1022 : Nat) (G' : Gh), G ≤ G' ∧ Hp G' (bx g1012 [slice A1014 r1013.length c1015] 24 :: bx g1019 [slice A1021 r1020.length c1022] 25 :: L) w' ∧ r1013.length ≤ c1015 ∧ Dat k_api_Slice G' A1014 r1013 ∧ r1020.length ≤ c1022 ∧ Dat Kd.bool G' A1021 r1020 ∧ e = .returned (func (.func 43) [].toArray [pointer (some ⟨g1012, 0, none⟩), pointer (some ⟨g1019, 0, none⟩)].toArray) := by
 refine calls_intro (N := 6) Try.func24 z z (Nat.le_of_ble_eq_true z)<|?_
 unfold pages_bands at H
 refine sr fun K11 hK12=>bxk hI z z fun g14 wd15 hI16=>bxk hI16 z z fun g18 wd19 hI20=>asn z<|nl<|hK12 _ _ _<|sr fun K21 hK22=>q_fn (vs := []) (us := [pointer (some ⟨g14, 0, none⟩), pointer (some ⟨g18, 0, none⟩)]) z z<|asn z<|nl<|hK22 _ _ _<|wr<|have hI23:=Hp.pick 2 [1, 0] hI20 z;?_
 cases H
 exact ⟨.inr z, z, _, ⟨_, _, z, z, z⟩, g14, A2, c3, g18, A7, c8, _, gR, hI23, hl4, hD5, hl9, hD10, z⟩
theorem pages_band_top_spec {a1 : pages_band} {A2 c3 A6 c7 r1010 G L w} (H : pages_band_top a1 = some r1010) (hI : Hp G L w) (hl4 : a1.slices.length ≤ c3) (hD5 : Dat k_api_Slice G A2 a1.slices) (hl8 : a1.notes.length ≤ c7) (hD9 : Dat k_api_Slice G A6 a1.notes) :
    Calls Try.prog 26 [agg [slice A2 a1.slices.length c3, slice A6 a1.notes.length c7, int .i64 a1.end_].toArray].toArray w fun e w' => Hp G L w' ∧ e = .returned (int .i64 r1010) := by
 refine calls_intro (N := 8) Try.func26 z z (Nat.le_of_ble_eq_true z)<|?_
 unfold pages_band_top at H
 refine sr fun K10 hK11=>bxk hI z z fun g13 wd14 hI15=>asn z<|nl<|hK11 _ _ _<|sr fun K16 hK17=>fa fl64_0 z<|ld hI15 0 ag24 z z z<|iK H fun⟨h18, h18'⟩H=>?_
 obtain ⟨ad19, cs20, hA21, hK22, hn23, hc24⟩ := Dat.get hD5 z_api_Slice (0) h18 h18'
 obtain ⟨rfl⟩ := open_api_Slice hK22
 refine q_ia el24 z hA21 z h18 h18'<|q_fa fl36_3 z z<|q_lf hI15 ag3 z (gR.cel _ _ (hc24 3 _ z))<|asn z<|nl<|hK17 _ _ _<|wr<|have hI25:=Hp.pick 1 [] hI15 z;?_
 cases H
 exact rt ⟨_, _, z, z, z⟩ hI25
theorem pages_band_height_spec {a1 : pages_band} {A2 c3 A6 c7 r1010 G L w} (H : pages_band_height a1 = some r1010) (hI : Hp G L w) (hl4 : a1.slices.length ≤ c3) (hD5 : Dat k_api_Slice G A2 a1.slices) (hl8 : a1.notes.length ≤ c7) (hD9 : Dat k_api_Slice G A6 a1.notes) :
    Calls Try.prog 44 [agg [slice A2 a1.slices.length c3, slice A6 a1.notes.length c7, int .i64 a1.end_].toArray].toArray w fun e w' => Hp G L w' ∧ e = .returned (int .i64 r1010) := by
 refine calls_intro (N := 8) Try.func44 z z (Nat.le_of_ble_eq_true z)<|?_
 unfold pages_band_height at H
 refine sr fun K10 hK11=>bxk hI z z fun g13 wd14 hI15=>asn z<|nl<|hK11 _ _ _<|sQ fun K16 hK17=>?_
 refine wpc_class hI15 mixo (by kernel_rfl) ?_
 refine wq' (fun Gq w hGq Iq=>fa fl64_2 z wqd) z z<|wq' (fun Gq w hGq Iq=>ld Iq 0 ag3 z z z wqd) z z<|wq' (fun Gq w hGq Iq=>lda Iq 0 ag64 z z z z wqd) z z<|bK H fun y24 hy23 H=>wk (vs := [agg [slice A2 a1.slices.length c3, slice A6 a1.notes.length c7, int .i64 a1.end_].toArray]) (v := int .i64 y24) bo26 z z (fun Gq w hGq Iq => ?_) ?_
 refine Calls.mono (pages_band_top_spec hy23 Iq hl4 (Dat.mono hGq hD5) hl8 (Dat.mono hGq hD9))<|?_
 rintro _ w2 ⟨I2, rfl⟩
 exact ⟨z, _, hGq, I2⟩
 refine wq' (fun Gq w hGq Iq=>q_sub z z wqd) z z<|wq' (fun Gq w hGq Iq=>asn z wqd) z z<|wz fun wd21 G19 hG20 hI22=>hK17 _ _ _<|wr<|have hI25:=Hp.pick 1 [] hI22 z;?_
 cases H
 exact rt ⟨_, _, z, z, z⟩ (Hp.low hG20 hI25)
end Go.Proofs.Ytlcfemplcaejgaa.LG
