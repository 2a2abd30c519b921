/-
  The walks: each function computes its plain function: printed by a program out of the translation.
-/
import Derived.Test.YtlcfemplcaejgaaSf
set_option linter.unusedVariables false
set_option linter.unusedSimpArgs false
set_option maxRecDepth 100000
namespace Go.Proofs.Ytlcfemplcaejgaa.LG
open Go Go.LG Go.RowKit Go.Value
set_option maxHeartbeats 20000000
theorem i0 {a1} {a6 : List Bool} {A2 c3 A7 c8} {dg : List ao} {cd G L w} (H : dV a1 a6 = some (dg, cd)) (hI : Hp G L w) (gX : a1.length ≤ c3) (eL : Dat ah G A2 a1) (gZ : a6.length ≤ c8) (dK : Dat Kd.bool G A7 a6) :
    Calls Try.prog 10 [slice A2 a1.length c3, slice A7 a6.length c8].toArray w fun e w' => ∃ (cU : Option Addr) (dh : Nat) (cV : Nat) (cW : Option Addr) (cX : Nat) (G' : Gh), G ≤ G' ∧ Hp G' (bO G' aR cU [] dg [] cV 42 :: tk (slice cW cd.length cX) 8 36 :: L) w' ∧ dg.length = dh ∧ Mw cU cU ([] : List ao).length dh cV cV 4 ∧ cd.length ≤ cX ∧ Dat ah G' cW cd ∧ Own cW cX ∧ e = .returned (tuple [slice cU dh cV, slice cW cd.length cX].toArray) := by
 refine aw (N := 125) Try.func10 z z (Nat.le_of_ble_eq_true z)<|?_
 unfold dV at H
 refine sr fun g0 eM=>aK z<|aK z<|nl<|eM _ _ _<|sr fun g1 eN=>have eO:=Hp.emp hI;?_
 have eP : Hp G (bO G aq none [] (List.zip ([] : List ao) ([] : List bF)) [] 0 42 :: (List.flatMap ay (List.zip ([] : List ao) ([] : List bF)) ++ L)) _ := eO
 refine aK z<|nl<|eN _ _ _<|sr fun g2 eQ=>aK z<|nl<|eQ _ _ _<|sQ fun g3 eR=>sr fun g4 eT=>aK z<|nl<|eT _ _ _<|wb<|ms H fun ce b0 hC H=>?_
 refine aP (Q := fun e r ds w => e = .exit 0 ∧ ∃ (bC : Option Addr) (bD : Nat) (bE : Option Addr) (b1 : Nat) (bG : Nat) (cg : List bF) (c0 : Gh) (ch : Gh), ds = [] ∧ G ≤ ch ∧ Has [(6, slice bE b1 bG), (7, slice bC b0.length bD)] r ∧ Hp ch (bO c0 aq bE [] (List.zip ce cg) [] bG 42 :: tk (slice bC b0.length bD) 8 36 :: (List.flatMap ay (List.zip ce cg) ++ L)) w ∧ b0.length ≤ bD ∧ Dat ah ch bC b0 ∧ Own bC bD ∧ ce.length = b1 ∧ Mw bE bE ([] : List ao).length b1 bG bG 4 ∧ cg.length = b1 ∧ c0 ≤ ch ∧ True) ?_ ?_
 refine have eU:=Hp.emp eP;have eV:=Hp.pick 2 [1, 0] eU z;bH fun I eK=>?_
 refine aE.partial_correctness a1 a6 (fun b ax a o => ∀ (U : Option Addr) (V : Nat) (ai : Option Addr) (aB : Nat) (ak : Nat) (q : List bF) (bo : Gh) (a4 : Gh) (r : Rg) (w : World), G ≤ a4 → Has [(0, slice A2 a1.length c3), (1, slice A7 a6.length c8), (6, slice ai aB ak), (7, slice U ax.length V), (8, int .i64 a)] r → Hp a4 (bO bo aq ai [] (List.zip b q) [] ak 42 :: tk (slice U ax.length V) 8 36 :: (List.flatMap ay (List.zip b q) ++ L)) w → ax.length ≤ V → Dat ah a4 U ax → Own U V → b.length = aB → Mw ai ai ([] : List ao).length aB ak ak 4 → q.length = aB → bo ≤ a4 → o = (ce, b0) → I r [] w) ?_ ([] : List ao) ([] : List ac) 0 _ hC none 0 none 0 0 ([] : List bF) G _ _ _ gR ⟨rfl, rfl, rfl, rfl, rfl, tv⟩ eV (show ([] : List ac).length ≤ 0 from Nat.le_refl 0) (Dat.nil _ _ _) Own.nil rfl ⟨.inl rfl, Nat.le_refl _⟩ rfl gR rfl
 intro _ ih b ax a o H U V ai aB ak q bo a4 r g5 ci bu di cj ck cl aV a2 had36 bt ho
 rw [ho] at H; clear ho
 rw [bu.eq]; clear bu
 refine eK _ _ _<|sQ fun g6 eW=>sr fun g7 eX=>mv z<|mv z<|q_len dA z<|cZ z z<|nl<|eX _ _ _<|dC (a < (a1.length : Int)) (fun cn=>?_) fun cn=>?_
 refine yK cn H fun H=>wt (bY cn)<|ws<|eW _ _ _<|sQ fun g8 eY=>ms H fun dj c1 hC H=>?_
 refine aP (Q := fun e r ds w => e = .normal ∧ ∃ (b2 : Option Addr) (b3 : Nat) (b4 : Option Addr) (b5 : Nat) (b7 : Nat) (co : List bF) (dk : Gh) (b8 : Gh), ds = [] ∧ a4 ≤ b8 ∧ Has [(0, slice A2 a1.length c3), (1, slice A7 a6.length c8), (6, slice b4 b5 b7), (7, slice b2 c1.length b3), (8, int .i64 a)] r ∧ Hp b8 (bO dk aq b4 [] (List.zip dj co) [] b7 42 :: tk (slice b2 c1.length b3) 8 36 :: (List.flatMap ay (List.zip dj co) ++ L)) w ∧ c1.length ≤ b3 ∧ Dat ah b8 b2 c1 ∧ Own b2 b3 ∧ dj.length = b5 ∧ Mw b4 b4 ([] : List ao).length b5 b7 b7 4 ∧ co.length = b5 ∧ dk ≤ b8 ∧ True) ?_ ?_
 refine have H:=hC;wb<|sr fun g9 eZ=>mv z<|mv z<|iK H fun⟨dL, dM⟩H=>?_
 obtain ⟨ha, hb, e0, e1, hc, e2⟩ := Dat.get (Dat.mono ci eL) aa (a) dL dM
 obtain ⟨rfl⟩ := aF e1
 refine bL cA z e0 z dL dM<|fq di dx z (cs := [int .i64 ((a1.getD (Int.toNat a) aa).Node), int .i64 ((a1.getD (Int.toNat a) aa).Table), int .i64 ((a1.getD (Int.toNat a) aa).X), int .i64 ((a1.getD (Int.toNat a) aa).Y), int .i64 ((a1.getD (Int.toNat a) aa).H), string ((a1.getD (Int.toNat a) aa).Text), bool ((a1.getD (Int.toNat a) aa).Head), bool ((a1.getD (Int.toNat a) aa).Note)]) z (fun j v hv => gR.cel _ _ (e2 j v hv))<|bQ di cP fun az hd e3=>f5 e3 0 dx z z z z z z z fun he dl=>nl<|eZ _ _ _<|sr fun hf e4=>mv z<|gC o9 z aV<|aK z<|nl<|e4 _ _ _<|sQ fun hg e5=>sr fun hh e6=>?_
 refine fa nd z<|ld dl 0 jK z z z<|mv z<|bK H fun dN hC H=>?_
 refine jS 3 a4 [(0, slice A2 a1.length c3), (1, slice A7 a6.length c8), (6, slice ai aB ak), (7, slice U ax.length V), (8, int .i64 a), (9, pointer (some ⟨az, 0, none⟩)), (10, int .i64 (b.length : Int)), (28, bool dN)] (bx az [int .i64 ((a1.getD (Int.toNat a) aa).Node), int .i64 ((a1.getD (Int.toNat a) aa).Table), int .i64 ((a1.getD (Int.toNat a) aa).X), int .i64 ((a1.getD (Int.toNat a) aa).Y), int .i64 ((a1.getD (Int.toNat a) aa).H), string ((a1.getD (Int.toNat a) aa).Text), bool ((a1.getD (Int.toNat a) aa).Head), bool ((a1.getD (Int.toNat a) aa).Note)] 36 :: tk (slice U ax.length V) 8 36 :: bO bo aq ai [] (List.zip b q) [] ak 42 :: (List.flatMap ay (List.zip b q) ++ L)) ?_ fun _ hi bI=>?_
 refine have H:=hC;dC (((a1.getD (Int.toNat a) aa).Note) = true) (fun bv=>?_) fun bv=>?_
 refine yK bv H fun H=>mv (hw:=gY z z z (vY bv)) z<|ei (hw:=gY z z z (vY bv)) z z<|cY (vY bv) z<|nl<|have e7:=Hp.pick 3 [0, 2, 1] dl z;?_
 cases H
 exact je ⟨z, z, z, z, z, z, z, z, tv⟩ e7
 refine nK bv H fun H=>Sk 2 z z (vN bv) z<|dm (vN bv) z<|nl<|have e8:=Hp.pick 3 [0, 2, 1] dl z;?_
 cases H
 exact je ⟨z, z, z, z, z, z, z, z, tv⟩ e8
 refine nl<|e6 _ _ _<|dC (dN = true) (fun cp=>?_) fun cp=>?_
 refine yK cp H fun H=>wt (vY cp)<|sr fun hj e9=>mv z<|gg bI 0 dx z z z z<|?_
 refine eh bI (vs := [(0, agg [int .i64 ((a1.getD (Int.toNat a) aa).Node), int .i64 ((a1.getD (Int.toNat a) aa).Table), int .i64 ((a1.getD (Int.toNat a) aa).X), int .i64 ((a1.getD (Int.toNat a) aa).Y), int .i64 ((a1.getD (Int.toNat a) aa).H), string ((a1.getD (Int.toNat a) aa).Text), bool ((a1.getD (Int.toNat a) aa).Head), bool ((a1.getD (Int.toNat a) aa).Note)].toArray)]) (cs := [int .i64 ((a1.getD (Int.toNat a) aa).Node), int .i64 ((a1.getD (Int.toNat a) aa).Table), int .i64 ((a1.getD (Int.toNat a) aa).X), int .i64 ((a1.getD (Int.toNat a) aa).Y), int .i64 ((a1.getD (Int.toNat a) aa).H), string ((a1.getD (Int.toNat a) aa).Text), bool ((a1.getD (Int.toNat a) aa).Head), bool ((a1.getD (Int.toNat a) aa).Note)]) cA cP rfl (by decide) rfl (by kernel_rfl) (fun hk hl dO => ?_)
 refine iK H fun hm H=>?_
 refine fx (xs := ax) (ys := [(a1.getD (Int.toNat a) aa)]) ah dO 2 cA cP rfl rfl rfl rfl cl cj ck (dU dO 0 dA rfl rfl) ⟨[int .i64 ((a1.getD (Int.toNat a) aa).Node), int .i64 ((a1.getD (Int.toNat a) aa).Table), int .i64 ((a1.getD (Int.toNat a) aa).X), int .i64 ((a1.getD (Int.toNat a) aa).Y), int .i64 ((a1.getD (Int.toNat a) aa).H), string ((a1.getD (Int.toNat a) aa).Text), bool ((a1.getD (Int.toNat a) aa).Head), bool ((a1.getD (Int.toNat a) aa).Note)], _, rfl, (aH (x := (a1.getD (Int.toNat a) aa))), rfl⟩ rfl (by simp only [List.length_cons, List.length_nil]; omega) (by simp only [List.length_cons, List.length_nil]; omega) (fun fb fc fd hn dP fe ff fg fh => ?_)
 refine aK z<|nl<|e9 _ _ _<|wx<|have fi:=Hp.rwUp fh 3 z (gT bt dP);have fj:=Hp.pick 4 [3, 2] fi z;?_
 cases H
 exact ⟨z, fb, fc, ai, aB, ak, q, fd, _, z, dP, ⟨z, z, z, z, z, tv⟩, fj, ff, fg, fe, aV, a2, had36, gR, tv⟩
 refine nK cp H fun H=>wf (vN cp)<|ws<|e5 _ _ _<|sQ fun hp fk=>sr fun hq fl=>fa nd z<|ld bI 0 jK z z z<|nl<|fl _ _ _<|dC (((a1.getD (Int.toNat a) aa).Note) = true) (fun cq=>?_) fun cq=>?_
 refine yK cq H fun H=>wt (vY cq)<|sQ fun hr fm=>iK H fun⟨bJ, fn⟩H=>have bM:=iy aV fn;?_
 obtain ⟨bw, cr⟩ := Mw.ad a2 bJ bM
 obtain ⟨_, ⟨_, _, _, _, fo, fp, fr⟩, _, _⟩ := Hp.opGet bI 2 rfl a2 aV had36 cr ab ae bJ bM
 refine iK H fun hs H=>iK H fun⟨ct, fs⟩H=>have cu:=iy aV fs;?_
 obtain ⟨b9, dQ⟩ := Mw.ad a2 ct cu
 refine aM [0, 0, 2, 0, 0, 16, 56, 120, 248, 0, 512, 2040, 4095, 8191, 16383] (fun D r w => (D 10 = false ∧ ∃ (G' : Gh), a4 ≤ G' ∧ ag [(0, slice A2 a1.length c3), (1, slice A7 a6.length c8), (6, slice ai aB ak), (7, slice U ax.length V), (8, int .i64 a), (9, pointer (some ⟨az, 0, none⟩)), (10, int .i64 (b.length : Int))] [] [(0, 35, slice ai aB ak), (1, 36, int .i64 (b.length : Int)), (2, 37, int .i64 (aj ((b.length : Int) - 1))), (3, 38, slice ai aB ak), (4, 39, int .i64 (b.length : Int)), (5, 40, int .i64 (aj ((b.length : Int) - 1))), (6, 41, pointer (some (bw.add (Int.toNat (aj ((b.length : Int) - 1)) * 4)))), (7, 42, pointer (some ((bw.add (Int.toNat (aj ((b.length : Int) - 1)) * 4)).add 1))), (8, 43, slice ((q.getD (Int.toNat (aj ((b.length : Int) - 1))) ae).2.2.1) ((b.getD (Int.toNat (aj ((b.length : Int) - 1))) ab).Notes).length ((q.getD (Int.toNat (aj ((b.length : Int) - 1))) ae).2.2.2)), (9, 44, agg [int .i64 ((a1.getD (Int.toNat a) aa).Node), int .i64 ((a1.getD (Int.toNat a) aa).Table), int .i64 ((a1.getD (Int.toNat a) aa).X), int .i64 ((a1.getD (Int.toNat a) aa).Y), int .i64 ((a1.getD (Int.toNat a) aa).H), string ((a1.getD (Int.toNat a) aa).Text), bool ((a1.getD (Int.toNat a) aa).Head), bool ((a1.getD (Int.toNat a) aa).Note)].toArray)] D r ∧ Hp G' (bx az [int .i64 ((a1.getD (Int.toNat a) aa).Node), int .i64 ((a1.getD (Int.toNat a) aa).Table), int .i64 ((a1.getD (Int.toNat a) aa).X), int .i64 ((a1.getD (Int.toNat a) aa).Y), int .i64 ((a1.getD (Int.toNat a) aa).H), string ((a1.getD (Int.toNat a) aa).Text), bool ((a1.getD (Int.toNat a) aa).Head), bool ((a1.getD (Int.toNat a) aa).Note)] 36 :: tk (slice U ax.length V) 8 36 :: bO bo aq ai [] (List.zip b q) [] ak 42 :: (List.flatMap ay (List.zip b q) ++ L)) w) ∨ (D 10 = true ∧ D 11 = false ∧ ∃ (P : Nat) (G' : Gh), a4 ≤ G' ∧ ag [(0, slice A2 a1.length c3), (1, slice A7 a6.length c8), (6, slice ai aB ak), (7, slice U ax.length V), (8, int .i64 a), (9, pointer (some ⟨az, 0, none⟩)), (10, int .i64 (b.length : Int))] [] [(0, 35, slice ai aB ak), (1, 36, int .i64 (b.length : Int)), (2, 37, int .i64 (aj ((b.length : Int) - 1))), (3, 38, slice ai aB ak), (4, 39, int .i64 (b.length : Int)), (5, 40, int .i64 (aj ((b.length : Int) - 1))), (6, 41, pointer (some (bw.add (Int.toNat (aj ((b.length : Int) - 1)) * 4)))), (7, 42, pointer (some ((bw.add (Int.toNat (aj ((b.length : Int) - 1)) * 4)).add 1))), (8, 43, slice ((q.getD (Int.toNat (aj ((b.length : Int) - 1))) ae).2.2.1) ((b.getD (Int.toNat (aj ((b.length : Int) - 1))) ab).Notes).length ((q.getD (Int.toNat (aj ((b.length : Int) - 1))) ae).2.2.2)), (9, 44, agg [int .i64 ((a1.getD (Int.toNat a) aa).Node), int .i64 ((a1.getD (Int.toNat a) aa).Table), int .i64 ((a1.getD (Int.toNat a) aa).X), int .i64 ((a1.getD (Int.toNat a) aa).Y), int .i64 ((a1.getD (Int.toNat a) aa).H), string ((a1.getD (Int.toNat a) aa).Text), bool ((a1.getD (Int.toNat a) aa).Head), bool ((a1.getD (Int.toNat a) aa).Note)].toArray), (10, 45, slice (some ⟨P, 0, none⟩) 1 1)] D r ∧ Hp G' (bx P [int .i64 ((a1.getD (Int.toNat a) aa).Node), int .i64 ((a1.getD (Int.toNat a) aa).Table), int .i64 ((a1.getD (Int.toNat a) aa).X), int .i64 ((a1.getD (Int.toNat a) aa).Y), int .i64 ((a1.getD (Int.toNat a) aa).H), string ((a1.getD (Int.toNat a) aa).Text), bool ((a1.getD (Int.toNat a) aa).Head), bool ((a1.getD (Int.toNat a) aa).Note)] 36 :: bx az [int .i64 ((a1.getD (Int.toNat a) aa).Node), int .i64 ((a1.getD (Int.toNat a) aa).Table), int .i64 ((a1.getD (Int.toNat a) aa).X), int .i64 ((a1.getD (Int.toNat a) aa).Y), int .i64 ((a1.getD (Int.toNat a) aa).H), string ((a1.getD (Int.toNat a) aa).Text), bool ((a1.getD (Int.toNat a) aa).Head), bool ((a1.getD (Int.toNat a) aa).Note)] 36 :: tk (slice U ax.length V) 8 36 :: bO bo aq ai [] (List.zip b q) [] ak 42 :: (List.flatMap ay (List.zip b q) ++ L)) w) ∨ (D 11 = true ∧ D 14 = false ∧ ∃ (P : Nat) (am : Option Addr) (an : Nat) (G' : Gh), a4 ≤ G' ∧ (((b.getD (Int.toNat (aj ((b.length : Int) - 1))) ab).Notes) ++ [(a1.getD (Int.toNat a) aa)]).length ≤ an ∧ Dat ah G' am (((b.getD (Int.toNat (aj ((b.length : Int) - 1))) ab).Notes) ++ [(a1.getD (Int.toNat a) aa)]) ∧ Own am an ∧ ag [(0, slice A2 a1.length c3), (1, slice A7 a6.length c8), (6, slice ai aB ak), (7, slice U ax.length V), (8, int .i64 a), (9, pointer (some ⟨az, 0, none⟩)), (10, int .i64 (b.length : Int))] [] [(0, 35, slice ai aB ak), (1, 36, int .i64 (b.length : Int)), (2, 37, int .i64 (aj ((b.length : Int) - 1))), (3, 38, slice ai aB ak), (4, 39, int .i64 (b.length : Int)), (5, 40, int .i64 (aj ((b.length : Int) - 1))), (6, 41, pointer (some (bw.add (Int.toNat (aj ((b.length : Int) - 1)) * 4)))), (7, 42, pointer (some ((bw.add (Int.toNat (aj ((b.length : Int) - 1)) * 4)).add 1))), (8, 43, slice ((q.getD (Int.toNat (aj ((b.length : Int) - 1))) ae).2.2.1) ((b.getD (Int.toNat (aj ((b.length : Int) - 1))) ab).Notes).length ((q.getD (Int.toNat (aj ((b.length : Int) - 1))) ae).2.2.2)), (9, 44, agg [int .i64 ((a1.getD (Int.toNat a) aa).Node), int .i64 ((a1.getD (Int.toNat a) aa).Table), int .i64 ((a1.getD (Int.toNat a) aa).X), int .i64 ((a1.getD (Int.toNat a) aa).Y), int .i64 ((a1.getD (Int.toNat a) aa).H), string ((a1.getD (Int.toNat a) aa).Text), bool ((a1.getD (Int.toNat a) aa).Head), bool ((a1.getD (Int.toNat a) aa).Note)].toArray), (10, 45, slice (some ⟨P, 0, none⟩) 1 1), (11, 46, slice am (((b.getD (Int.toNat (aj ((b.length : Int) - 1))) ab).Notes) ++ [(a1.getD (Int.toNat a) aa)]).length an), (12, 47, pointer (some (b9.add (Int.toNat (aj ((b.length : Int) - 1)) * 4)))), (13, 48, pointer (some ((b9.add (Int.toNat (aj ((b.length : Int) - 1)) * 4)).add 1)))] D r ∧ Hp G' (tk (slice am (((b.getD (Int.toNat (aj ((b.length : Int) - 1))) ab).Notes) ++ [(a1.getD (Int.toNat a) aa)]).length an) 8 36 :: bx P [int .i64 ((a1.getD (Int.toNat a) aa).Node), int .i64 ((a1.getD (Int.toNat a) aa).Table), int .i64 ((a1.getD (Int.toNat a) aa).X), int .i64 ((a1.getD (Int.toNat a) aa).Y), int .i64 ((a1.getD (Int.toNat a) aa).H), string ((a1.getD (Int.toNat a) aa).Text), bool ((a1.getD (Int.toNat a) aa).Head), bool ((a1.getD (Int.toNat a) aa).Note)] 36 :: bx az [int .i64 ((a1.getD (Int.toNat a) aa).Node), int .i64 ((a1.getD (Int.toNat a) aa).Table), int .i64 ((a1.getD (Int.toNat a) aa).X), int .i64 ((a1.getD (Int.toNat a) aa).Y), int .i64 ((a1.getD (Int.toNat a) aa).H), string ((a1.getD (Int.toNat a) aa).Text), bool ((a1.getD (Int.toNat a) aa).Head), bool ((a1.getD (Int.toNat a) aa).Note)] 36 :: tk (slice U ax.length V) 8 36 :: bO bo aq ai [] (List.zip b q) [] ak 42 :: (k9 ay (List.zip b q) (Int.toNat (aj ((b.length : Int) - 1))) [tk (slice ((q.getD (Int.toNat (aj ((b.length : Int) - 1))) ae).1) ((b.getD (Int.toNat (aj ((b.length : Int) - 1))) ab).Slices).length ((q.getD (Int.toNat (aj ((b.length : Int) - 1))) ae).2.1)) 8 36] [] ++ L)) w) ∨ (D 14 = true ∧ ∃ (P : Nat) (am : Option Addr) (an : Nat) (G' : Gh), a4 ≤ G' ∧ (((b.getD (Int.toNat (aj ((b.length : Int) - 1))) ab).Notes) ++ [(a1.getD (Int.toNat a) aa)]).length ≤ an ∧ Dat ah G' am (((b.getD (Int.toNat (aj ((b.length : Int) - 1))) ab).Notes) ++ [(a1.getD (Int.toNat a) aa)]) ∧ Own am an ∧ ag [(0, slice A2 a1.length c3), (1, slice A7 a6.length c8), (6, slice ai aB ak), (7, slice U ax.length V), (8, int .i64 a), (9, pointer (some ⟨az, 0, none⟩)), (10, int .i64 (b.length : Int))] [] [(0, 35, slice ai aB ak), (1, 36, int .i64 (b.length : Int)), (2, 37, int .i64 (aj ((b.length : Int) - 1))), (3, 38, slice ai aB ak), (4, 39, int .i64 (b.length : Int)), (5, 40, int .i64 (aj ((b.length : Int) - 1))), (6, 41, pointer (some (bw.add (Int.toNat (aj ((b.length : Int) - 1)) * 4)))), (7, 42, pointer (some ((bw.add (Int.toNat (aj ((b.length : Int) - 1)) * 4)).add 1))), (8, 43, slice ((q.getD (Int.toNat (aj ((b.length : Int) - 1))) ae).2.2.1) ((b.getD (Int.toNat (aj ((b.length : Int) - 1))) ab).Notes).length ((q.getD (Int.toNat (aj ((b.length : Int) - 1))) ae).2.2.2)), (9, 44, agg [int .i64 ((a1.getD (Int.toNat a) aa).Node), int .i64 ((a1.getD (Int.toNat a) aa).Table), int .i64 ((a1.getD (Int.toNat a) aa).X), int .i64 ((a1.getD (Int.toNat a) aa).Y), int .i64 ((a1.getD (Int.toNat a) aa).H), string ((a1.getD (Int.toNat a) aa).Text), bool ((a1.getD (Int.toNat a) aa).Head), bool ((a1.getD (Int.toNat a) aa).Note)].toArray), (10, 45, slice (some ⟨P, 0, none⟩) 1 1), (11, 46, slice am (((b.getD (Int.toNat (aj ((b.length : Int) - 1))) ab).Notes) ++ [(a1.getD (Int.toNat a) aa)]).length an), (12, 47, pointer (some (b9.add (Int.toNat (aj ((b.length : Int) - 1)) * 4)))), (13, 48, pointer (some ((b9.add (Int.toNat (aj ((b.length : Int) - 1)) * 4)).add 1)))] D r ∧ Hp G' (bx P [int .i64 ((a1.getD (Int.toNat a) aa).Node), int .i64 ((a1.getD (Int.toNat a) aa).Table), int .i64 ((a1.getD (Int.toNat a) aa).X), int .i64 ((a1.getD (Int.toNat a) aa).Y), int .i64 ((a1.getD (Int.toNat a) aa).H), string ((a1.getD (Int.toNat a) aa).Text), bool ((a1.getD (Int.toNat a) aa).Head), bool ((a1.getD (Int.toNat a) aa).Note)] 36 :: bx az [int .i64 ((a1.getD (Int.toNat a) aa).Node), int .i64 ((a1.getD (Int.toNat a) aa).Table), int .i64 ((a1.getD (Int.toNat a) aa).X), int .i64 ((a1.getD (Int.toNat a) aa).Y), int .i64 ((a1.getD (Int.toNat a) aa).H), string ((a1.getD (Int.toNat a) aa).Text), bool ((a1.getD (Int.toNat a) aa).Head), bool ((a1.getD (Int.toNat a) aa).Note)] 36 :: tk (slice U ax.length V) 8 36 :: bO G' aq ai [] (List.zip (List.set b (Int.toNat (aj ((b.length : Int) - 1))) (⟨(b.getD (Int.toNat (aj ((b.length : Int) - 1))) ab).Slices, ((b.getD (Int.toNat (aj ((b.length : Int) - 1))) ab).Notes) ++ [(a1.getD (Int.toNat a) aa)], (b.getD (Int.toNat (aj ((b.length : Int) - 1))) ab).End, (b.getD (Int.toNat (aj ((b.length : Int) - 1))) ab).Kept⟩ : ao)) (List.set q (Int.toNat (aj ((b.length : Int) - 1))) ((q.getD (Int.toNat (aj ((b.length : Int) - 1))) ae).1, (q.getD (Int.toNat (aj ((b.length : Int) - 1))) ae).2.1, am, an))) [] ak 42 :: (List.flatMap ay (List.zip (List.set b (Int.toNat (aj ((b.length : Int) - 1))) (⟨(b.getD (Int.toNat (aj ((b.length : Int) - 1))) ab).Slices, ((b.getD (Int.toNat (aj ((b.length : Int) - 1))) ab).Notes) ++ [(a1.getD (Int.toNat a) aa)], (b.getD (Int.toNat (aj ((b.length : Int) - 1))) ab).End, (b.getD (Int.toNat (aj ((b.length : Int) - 1))) ab).Kept⟩ : ao)) (List.set q (Int.toNat (aj ((b.length : Int) - 1))) ((q.getD (Int.toNat (aj ((b.length : Int) - 1))) ae).1, (q.getD (Int.toNat (aj ((b.length : Int) - 1))) ae).2.1, am, an))) ++ L)) w)) dJ z z ?_ ?_ ?_
 exact (.inl ⟨z, _, Gh.le_refl _, ag.start ⟨z, z, z, z, z, z, z, tv⟩ trivial, bI.drew⟩)
 refine ⟨?_, ?_, ?_, ?_, ?_, ?_, ?_, ?_, ?_, ?_, ?_, ?_, ?_, ?_, ?_, tv⟩
 rintro D r bg (⟨d, T, t, n, y⟩ | ⟨c, d, P, T, t, n, y⟩ | ⟨c, d, P, am, an, T, t, aD, aG, aI, n, y⟩ | ⟨c, P, am, an, T, t, aD, aG, aI, n, y⟩) g i k
 obtain ⟨p, rfl⟩ := Has.ex (cC (n.ins.get 2 rfl) cN)
 exact mv z<|nl ⟨z, (.inl ⟨d, _, t, (ag.step n g z z z z), y⟩)⟩
 obtain ⟨p, rfl⟩ := Has.ex (cC (n.ins.get 2 rfl) cN)
 exact mv z<|nl ⟨z, (.inr (.inl ⟨c, d, P, _, t, (ag.step n g z z z z), y⟩))⟩
 obtain ⟨p, rfl⟩ := Has.ex (cC (n.ins.get 2 rfl) cN)
 exact mv z<|nl ⟨z, (.inr (.inr (.inl ⟨c, d, P, am, an, _, t, aD, aG, aI, (ag.step n g z z z z), y⟩)))⟩
 cases (k 14 rfl).symm.trans c
 rintro D r bg (⟨d, T, t, n, y⟩ | ⟨c, d, P, T, t, n, y⟩ | ⟨c, d, P, am, an, T, t, aD, aG, aI, n, y⟩ | ⟨c, P, am, an, T, t, aD, aG, aI, n, y⟩) g i k
 obtain ⟨p, rfl⟩ := Has.ex (cC (n.ins.get 6 rfl) cN)
 exact mv z<|nl ⟨z, (.inl ⟨d, _, t, (ag.step n g z z z z), y⟩)⟩
 obtain ⟨p, rfl⟩ := Has.ex (cC (n.ins.get 6 rfl) cN)
 exact mv z<|nl ⟨z, (.inr (.inl ⟨c, d, P, _, t, (ag.step n g z z z z), y⟩))⟩
 obtain ⟨p, rfl⟩ := Has.ex (cC (n.ins.get 6 rfl) cN)
 exact mv z<|nl ⟨z, (.inr (.inr (.inl ⟨c, d, P, am, an, _, t, aD, aG, aI, (ag.step n g z z z z), y⟩)))⟩
 cases (k 14 rfl).symm.trans c
 rintro D r bg (⟨d, T, t, n, y⟩ | ⟨c, d, P, T, t, n, y⟩ | ⟨c, d, P, am, an, T, t, aD, aG, aI, n, y⟩ | ⟨c, P, am, an, T, t, aD, aG, aI, n, y⟩) g i k
 obtain ⟨p, rfl⟩ := Has.ex (cC (n.get 1 rfl (i 1 rfl)) cN)
 exact b6 z z<|nl ⟨z, (.inl ⟨d, _, t, (ag.step n g z z z z), y⟩)⟩
 obtain ⟨p, rfl⟩ := Has.ex (cC (n.get 1 rfl (i 1 rfl)) cN)
 exact b6 z z<|nl ⟨z, (.inr (.inl ⟨c, d, P, _, t, (ag.step n g z z z z), y⟩))⟩
 obtain ⟨p, rfl⟩ := Has.ex (cC (n.get 1 rfl (i 1 rfl)) cN)
 exact b6 z z<|nl ⟨z, (.inr (.inr (.inl ⟨c, d, P, am, an, _, t, aD, aG, aI, (ag.step n g z z z z), y⟩)))⟩
 cases (k 14 rfl).symm.trans c
 rintro D r bg (⟨d, T, t, n, y⟩ | ⟨c, d, P, T, t, n, y⟩ | ⟨c, d, P, am, an, T, t, aD, aG, aI, n, y⟩ | ⟨c, P, am, an, T, t, aD, aG, aI, n, y⟩) g i k
 obtain ⟨p, rfl⟩ := Has.ex (cC (n.ins.get 2 rfl) cN)
 exact mv z<|nl ⟨z, (.inl ⟨d, _, t, (ag.step n g z z z z), y⟩)⟩
 obtain ⟨p, rfl⟩ := Has.ex (cC (n.ins.get 2 rfl) cN)
 exact mv z<|nl ⟨z, (.inr (.inl ⟨c, d, P, _, t, (ag.step n g z z z z), y⟩))⟩
 cases (k 11 rfl).symm.trans c
 cases (k 14 rfl).symm.trans c
 rintro D r bg (⟨d, T, t, n, y⟩ | ⟨c, d, P, T, t, n, y⟩ | ⟨c, d, P, am, an, T, t, aD, aG, aI, n, y⟩ | ⟨c, P, am, an, T, t, aD, aG, aI, n, y⟩) g i k
 obtain ⟨p, rfl⟩ := Has.ex (cC (n.ins.get 6 rfl) cN)
 exact mv z<|nl ⟨z, (.inl ⟨d, _, t, (ag.step n g z z z z), y⟩)⟩
 obtain ⟨p, rfl⟩ := Has.ex (cC (n.ins.get 6 rfl) cN)
 exact mv z<|nl ⟨z, (.inr (.inl ⟨c, d, P, _, t, (ag.step n g z z z z), y⟩))⟩
 cases (k 11 rfl).symm.trans c
 cases (k 14 rfl).symm.trans c
 rintro D r bg (⟨d, T, t, n, y⟩ | ⟨c, d, P, T, t, n, y⟩ | ⟨c, d, P, am, an, T, t, aD, aG, aI, n, y⟩ | ⟨c, P, am, an, T, t, aD, aG, aI, n, y⟩) g i k
 obtain ⟨p, rfl⟩ := Has.ex (cC (n.get 4 rfl (i 4 rfl)) cN)
 exact b6 z z<|nl ⟨z, (.inl ⟨d, _, t, (ag.step n g z z z z), y⟩)⟩
 obtain ⟨p, rfl⟩ := Has.ex (cC (n.get 4 rfl (i 4 rfl)) cN)
 exact b6 z z<|nl ⟨z, (.inr (.inl ⟨c, d, P, _, t, (ag.step n g z z z z), y⟩))⟩
 cases (k 11 rfl).symm.trans c
 cases (k 14 rfl).symm.trans c
 rintro D r bg (⟨d, T, t, n, y⟩ | ⟨c, d, P, T, t, n, y⟩ | ⟨c, d, P, am, an, T, t, aD, aG, aI, n, y⟩ | ⟨c, P, am, an, T, t, aD, aG, aI, n, y⟩) g i k
 obtain ⟨p, rfl⟩ := Has.ex (cC (n.get 3 rfl (i 3 rfl)) (cC (n.get 5 rfl (i 5 rfl)) cN))
 exact bL iu z cr z bJ bM<|nl ⟨z, (.inl ⟨d, _, t, (ag.step n g z z z z), y⟩)⟩
 obtain ⟨p, rfl⟩ := Has.ex (cC (n.get 3 rfl (i 3 rfl)) (cC (n.get 5 rfl (i 5 rfl)) cN))
 exact bL iu z cr z bJ bM<|nl ⟨z, (.inr (.inl ⟨c, d, P, _, t, (ag.step n g z z z z), y⟩))⟩
 cases (k 11 rfl).symm.trans c
 cases (k 14 rfl).symm.trans c
 rintro D r bg (⟨d, T, t, n, y⟩ | ⟨c, d, P, T, t, n, y⟩ | ⟨c, d, P, am, an, T, t, aD, aG, aI, n, y⟩ | ⟨c, P, am, an, T, t, aD, aG, aI, n, y⟩) g i k
 obtain ⟨p, rfl⟩ := Has.ex (cC (n.get 6 rfl (i 6 rfl)) cN)
 exact eS lU z z<|nl ⟨z, (.inl ⟨d, _, t, (ag.step n g z z z z), y⟩)⟩
 obtain ⟨p, rfl⟩ := Has.ex (cC (n.get 6 rfl (i 6 rfl)) cN)
 exact eS lU z z<|nl ⟨z, (.inr (.inl ⟨c, d, P, _, t, (ag.step n g z z z z), y⟩))⟩
 cases (k 11 rfl).symm.trans c
 cases (k 14 rfl).symm.trans c
 rintro D r bg (⟨d, T, t, n, y⟩ | ⟨c, d, P, T, t, n, y⟩ | ⟨c, d, P, am, an, T, t, aD, aG, aI, n, y⟩ | ⟨c, P, am, an, T, t, aD, aG, aI, n, y⟩) g i k
 obtain ⟨p, rfl⟩ := Has.ex (cC (n.get 7 rfl (i 7 rfl)) cN)
 obtain ⟨_, dn, _, dp⟩ := Hp.opGet y 2 rfl a2 aV had36 cr ab ae bJ bM
 obtain ⟨rfl, _⟩ := dn
 exact eg (v := slice ((q.getD (Int.toNat (aj ((b.length : Int) - 1))) ae).2.2.1) ((b.getD (Int.toNat (aj ((b.length : Int) - 1))) ab).Notes).length ((q.getD (Int.toNat (aj ((b.length : Int) - 1))) ae).2.2.2)) cB z (dp 1 _ z)<|nl ⟨z, (.inl ⟨d, _, t, (ag.step n g z z z z), y⟩)⟩
 obtain ⟨p, rfl⟩ := Has.ex (cC (n.get 7 rfl (i 7 rfl)) cN)
 obtain ⟨_, dn, _, dp⟩ := Hp.opGet y 3 rfl a2 aV had36 cr ab ae bJ bM
 obtain ⟨rfl, _⟩ := dn
 exact eg (v := slice ((q.getD (Int.toNat (aj ((b.length : Int) - 1))) ae).2.2.1) ((b.getD (Int.toNat (aj ((b.length : Int) - 1))) ab).Notes).length ((q.getD (Int.toNat (aj ((b.length : Int) - 1))) ae).2.2.2)) cB z (dp 1 _ z)<|nl ⟨z, (.inr (.inl ⟨c, d, P, _, t, (ag.step n g z z z z), y⟩))⟩
 cases (k 11 rfl).symm.trans c
 cases (k 14 rfl).symm.trans c
 rintro D r bg (⟨d, T, t, n, y⟩ | ⟨c, d, P, T, t, n, y⟩ | ⟨c, d, P, am, an, T, t, aD, aG, aI, n, y⟩ | ⟨c, P, am, an, T, t, aD, aG, aI, n, y⟩) g i k
 obtain ⟨p, rfl⟩ := Has.ex (cC (n.ins.get 5 rfl) cN)
 exact gg y 0 dx z z z z<|nl ⟨z, (.inl ⟨d, _, t, (ag.step n g z z z z), y⟩)⟩
 cases (k 10 rfl).symm.trans c
 cases (k 11 rfl).symm.trans c
 cases (k 14 rfl).symm.trans c
 rintro D r bg (⟨d, T, t, n, y⟩ | ⟨c, d, P, T, t, n, y⟩ | ⟨c, d, P, am, an, T, t, aD, aG, aI, n, y⟩ | ⟨c, P, am, an, T, t, aD, aG, aI, n, y⟩) g i k
 obtain ⟨p, rfl⟩ := Has.ex (cC (n.get 9 rfl (i 9 rfl)) cN)
 refine eh y (vs := [(0, agg [int .i64 ((a1.getD (Int.toNat a) aa).Node), int .i64 ((a1.getD (Int.toNat a) aa).Table), int .i64 ((a1.getD (Int.toNat a) aa).X), int .i64 ((a1.getD (Int.toNat a) aa).Y), int .i64 ((a1.getD (Int.toNat a) aa).H), string ((a1.getD (Int.toNat a) aa).Text), bool ((a1.getD (Int.toNat a) aa).Head), bool ((a1.getD (Int.toNat a) aa).Note)].toArray)]) (cs := [int .i64 ((a1.getD (Int.toNat a) aa).Node), int .i64 ((a1.getD (Int.toNat a) aa).Table), int .i64 ((a1.getD (Int.toNat a) aa).X), int .i64 ((a1.getD (Int.toNat a) aa).Y), int .i64 ((a1.getD (Int.toNat a) aa).H), string ((a1.getD (Int.toNat a) aa).Text), bool ((a1.getD (Int.toNat a) aa).Head), bool ((a1.getD (Int.toNat a) aa).Note)]) cA cP rfl (by decide) rfl (by kernel_rfl) (fun P ht ft => ?_)
 exact nl ⟨z, (.inr (.inl ⟨z, (k 11 z), P, _, t, (ag.step (ag.more (new := [(10, 45, slice (some ⟨P, 0, none⟩) 1 1)]) n (List.forall_mem_cons.2 ⟨g, (fun _ h => nomatch h)⟩)) g z z z z), ft⟩))⟩
 cases g.symm.trans c
 cases (k 11 rfl).symm.trans c
 cases (k 14 rfl).symm.trans c
 rintro D r bg (⟨d, T, t, n, y⟩ | ⟨c, d, P, T, t, n, y⟩ | ⟨c, d, P, am, an, T, t, aD, aG, aI, n, y⟩ | ⟨c, P, am, an, T, t, aD, aG, aI, n, y⟩) g i k
 cases (i 10 rfl).symm.trans d
 obtain ⟨p, rfl⟩ := Has.ex (cC (n.get 8 rfl (i 8 rfl)) (cC (n.get 10 rfl (i 10 rfl)) cN))
 refine have dS:=Hp.segTake (K := [bx P [int .i64 ((a1.getD (Int.toNat a) aa).Node), int .i64 ((a1.getD (Int.toNat a) aa).Table), int .i64 ((a1.getD (Int.toNat a) aa).X), int .i64 ((a1.getD (Int.toNat a) aa).Y), int .i64 ((a1.getD (Int.toNat a) aa).H), string ((a1.getD (Int.toNat a) aa).Text), bool ((a1.getD (Int.toNat a) aa).Head), bool ((a1.getD (Int.toNat a) aa).Note)] 36, bx az [int .i64 ((a1.getD (Int.toNat a) aa).Node), int .i64 ((a1.getD (Int.toNat a) aa).Table), int .i64 ((a1.getD (Int.toNat a) aa).X), int .i64 ((a1.getD (Int.toNat a) aa).Y), int .i64 ((a1.getD (Int.toNat a) aa).H), string ((a1.getD (Int.toNat a) aa).Text), bool ((a1.getD (Int.toNat a) aa).Head), bool ((a1.getD (Int.toNat a) aa).Note)] 36, tk (slice U ax.length V) 8 36, bO bo aq ai [] (List.zip b q) [] ak 42]) (tf := ay) (A := [tk (slice ((q.getD (Int.toNat (aj ((b.length : Int) - 1))) ae).1) ((b.getD (Int.toNat (aj ((b.length : Int) - 1))) ab).Slices).length ((q.getD (Int.toNat (aj ((b.length : Int) - 1))) ae).2.1)) 8 36]) (B := []) (it := tk (slice ((q.getD (Int.toNat (aj ((b.length : Int) - 1))) ae).2.2.1) ((b.getD (Int.toNat (aj ((b.length : Int) - 1))) ab).Notes).length ((q.getD (Int.toNat (aj ((b.length : Int) - 1))) ae).2.2.2)) 8 36) y (gH aV had36 ab ae (ez bJ bM)) z;?_
 refine fx (xs := (b.getD (Int.toNat (aj ((b.length : Int) - 1))) ab).Notes) (ys := [(a1.getD (Int.toNat a) aa)]) ah dS 0 cA cP rfl rfl rfl rfl fr fo (Dat.mono t (Dat.mono bt fp)) (dU dS 1 dA rfl rfl) ⟨[int .i64 ((a1.getD (Int.toNat a) aa).Node), int .i64 ((a1.getD (Int.toNat a) aa).Table), int .i64 ((a1.getD (Int.toNat a) aa).X), int .i64 ((a1.getD (Int.toNat a) aa).Y), int .i64 ((a1.getD (Int.toNat a) aa).H), string ((a1.getD (Int.toNat a) aa).Text), bool ((a1.getD (Int.toNat a) aa).Head), bool ((a1.getD (Int.toNat a) aa).Note)], _, rfl, (aH (x := (a1.getD (Int.toNat a) aa))), rfl⟩ rfl (by simp only [List.length_cons, List.length_nil]; omega) (by simp only [List.length_cons, List.length_nil]; omega) (fun am an hu hx fu aI aD aG fv => ?_)
 exact nl ⟨z, (.inr (.inr (.inl ⟨z, (k 14 z), P, am, an, _, (gT t fu), aD, aG, aI, (ag.step (ag.more (new := [(11, 46, slice am (((b.getD (Int.toNat (aj ((b.length : Int) - 1))) ab).Notes) ++ [(a1.getD (Int.toNat a) aa)]).length an), (12, 47, pointer (some (b9.add (Int.toNat (aj ((b.length : Int) - 1)) * 4)))), (13, 48, pointer (some ((b9.add (Int.toNat (aj ((b.length : Int) - 1)) * 4)).add 1)))]) n (List.forall_mem_cons.2 ⟨g, (List.forall_mem_cons.2 ⟨k 12 z, (List.forall_mem_cons.2 ⟨k 13 z, (fun _ h => nomatch h)⟩)⟩)⟩)) g z z z z), fv⟩)))⟩
 cases g.symm.trans c
 cases (k 14 rfl).symm.trans c
 rintro D r bg (⟨d, T, t, n, y⟩ | ⟨c, d, P, T, t, n, y⟩ | ⟨c, d, P, am, an, T, t, aD, aG, aI, n, y⟩ | ⟨c, P, am, an, T, t, aD, aG, aI, n, y⟩) g i k
 cases (i 10 rfl).symm.trans d
 cases (i 11 rfl).symm.trans d
 obtain ⟨p, rfl⟩ := Has.ex (cC (n.get 0 rfl (i 0 rfl)) (cC (n.get 2 rfl (i 2 rfl)) cN))
 exact bL iu z dQ z ct cu<|nl ⟨z, (.inr (.inr (.inl ⟨c, d, P, am, an, _, t, aD, aG, aI, (ag.step n g z z z z), y⟩)))⟩
 cases (k 14 rfl).symm.trans c
 rintro D r bg (⟨d, T, t, n, y⟩ | ⟨c, d, P, T, t, n, y⟩ | ⟨c, d, P, am, an, T, t, aD, aG, aI, n, y⟩ | ⟨c, P, am, an, T, t, aD, aG, aI, n, y⟩) g i k
 cases (i 10 rfl).symm.trans d
 cases (i 11 rfl).symm.trans d
 obtain ⟨p, rfl⟩ := Has.ex (cC (n.get 12 rfl (i 12 rfl)) cN)
 exact eS lU z z<|nl ⟨z, (.inr (.inr (.inl ⟨c, d, P, am, an, _, t, aD, aG, aI, (ag.step n g z z z z), y⟩)))⟩
 cases (k 14 rfl).symm.trans c
 rintro D r bg (⟨d, T, t, n, y⟩ | ⟨c, d, P, T, t, n, y⟩ | ⟨c, d, P, am, an, T, t, aD, aG, aI, n, y⟩ | ⟨c, P, am, an, T, t, aD, aG, aI, n, y⟩) g i k
 cases (i 10 rfl).symm.trans d
 cases (i 11 rfl).symm.trans d
 obtain ⟨p, rfl⟩ := Has.ex (cC (n.get 11 rfl (i 11 rfl)) (cC (n.get 13 rfl (i 13 rfl)) cN))
 refine kp (kd := aq) y 4 (v := slice am (((b.getD (Int.toNat (aj ((b.length : Int) - 1))) ab).Notes) ++ [(a1.getD (Int.toNat a) aa)]).length an) (news := [slice am (((b.getD (Int.toNat (aj ((b.length : Int) - 1))) ab).Notes) ++ [(a1.getD (Int.toNat a) aa)]).length an]) (ab, ae) ((⟨(b.getD (Int.toNat (aj ((b.length : Int) - 1))) ab).Slices, ((b.getD (Int.toNat (aj ((b.length : Int) - 1))) ab).Notes) ++ [(a1.getD (Int.toNat a) aa)], (b.getD (Int.toNat (aj ((b.length : Int) - 1))) ab).End, (b.getD (Int.toNat (aj ((b.length : Int) - 1))) ab).Kept⟩ : ao), ((q.getD (Int.toNat (aj ((b.length : Int) - 1))) ae).1, (q.getD (Int.toNat (aj ((b.length : Int) - 1))) ae).2.1, am, an)) cB rfl a2 (eE aV had36) dQ ct cu rfl rfl rfl rfl rfl rfl (Nat.le_of_ble_eq_true rfl) (gT bt t) (fun _ ho => by rw [(gc aV had36 ab ae (ez ct cu))] at ho; obtain ⟨rfl, l0, l1, l2, l3, l4, l5⟩ := ho; exact ⟨rfl, l0, (Dat.mono (gT bt t) l1), l2, aD, aG, aI⟩) (fun hy dT => ?_)
 rw [← d9] at dT
 refine have dW:=Hp.segPut (K := [bx P [int .i64 ((a1.getD (Int.toNat a) aa).Node), int .i64 ((a1.getD (Int.toNat a) aa).Table), int .i64 ((a1.getD (Int.toNat a) aa).X), int .i64 ((a1.getD (Int.toNat a) aa).Y), int .i64 ((a1.getD (Int.toNat a) aa).H), string ((a1.getD (Int.toNat a) aa).Text), bool ((a1.getD (Int.toNat a) aa).Head), bool ((a1.getD (Int.toNat a) aa).Note)] 36, bx az [int .i64 ((a1.getD (Int.toNat a) aa).Node), int .i64 ((a1.getD (Int.toNat a) aa).Table), int .i64 ((a1.getD (Int.toNat a) aa).X), int .i64 ((a1.getD (Int.toNat a) aa).Y), int .i64 ((a1.getD (Int.toNat a) aa).H), string ((a1.getD (Int.toNat a) aa).Text), bool ((a1.getD (Int.toNat a) aa).Head), bool ((a1.getD (Int.toNat a) aa).Note)] 36, tk (slice U ax.length V) 8 36, bO T aq ai [] (List.zip (List.set b (Int.toNat (aj ((b.length : Int) - 1))) (⟨(b.getD (Int.toNat (aj ((b.length : Int) - 1))) ab).Slices, ((b.getD (Int.toNat (aj ((b.length : Int) - 1))) ab).Notes) ++ [(a1.getD (Int.toNat a) aa)], (b.getD (Int.toNat (aj ((b.length : Int) - 1))) ab).End, (b.getD (Int.toNat (aj ((b.length : Int) - 1))) ab).Kept⟩ : ao)) (List.set q (Int.toNat (aj ((b.length : Int) - 1))) ((q.getD (Int.toNat (aj ((b.length : Int) - 1))) ae).1, (q.getD (Int.toNat (aj ((b.length : Int) - 1))) ae).2.1, am, an))) [] ak 42]) (tf := ay) (x' := ((⟨(b.getD (Int.toNat (aj ((b.length : Int) - 1))) ab).Slices, ((b.getD (Int.toNat (aj ((b.length : Int) - 1))) ab).Notes) ++ [(a1.getD (Int.toNat a) aa)], (b.getD (Int.toNat (aj ((b.length : Int) - 1))) ab).End, (b.getD (Int.toNat (aj ((b.length : Int) - 1))) ab).Kept⟩ : ao), ((q.getD (Int.toNat (aj ((b.length : Int) - 1))) ae).1, (q.getD (Int.toNat (aj ((b.length : Int) - 1))) ae).2.1, am, an))) (A := [tk (slice ((q.getD (Int.toNat (aj ((b.length : Int) - 1))) ae).1) ((b.getD (Int.toNat (aj ((b.length : Int) - 1))) ab).Slices).length ((q.getD (Int.toNat (aj ((b.length : Int) - 1))) ae).2.1)) 8 36]) (B := []) dT (gH aV had36 ab ae (ez ct cu)) z;?_
 rw [← d9] at dW
 exact nl ⟨z, (.inr (.inr (.inr ⟨z, P, am, an, _, t, aD, aG, aI, (ag.stepN n z z), dW⟩)))⟩
 cases g.symm.trans c
 intro D r bg bf hR
 rcases hR with ⟨d, T, t, n, y⟩ | ⟨c, d, P, T, t, n, y⟩ | ⟨c, d, P, am, an, T, t, aD, aG, aI, n, y⟩ | ⟨c, P, am, an, T, t, aD, aG, aI, n, y⟩
 cases (bf 10 (Nat.le_of_ble_eq_true rfl)).symm.trans d
 cases (bf 11 (Nat.le_of_ble_eq_true rfl)).symm.trans d
 cases (bf 14 (Nat.le_of_ble_eq_true rfl)).symm.trans d
 obtain ⟨p, rfl⟩ := Has.ex (cC (n.ins.get 0 rfl) (cC (n.ins.get 1 rfl) (cC (n.ins.get 2 rfl) (cC (n.ins.get 3 rfl) (cC (n.ins.get 4 rfl) cN)))))
 refine bK H fun fw c2 H=>?_
 replace c2 := Option.some.inj c2
 obtain ⟨dX, ha290⟩ : ∃ x, List.set q (Int.toNat (aj ((b.length : Int) - 1))) ((q.getD (Int.toNat (aj ((b.length : Int) - 1))) ae).1, (q.getD (Int.toNat (aj ((b.length : Int) - 1))) ae).2.1, am, an) = x := ⟨_, rfl⟩
 have fy : fw.length = aB := c2 ▸ (ef aV)
 have fz : dX.length = aB := ha290 ▸ (ef had36)
 refine have dY:=y;?_
 rw [c2, ha290] at dY
 refine fm _ _ _<|wx<|have fA:=Hp.pick 4 [3, 2] dY z;?_
 cases H
 exact ⟨z, U, V, ai, aB, ak, dX, T, _, z, t, ⟨z, z, z, z, z, tv⟩, fA, cj, (Dat.mono t ck), cl, fy, a2, fz, gR, tv⟩
 refine nK cq H fun H=>wf (vN cq)<|ws<|fk _ _ _<|sQ fun hz dZ=>sQ fun hA fB=>bK H fun d0 hC H=>jc .normal bI [(0, slice A2 a1.length c3), (1, slice A7 a6.length c8), (6, slice ai aB ak), (7, slice U ax.length V), (8, int .i64 a), (9, pointer (some ⟨az, 0, none⟩)), (10, int .i64 (b.length : Int)), (70, bool d0)] ?_ fun _ hB cv=>?_
 refine have H:=hC;?_
 refine ie dJ (by kernel_rfl) ?_
 refine have ca:=bI.drew;wq (mv z bc) z<|wq (ei z z bc) z<|wq (mv z bc) z<|dC ((b.length : Int) = 0) (fun a0=>?_) fun a0=>?_
 refine yK a0 H fun H=>kA z z z (bY a0) z z<|kA z z z (bY a0) z z<|kA z z z (bY a0) z z<|kA z z z (bY a0) z z<|kA z z z (bY a0) z z<|kA z z z (bY a0) z z<|kA z z z (bY a0) z z<|kA z z z (bY a0) z z<|kA z z z (bY a0) z z<|kA z z z (bY a0) z z<|kA z z z z z z<|kA z z z z z z<|kA z z z z z z<|?_
 refine kA z z z z z z<|kA z z z z z z<|kA z z z z z z<|kA z z z z z z<|kA z z z (bY a0) z z<|wq (cY (bY a0) z bc) z<|iM<|?_
 cases H
 exact je ⟨z, z, z, z, z, z, z, z, tv⟩ ca
 refine nK a0 H fun H=>wq (fa (hw:=gY z z z (bN a0)) bn z bc) z<|wq (ld (hw:=gY z z z (bN a0)) ca 0 bb z z z bc) z<|wq (mv (hw:=gY z z z (bN a0)) z bc) z<|wq (mv (hw:=gY z z z (bN a0)) z bc) z<|wq (b6 (hw:=gY z z z (bN a0)) z z bc) z<|iK H fun⟨dq, fC⟩H=>have dr:=iy aV fC;?_
 obtain ⟨hD, d1⟩ := Mw.ad a2 dq dr
 refine wq (bL (hw:=gY z z z (bN a0)) iu z d1 z dq dr bc) z<|wq (eS (hw:=gY z z z (bN a0)) kf z z bc) z<|?_
 obtain ⟨_, fD, _, fE⟩ := Hp.opGet ca 2 rfl a2 aV had36 d1 ab ae dq dr
 obtain ⟨rfl, _⟩ := fD
 refine wq (eg (hw:=gY z z z (bN a0)) (v := int .i64 ((b.getD (Int.toNat (aj ((b.length : Int) - 1))) ab).End)) bb z (fE 2 _ z) bc) z<|wq (gS (hw:=gY z z z (bN a0)) z z bc) z<|wq (mv (hw:=gY z z z (bN a0)) z bc) z<|dC (((b.getD (Int.toNat (aj ((b.length : Int) - 1))) ab).End) ≤ ((a1.getD (Int.toNat a) aa).Y)) (fun ba=>?_) fun ba=>?_
 refine yK ba H fun H=>wq (mv (hw:=gY z z z (bY ba)) z bc) z<|wq (mv (hw:=gY z z z (bY ba)) z bc) z<|wq (b6 (hw:=gY z z z (bY ba)) z z bc) z<|iK H fun⟨dt, fF⟩H=>have du:=iy aV fF;?_
 obtain ⟨hE, d2⟩ := Mw.ad a2 dt du
 refine wq (bL (hw:=gY z z z (bY ba)) iu z d2 z dt du bc) z<|wq (eS (hw:=gY z z z (bY ba)) mW z z bc) z<|?_
 obtain ⟨_, fG, _, fH⟩ := Hp.opGet ca 2 rfl a2 aV had36 d2 ab ae dt du
 obtain ⟨rfl, _⟩ := fG
 refine wq (eg (hw:=gY z z z (bY ba)) (v := bool ((b.getD (Int.toNat (aj ((b.length : Int) - 1))) ab).Kept)) jK z (fH 3 _ z) bc) z<|wq (bV (hw:=gY z z z (bY ba)) z bc) z<|wq (cY (hw:=gY z z z (bN a0)) (bY ba) z bc) z<|wq (dm (bN a0) z bc) z<|iM<|?_
 cases H
 exact je ⟨z, z, z, z, z, z, z, z, tv⟩ ca
 refine nK ba H fun H=>kA z z z (bN ba) z z<|kA z z z (bN ba) z z<|kA z z z (bN ba) z z<|kA z z z (bN ba) z z<|kA z z z (bN ba) z z<|kA z z z (bN ba) z z<|kA z z z (bN ba) z z<|wq (dm (hw:=gY z z z (bN a0)) (bN ba) z bc) z<|wq (dm (bN a0) z bc) z<|iM<|?_
 cases H
 exact je ⟨z, z, z, z, z, z, z, z, tv⟩ ca
 refine fB _ _ _<|dC (d0 = true) (fun cw=>?_) fun cw=>?_
 refine yK cw H fun H=>wt (vY cw)<|sr fun hF fI=>mv z<|mv z<|fa bn z<|ld cv 0 bb z z z<|fa cm z<|ld cv 0 bb z z z<|bm z z<|cf (vs := [(1, slice U ax.length V), (2, int .i64 (aj (((a1.getD (Int.toNat a) aa).Y) + ((a1.getD (Int.toNat a) aa).H))))]) (cs := [slice none 0 0, slice U ax.length V, int .i64 (aj (((a1.getD (Int.toNat a) aa).Y) + ((a1.getD (Int.toNat a) aa).H))), bool false]) pr pl42 z z<|?_
 refine eh cv (vs := [(0, agg [slice none 0 0, slice U ax.length V, int .i64 (aj (((a1.getD (Int.toNat a) aa).Y) + ((a1.getD (Int.toNat a) aa).H))), bool false].toArray)]) (cs := [slice none 0 0, slice U ax.length V, int .i64 (aj (((a1.getD (Int.toNat a) aa).Y) + ((a1.getD (Int.toNat a) aa).H))), bool false]) iu pr rfl (by decide) rfl (by kernel_rfl) (fun bp hG fJ => ?_)
 refine have d3:=Hp.emp fJ;iK H fun hH H=>?_
 refine ov (kd := aq) (ys := [((⟨([] : List ac), ax, aj (((a1.getD (Int.toNat a) aa).Y) + ((a1.getD (Int.toNat a) aa).H)), false⟩ : ao), (none, 0, U, V))]) d3 4 iu pr rfl rfl rfl rfl a2 (eE aV had36) (dU d3 1 o9 rfl rfl) ⟨[slice none 0 0, slice U ax.length V, int .i64 (aj (((a1.getD (Int.toNat a) aa).Y) + ((a1.getD (Int.toNat a) aa).H))), bool false], _, rfl, ⟨rfl, (show ([] : List ac).length ≤ 0 from Nat.le_refl 0), (Dat.nil _ _ _), Own.nil, cj, ck, cl⟩, rfl⟩ rfl bt (by rw [eE aV had36]; have := aV; simp only [List.length_cons, List.length_nil] at *; omega) (by rw [eE aV had36]; have := aV; simp only [List.length_cons, List.length_nil] at *; omega) (fun aY a3 aZ hJ d4 bj d5 => ?_)
 have fK : (b ++ [(⟨([] : List ac), ax, aj (((a1.getD (Int.toNat a) aa).Y) + ((a1.getD (Int.toNat a) aa).H)), false⟩ : ao)]).length = a3 := mH d4 aV had36 aV
 have fL : (q ++ [(none, 0, U, V)]).length = a3 := mH d4 aV had36 had36
 rw [← ml aV had36] at d5
 refine have fM:=Hp.pick 5 [0, 3, 1, 2, 4] d5 z;have d6:=Hp.segSnoc (X := [tk (slice none 0 0) 8 36, tk (slice U ax.length V) 8 36]) (K := [bx bp [slice none 0 0, slice U ax.length V, int .i64 (aj (((a1.getD (Int.toNat a) aa).Y) + ((a1.getD (Int.toNat a) aa).H))), bool false] 42, bx az [int .i64 ((a1.getD (Int.toNat a) aa).Node), int .i64 ((a1.getD (Int.toNat a) aa).Table), int .i64 ((a1.getD (Int.toNat a) aa).X), int .i64 ((a1.getD (Int.toNat a) aa).Y), int .i64 ((a1.getD (Int.toNat a) aa).H), string ((a1.getD (Int.toNat a) aa).Text), bool ((a1.getD (Int.toNat a) aa).Head), bool ((a1.getD (Int.toNat a) aa).Note)] 36, bO a4 aq aY [] (List.zip (b ++ [(⟨([] : List ac), ax, aj (((a1.getD (Int.toNat a) aa).Y) + ((a1.getD (Int.toNat a) aa).H)), false⟩ : ao)]) (q ++ [(none, 0, U, V)])) [] aZ 42]) (tf := ay) (x := ((⟨([] : List ac), ax, aj (((a1.getD (Int.toNat a) aa).Y) + ((a1.getD (Int.toNat a) aa).H)), false⟩ : ao), (none, 0, U, V))) fM z;?_
 rw [← ml aV had36] at d6
 refine bK H fun f c4 H=>?_
 replace c4 := Option.some.inj c4
 obtain ⟨aC, ha362⟩ : ∃ x, q ++ [(none, 0, U, V)] = x := ⟨_, rfl⟩
 have bq : f.length = a3 := c4 ▸ fK
 have bz : aC.length = a3 := ha362 ▸ fL
 refine have dv:=d6;?_
 rw [c4, ha362] at dv
 refine aK z<|nl<|fI _ _ _<|sr fun hK fN=>aK z<|nl<|fN _ _ _<|aA<|mv z<|gC o9 z bq<|aK z<|nl<|dZ _ _ _<|sQ fun hL fO=>?_
 refine iK H fun⟨bP, fP⟩H=>have bR:=iy bq fP;?_
 obtain ⟨bA, cx⟩ := Mw.ad bj bP bR
 obtain ⟨_, ⟨_, fQ, fR, fS, _⟩, _, _⟩ := Hp.opGet dv 2 rfl bj bq bz cx ab ae bP bR
 refine iK H fun hM H=>iK H fun⟨cy, fT⟩H=>have cz:=iy bq fT;?_
 obtain ⟨cb, d7⟩ := Mw.ad bj cy cz
 refine aM [0, 0, 2, 0, 0, 16, 56, 120, 248, 0, 512, 2040, 4095, 8191, 16383] (fun D r w => (D 10 = false ∧ ∃ (G' : Gh), a4 ≤ G' ∧ ag [(0, slice A2 a1.length c3), (1, slice A7 a6.length c8), (6, slice aY a3 aZ), (7, slice none 0 0), (8, int .i64 a), (9, pointer (some ⟨az, 0, none⟩)), (10, int .i64 (f.length : Int))] [] [(0, 83, slice aY a3 aZ), (1, 84, int .i64 (f.length : Int)), (2, 85, int .i64 (aj ((f.length : Int) - 1))), (3, 86, slice aY a3 aZ), (4, 87, int .i64 (f.length : Int)), (5, 88, int .i64 (aj ((f.length : Int) - 1))), (6, 89, pointer (some (bA.add (Int.toNat (aj ((f.length : Int) - 1)) * 4)))), (7, 90, pointer (some ((bA.add (Int.toNat (aj ((f.length : Int) - 1)) * 4)).add 0))), (8, 91, slice ((aC.getD (Int.toNat (aj ((f.length : Int) - 1))) ae).1) ((f.getD (Int.toNat (aj ((f.length : Int) - 1))) ab).Slices).length ((aC.getD (Int.toNat (aj ((f.length : Int) - 1))) ae).2.1)), (9, 92, agg [int .i64 ((a1.getD (Int.toNat a) aa).Node), int .i64 ((a1.getD (Int.toNat a) aa).Table), int .i64 ((a1.getD (Int.toNat a) aa).X), int .i64 ((a1.getD (Int.toNat a) aa).Y), int .i64 ((a1.getD (Int.toNat a) aa).H), string ((a1.getD (Int.toNat a) aa).Text), bool ((a1.getD (Int.toNat a) aa).Head), bool ((a1.getD (Int.toNat a) aa).Note)].toArray)] D r ∧ Hp G' (bx bp [slice none 0 0, slice U ax.length V, int .i64 (aj (((a1.getD (Int.toNat a) aa).Y) + ((a1.getD (Int.toNat a) aa).H))), bool false] 42 :: bx az [int .i64 ((a1.getD (Int.toNat a) aa).Node), int .i64 ((a1.getD (Int.toNat a) aa).Table), int .i64 ((a1.getD (Int.toNat a) aa).X), int .i64 ((a1.getD (Int.toNat a) aa).Y), int .i64 ((a1.getD (Int.toNat a) aa).H), string ((a1.getD (Int.toNat a) aa).Text), bool ((a1.getD (Int.toNat a) aa).Head), bool ((a1.getD (Int.toNat a) aa).Note)] 36 :: bO a4 aq aY [] (List.zip f aC) [] aZ 42 :: (List.flatMap ay (List.zip f aC) ++ L)) w) ∨ (D 10 = true ∧ D 11 = false ∧ ∃ (M : Nat) (G' : Gh), a4 ≤ G' ∧ ag [(0, slice A2 a1.length c3), (1, slice A7 a6.length c8), (6, slice aY a3 aZ), (7, slice none 0 0), (8, int .i64 a), (9, pointer (some ⟨az, 0, none⟩)), (10, int .i64 (f.length : Int))] [] [(0, 83, slice aY a3 aZ), (1, 84, int .i64 (f.length : Int)), (2, 85, int .i64 (aj ((f.length : Int) - 1))), (3, 86, slice aY a3 aZ), (4, 87, int .i64 (f.length : Int)), (5, 88, int .i64 (aj ((f.length : Int) - 1))), (6, 89, pointer (some (bA.add (Int.toNat (aj ((f.length : Int) - 1)) * 4)))), (7, 90, pointer (some ((bA.add (Int.toNat (aj ((f.length : Int) - 1)) * 4)).add 0))), (8, 91, slice ((aC.getD (Int.toNat (aj ((f.length : Int) - 1))) ae).1) ((f.getD (Int.toNat (aj ((f.length : Int) - 1))) ab).Slices).length ((aC.getD (Int.toNat (aj ((f.length : Int) - 1))) ae).2.1)), (9, 92, agg [int .i64 ((a1.getD (Int.toNat a) aa).Node), int .i64 ((a1.getD (Int.toNat a) aa).Table), int .i64 ((a1.getD (Int.toNat a) aa).X), int .i64 ((a1.getD (Int.toNat a) aa).Y), int .i64 ((a1.getD (Int.toNat a) aa).H), string ((a1.getD (Int.toNat a) aa).Text), bool ((a1.getD (Int.toNat a) aa).Head), bool ((a1.getD (Int.toNat a) aa).Note)].toArray), (10, 93, slice (some ⟨M, 0, none⟩) 1 1)] D r ∧ Hp G' (bx M [int .i64 ((a1.getD (Int.toNat a) aa).Node), int .i64 ((a1.getD (Int.toNat a) aa).Table), int .i64 ((a1.getD (Int.toNat a) aa).X), int .i64 ((a1.getD (Int.toNat a) aa).Y), int .i64 ((a1.getD (Int.toNat a) aa).H), string ((a1.getD (Int.toNat a) aa).Text), bool ((a1.getD (Int.toNat a) aa).Head), bool ((a1.getD (Int.toNat a) aa).Note)] 36 :: bx bp [slice none 0 0, slice U ax.length V, int .i64 (aj (((a1.getD (Int.toNat a) aa).Y) + ((a1.getD (Int.toNat a) aa).H))), bool false] 42 :: bx az [int .i64 ((a1.getD (Int.toNat a) aa).Node), int .i64 ((a1.getD (Int.toNat a) aa).Table), int .i64 ((a1.getD (Int.toNat a) aa).X), int .i64 ((a1.getD (Int.toNat a) aa).Y), int .i64 ((a1.getD (Int.toNat a) aa).H), string ((a1.getD (Int.toNat a) aa).Text), bool ((a1.getD (Int.toNat a) aa).Head), bool ((a1.getD (Int.toNat a) aa).Note)] 36 :: bO a4 aq aY [] (List.zip f aC) [] aZ 42 :: (List.flatMap ay (List.zip f aC) ++ L)) w) ∨ (D 11 = true ∧ D 14 = false ∧ ∃ (M : Nat) (ap : Option Addr) (ar : Nat) (G' : Gh), a4 ≤ G' ∧ (((f.getD (Int.toNat (aj ((f.length : Int) - 1))) ab).Slices) ++ [(a1.getD (Int.toNat a) aa)]).length ≤ ar ∧ Dat ah G' ap (((f.getD (Int.toNat (aj ((f.length : Int) - 1))) ab).Slices) ++ [(a1.getD (Int.toNat a) aa)]) ∧ Own ap ar ∧ ag [(0, slice A2 a1.length c3), (1, slice A7 a6.length c8), (6, slice aY a3 aZ), (7, slice none 0 0), (8, int .i64 a), (9, pointer (some ⟨az, 0, none⟩)), (10, int .i64 (f.length : Int))] [] [(0, 83, slice aY a3 aZ), (1, 84, int .i64 (f.length : Int)), (2, 85, int .i64 (aj ((f.length : Int) - 1))), (3, 86, slice aY a3 aZ), (4, 87, int .i64 (f.length : Int)), (5, 88, int .i64 (aj ((f.length : Int) - 1))), (6, 89, pointer (some (bA.add (Int.toNat (aj ((f.length : Int) - 1)) * 4)))), (7, 90, pointer (some ((bA.add (Int.toNat (aj ((f.length : Int) - 1)) * 4)).add 0))), (8, 91, slice ((aC.getD (Int.toNat (aj ((f.length : Int) - 1))) ae).1) ((f.getD (Int.toNat (aj ((f.length : Int) - 1))) ab).Slices).length ((aC.getD (Int.toNat (aj ((f.length : Int) - 1))) ae).2.1)), (9, 92, agg [int .i64 ((a1.getD (Int.toNat a) aa).Node), int .i64 ((a1.getD (Int.toNat a) aa).Table), int .i64 ((a1.getD (Int.toNat a) aa).X), int .i64 ((a1.getD (Int.toNat a) aa).Y), int .i64 ((a1.getD (Int.toNat a) aa).H), string ((a1.getD (Int.toNat a) aa).Text), bool ((a1.getD (Int.toNat a) aa).Head), bool ((a1.getD (Int.toNat a) aa).Note)].toArray), (10, 93, slice (some ⟨M, 0, none⟩) 1 1), (11, 94, slice ap (((f.getD (Int.toNat (aj ((f.length : Int) - 1))) ab).Slices) ++ [(a1.getD (Int.toNat a) aa)]).length ar), (12, 95, pointer (some (cb.add (Int.toNat (aj ((f.length : Int) - 1)) * 4)))), (13, 96, pointer (some ((cb.add (Int.toNat (aj ((f.length : Int) - 1)) * 4)).add 0)))] D r ∧ Hp G' (tk (slice ap (((f.getD (Int.toNat (aj ((f.length : Int) - 1))) ab).Slices) ++ [(a1.getD (Int.toNat a) aa)]).length ar) 8 36 :: bx M [int .i64 ((a1.getD (Int.toNat a) aa).Node), int .i64 ((a1.getD (Int.toNat a) aa).Table), int .i64 ((a1.getD (Int.toNat a) aa).X), int .i64 ((a1.getD (Int.toNat a) aa).Y), int .i64 ((a1.getD (Int.toNat a) aa).H), string ((a1.getD (Int.toNat a) aa).Text), bool ((a1.getD (Int.toNat a) aa).Head), bool ((a1.getD (Int.toNat a) aa).Note)] 36 :: bx bp [slice none 0 0, slice U ax.length V, int .i64 (aj (((a1.getD (Int.toNat a) aa).Y) + ((a1.getD (Int.toNat a) aa).H))), bool false] 42 :: bx az [int .i64 ((a1.getD (Int.toNat a) aa).Node), int .i64 ((a1.getD (Int.toNat a) aa).Table), int .i64 ((a1.getD (Int.toNat a) aa).X), int .i64 ((a1.getD (Int.toNat a) aa).Y), int .i64 ((a1.getD (Int.toNat a) aa).H), string ((a1.getD (Int.toNat a) aa).Text), bool ((a1.getD (Int.toNat a) aa).Head), bool ((a1.getD (Int.toNat a) aa).Note)] 36 :: bO a4 aq aY [] (List.zip f aC) [] aZ 42 :: (k9 ay (List.zip f aC) (Int.toNat (aj ((f.length : Int) - 1))) [] [tk (slice ((aC.getD (Int.toNat (aj ((f.length : Int) - 1))) ae).2.2.1) ((f.getD (Int.toNat (aj ((f.length : Int) - 1))) ab).Notes).length ((aC.getD (Int.toNat (aj ((f.length : Int) - 1))) ae).2.2.2)) 8 36] ++ L)) w) ∨ (D 14 = true ∧ ∃ (M : Nat) (ap : Option Addr) (ar : Nat) (G' : Gh), a4 ≤ G' ∧ (((f.getD (Int.toNat (aj ((f.length : Int) - 1))) ab).Slices) ++ [(a1.getD (Int.toNat a) aa)]).length ≤ ar ∧ Dat ah G' ap (((f.getD (Int.toNat (aj ((f.length : Int) - 1))) ab).Slices) ++ [(a1.getD (Int.toNat a) aa)]) ∧ Own ap ar ∧ ag [(0, slice A2 a1.length c3), (1, slice A7 a6.length c8), (6, slice aY a3 aZ), (7, slice none 0 0), (8, int .i64 a), (9, pointer (some ⟨az, 0, none⟩)), (10, int .i64 (f.length : Int))] [] [(0, 83, slice aY a3 aZ), (1, 84, int .i64 (f.length : Int)), (2, 85, int .i64 (aj ((f.length : Int) - 1))), (3, 86, slice aY a3 aZ), (4, 87, int .i64 (f.length : Int)), (5, 88, int .i64 (aj ((f.length : Int) - 1))), (6, 89, pointer (some (bA.add (Int.toNat (aj ((f.length : Int) - 1)) * 4)))), (7, 90, pointer (some ((bA.add (Int.toNat (aj ((f.length : Int) - 1)) * 4)).add 0))), (8, 91, slice ((aC.getD (Int.toNat (aj ((f.length : Int) - 1))) ae).1) ((f.getD (Int.toNat (aj ((f.length : Int) - 1))) ab).Slices).length ((aC.getD (Int.toNat (aj ((f.length : Int) - 1))) ae).2.1)), (9, 92, agg [int .i64 ((a1.getD (Int.toNat a) aa).Node), int .i64 ((a1.getD (Int.toNat a) aa).Table), int .i64 ((a1.getD (Int.toNat a) aa).X), int .i64 ((a1.getD (Int.toNat a) aa).Y), int .i64 ((a1.getD (Int.toNat a) aa).H), string ((a1.getD (Int.toNat a) aa).Text), bool ((a1.getD (Int.toNat a) aa).Head), bool ((a1.getD (Int.toNat a) aa).Note)].toArray), (10, 93, slice (some ⟨M, 0, none⟩) 1 1), (11, 94, slice ap (((f.getD (Int.toNat (aj ((f.length : Int) - 1))) ab).Slices) ++ [(a1.getD (Int.toNat a) aa)]).length ar), (12, 95, pointer (some (cb.add (Int.toNat (aj ((f.length : Int) - 1)) * 4)))), (13, 96, pointer (some ((cb.add (Int.toNat (aj ((f.length : Int) - 1)) * 4)).add 0)))] D r ∧ Hp G' (bx M [int .i64 ((a1.getD (Int.toNat a) aa).Node), int .i64 ((a1.getD (Int.toNat a) aa).Table), int .i64 ((a1.getD (Int.toNat a) aa).X), int .i64 ((a1.getD (Int.toNat a) aa).Y), int .i64 ((a1.getD (Int.toNat a) aa).H), string ((a1.getD (Int.toNat a) aa).Text), bool ((a1.getD (Int.toNat a) aa).Head), bool ((a1.getD (Int.toNat a) aa).Note)] 36 :: bx bp [slice none 0 0, slice U ax.length V, int .i64 (aj (((a1.getD (Int.toNat a) aa).Y) + ((a1.getD (Int.toNat a) aa).H))), bool false] 42 :: bx az [int .i64 ((a1.getD (Int.toNat a) aa).Node), int .i64 ((a1.getD (Int.toNat a) aa).Table), int .i64 ((a1.getD (Int.toNat a) aa).X), int .i64 ((a1.getD (Int.toNat a) aa).Y), int .i64 ((a1.getD (Int.toNat a) aa).H), string ((a1.getD (Int.toNat a) aa).Text), bool ((a1.getD (Int.toNat a) aa).Head), bool ((a1.getD (Int.toNat a) aa).Note)] 36 :: bO G' aq aY [] (List.zip (List.set f (Int.toNat (aj ((f.length : Int) - 1))) (⟨((f.getD (Int.toNat (aj ((f.length : Int) - 1))) ab).Slices) ++ [(a1.getD (Int.toNat a) aa)], (f.getD (Int.toNat (aj ((f.length : Int) - 1))) ab).Notes, (f.getD (Int.toNat (aj ((f.length : Int) - 1))) ab).End, (f.getD (Int.toNat (aj ((f.length : Int) - 1))) ab).Kept⟩ : ao)) (List.set aC (Int.toNat (aj ((f.length : Int) - 1))) (ap, ar, (aC.getD (Int.toNat (aj ((f.length : Int) - 1))) ae).2.2.1, (aC.getD (Int.toNat (aj ((f.length : Int) - 1))) ae).2.2.2))) [] aZ 42 :: (List.flatMap ay (List.zip (List.set f (Int.toNat (aj ((f.length : Int) - 1))) (⟨((f.getD (Int.toNat (aj ((f.length : Int) - 1))) ab).Slices) ++ [(a1.getD (Int.toNat a) aa)], (f.getD (Int.toNat (aj ((f.length : Int) - 1))) ab).Notes, (f.getD (Int.toNat (aj ((f.length : Int) - 1))) ab).End, (f.getD (Int.toNat (aj ((f.length : Int) - 1))) ab).Kept⟩ : ao)) (List.set aC (Int.toNat (aj ((f.length : Int) - 1))) (ap, ar, (aC.getD (Int.toNat (aj ((f.length : Int) - 1))) ae).2.2.1, (aC.getD (Int.toNat (aj ((f.length : Int) - 1))) ae).2.2.2))) ++ L)) w)) dJ z z ?_ ?_ ?_
 exact (.inl ⟨z, _, Gh.le_refl _, ag.start ⟨z, z, z, z, z, z, z, tv⟩ trivial, dv.drew⟩)
 refine ⟨?_, ?_, ?_, ?_, ?_, ?_, ?_, ?_, ?_, ?_, ?_, ?_, ?_, ?_, ?_, tv⟩
 rintro D r bh (⟨d, R, u, l, C⟩ | ⟨c, d, M, R, u, l, C⟩ | ⟨c, d, M, ap, ar, R, u, aJ, aL, aN, l, C⟩ | ⟨c, M, ap, ar, R, u, aJ, aL, aN, l, C⟩) g i k
 obtain ⟨p, rfl⟩ := Has.ex (cC (l.ins.get 2 rfl) cN)
 exact mv z<|nl ⟨z, (.inl ⟨d, _, u, (ag.step l g z z z z), C⟩)⟩
 obtain ⟨p, rfl⟩ := Has.ex (cC (l.ins.get 2 rfl) cN)
 exact mv z<|nl ⟨z, (.inr (.inl ⟨c, d, M, _, u, (ag.step l g z z z z), C⟩))⟩
 obtain ⟨p, rfl⟩ := Has.ex (cC (l.ins.get 2 rfl) cN)
 exact mv z<|nl ⟨z, (.inr (.inr (.inl ⟨c, d, M, ap, ar, _, u, aJ, aL, aN, (ag.step l g z z z z), C⟩)))⟩
 cases (k 14 rfl).symm.trans c
 rintro D r bh (⟨d, R, u, l, C⟩ | ⟨c, d, M, R, u, l, C⟩ | ⟨c, d, M, ap, ar, R, u, aJ, aL, aN, l, C⟩ | ⟨c, M, ap, ar, R, u, aJ, aL, aN, l, C⟩) g i k
 obtain ⟨p, rfl⟩ := Has.ex (cC (l.ins.get 6 rfl) cN)
 exact mv z<|nl ⟨z, (.inl ⟨d, _, u, (ag.step l g z z z z), C⟩)⟩
 obtain ⟨p, rfl⟩ := Has.ex (cC (l.ins.get 6 rfl) cN)
 exact mv z<|nl ⟨z, (.inr (.inl ⟨c, d, M, _, u, (ag.step l g z z z z), C⟩))⟩
 obtain ⟨p, rfl⟩ := Has.ex (cC (l.ins.get 6 rfl) cN)
 exact mv z<|nl ⟨z, (.inr (.inr (.inl ⟨c, d, M, ap, ar, _, u, aJ, aL, aN, (ag.step l g z z z z), C⟩)))⟩
 cases (k 14 rfl).symm.trans c
 rintro D r bh (⟨d, R, u, l, C⟩ | ⟨c, d, M, R, u, l, C⟩ | ⟨c, d, M, ap, ar, R, u, aJ, aL, aN, l, C⟩ | ⟨c, M, ap, ar, R, u, aJ, aL, aN, l, C⟩) g i k
 obtain ⟨p, rfl⟩ := Has.ex (cC (l.get 1 rfl (i 1 rfl)) cN)
 exact b6 z z<|nl ⟨z, (.inl ⟨d, _, u, (ag.step l g z z z z), C⟩)⟩
 obtain ⟨p, rfl⟩ := Has.ex (cC (l.get 1 rfl (i 1 rfl)) cN)
 exact b6 z z<|nl ⟨z, (.inr (.inl ⟨c, d, M, _, u, (ag.step l g z z z z), C⟩))⟩
 obtain ⟨p, rfl⟩ := Has.ex (cC (l.get 1 rfl (i 1 rfl)) cN)
 exact b6 z z<|nl ⟨z, (.inr (.inr (.inl ⟨c, d, M, ap, ar, _, u, aJ, aL, aN, (ag.step l g z z z z), C⟩)))⟩
 cases (k 14 rfl).symm.trans c
 rintro D r bh (⟨d, R, u, l, C⟩ | ⟨c, d, M, R, u, l, C⟩ | ⟨c, d, M, ap, ar, R, u, aJ, aL, aN, l, C⟩ | ⟨c, M, ap, ar, R, u, aJ, aL, aN, l, C⟩) g i k
 obtain ⟨p, rfl⟩ := Has.ex (cC (l.ins.get 2 rfl) cN)
 exact mv z<|nl ⟨z, (.inl ⟨d, _, u, (ag.step l g z z z z), C⟩)⟩
 obtain ⟨p, rfl⟩ := Has.ex (cC (l.ins.get 2 rfl) cN)
 exact mv z<|nl ⟨z, (.inr (.inl ⟨c, d, M, _, u, (ag.step l g z z z z), C⟩))⟩
 cases (k 11 rfl).symm.trans c
 cases (k 14 rfl).symm.trans c
 rintro D r bh (⟨d, R, u, l, C⟩ | ⟨c, d, M, R, u, l, C⟩ | ⟨c, d, M, ap, ar, R, u, aJ, aL, aN, l, C⟩ | ⟨c, M, ap, ar, R, u, aJ, aL, aN, l, C⟩) g i k
 obtain ⟨p, rfl⟩ := Has.ex (cC (l.ins.get 6 rfl) cN)
 exact mv z<|nl ⟨z, (.inl ⟨d, _, u, (ag.step l g z z z z), C⟩)⟩
 obtain ⟨p, rfl⟩ := Has.ex (cC (l.ins.get 6 rfl) cN)
 exact mv z<|nl ⟨z, (.inr (.inl ⟨c, d, M, _, u, (ag.step l g z z z z), C⟩))⟩
 cases (k 11 rfl).symm.trans c
 cases (k 14 rfl).symm.trans c
 rintro D r bh (⟨d, R, u, l, C⟩ | ⟨c, d, M, R, u, l, C⟩ | ⟨c, d, M, ap, ar, R, u, aJ, aL, aN, l, C⟩ | ⟨c, M, ap, ar, R, u, aJ, aL, aN, l, C⟩) g i k
 obtain ⟨p, rfl⟩ := Has.ex (cC (l.get 4 rfl (i 4 rfl)) cN)
 exact b6 z z<|nl ⟨z, (.inl ⟨d, _, u, (ag.step l g z z z z), C⟩)⟩
 obtain ⟨p, rfl⟩ := Has.ex (cC (l.get 4 rfl (i 4 rfl)) cN)
 exact b6 z z<|nl ⟨z, (.inr (.inl ⟨c, d, M, _, u, (ag.step l g z z z z), C⟩))⟩
 cases (k 11 rfl).symm.trans c
 cases (k 14 rfl).symm.trans c
 rintro D r bh (⟨d, R, u, l, C⟩ | ⟨c, d, M, R, u, l, C⟩ | ⟨c, d, M, ap, ar, R, u, aJ, aL, aN, l, C⟩ | ⟨c, M, ap, ar, R, u, aJ, aL, aN, l, C⟩) g i k
 obtain ⟨p, rfl⟩ := Has.ex (cC (l.get 3 rfl (i 3 rfl)) (cC (l.get 5 rfl (i 5 rfl)) cN))
 exact bL iu z cx z bP bR<|nl ⟨z, (.inl ⟨d, _, u, (ag.step l g z z z z), C⟩)⟩
 obtain ⟨p, rfl⟩ := Has.ex (cC (l.get 3 rfl (i 3 rfl)) (cC (l.get 5 rfl (i 5 rfl)) cN))
 exact bL iu z cx z bP bR<|nl ⟨z, (.inr (.inl ⟨c, d, M, _, u, (ag.step l g z z z z), C⟩))⟩
 cases (k 11 rfl).symm.trans c
 cases (k 14 rfl).symm.trans c
 rintro D r bh (⟨d, R, u, l, C⟩ | ⟨c, d, M, R, u, l, C⟩ | ⟨c, d, M, ap, ar, R, u, aJ, aL, aN, l, C⟩ | ⟨c, M, ap, ar, R, u, aJ, aL, aN, l, C⟩) g i k
 obtain ⟨p, rfl⟩ := Has.ex (cC (l.get 6 rfl (i 6 rfl)) cN)
 exact eS jT z z<|nl ⟨z, (.inl ⟨d, _, u, (ag.step l g z z z z), C⟩)⟩
 obtain ⟨p, rfl⟩ := Has.ex (cC (l.get 6 rfl (i 6 rfl)) cN)
 exact eS jT z z<|nl ⟨z, (.inr (.inl ⟨c, d, M, _, u, (ag.step l g z z z z), C⟩))⟩
 cases (k 11 rfl).symm.trans c
 cases (k 14 rfl).symm.trans c
 rintro D r bh (⟨d, R, u, l, C⟩ | ⟨c, d, M, R, u, l, C⟩ | ⟨c, d, M, ap, ar, R, u, aJ, aL, aN, l, C⟩ | ⟨c, M, ap, ar, R, u, aJ, aL, aN, l, C⟩) g i k
 obtain ⟨p, rfl⟩ := Has.ex (cC (l.get 7 rfl (i 7 rfl)) cN)
 obtain ⟨_, dw, _, dy⟩ := Hp.opGet C 2 rfl bj bq bz cx ab ae bP bR
 obtain ⟨rfl, _⟩ := dw
 exact eg (v := slice ((aC.getD (Int.toNat (aj ((f.length : Int) - 1))) ae).1) ((f.getD (Int.toNat (aj ((f.length : Int) - 1))) ab).Slices).length ((aC.getD (Int.toNat (aj ((f.length : Int) - 1))) ae).2.1)) cB z (dy 0 _ z)<|nl ⟨z, (.inl ⟨d, _, u, (ag.step l g z z z z), C⟩)⟩
 obtain ⟨p, rfl⟩ := Has.ex (cC (l.get 7 rfl (i 7 rfl)) cN)
 obtain ⟨_, dw, _, dy⟩ := Hp.opGet C 3 rfl bj bq bz cx ab ae bP bR
 obtain ⟨rfl, _⟩ := dw
 exact eg (v := slice ((aC.getD (Int.toNat (aj ((f.length : Int) - 1))) ae).1) ((f.getD (Int.toNat (aj ((f.length : Int) - 1))) ab).Slices).length ((aC.getD (Int.toNat (aj ((f.length : Int) - 1))) ae).2.1)) cB z (dy 0 _ z)<|nl ⟨z, (.inr (.inl ⟨c, d, M, _, u, (ag.step l g z z z z), C⟩))⟩
 cases (k 11 rfl).symm.trans c
 cases (k 14 rfl).symm.trans c
 rintro D r bh (⟨d, R, u, l, C⟩ | ⟨c, d, M, R, u, l, C⟩ | ⟨c, d, M, ap, ar, R, u, aJ, aL, aN, l, C⟩ | ⟨c, M, ap, ar, R, u, aJ, aL, aN, l, C⟩) g i k
 obtain ⟨p, rfl⟩ := Has.ex (cC (l.ins.get 5 rfl) cN)
 exact gg C 1 dx z z z z<|nl ⟨z, (.inl ⟨d, _, u, (ag.step l g z z z z), C⟩)⟩
 cases (k 10 rfl).symm.trans c
 cases (k 11 rfl).symm.trans c
 cases (k 14 rfl).symm.trans c
 rintro D r bh (⟨d, R, u, l, C⟩ | ⟨c, d, M, R, u, l, C⟩ | ⟨c, d, M, ap, ar, R, u, aJ, aL, aN, l, C⟩ | ⟨c, M, ap, ar, R, u, aJ, aL, aN, l, C⟩) g i k
 obtain ⟨p, rfl⟩ := Has.ex (cC (l.get 9 rfl (i 9 rfl)) cN)
 refine eh C (vs := [(0, agg [int .i64 ((a1.getD (Int.toNat a) aa).Node), int .i64 ((a1.getD (Int.toNat a) aa).Table), int .i64 ((a1.getD (Int.toNat a) aa).X), int .i64 ((a1.getD (Int.toNat a) aa).Y), int .i64 ((a1.getD (Int.toNat a) aa).H), string ((a1.getD (Int.toNat a) aa).Text), bool ((a1.getD (Int.toNat a) aa).Head), bool ((a1.getD (Int.toNat a) aa).Note)].toArray)]) (cs := [int .i64 ((a1.getD (Int.toNat a) aa).Node), int .i64 ((a1.getD (Int.toNat a) aa).Table), int .i64 ((a1.getD (Int.toNat a) aa).X), int .i64 ((a1.getD (Int.toNat a) aa).Y), int .i64 ((a1.getD (Int.toNat a) aa).H), string ((a1.getD (Int.toNat a) aa).Text), bool ((a1.getD (Int.toNat a) aa).Head), bool ((a1.getD (Int.toNat a) aa).Note)]) cA cP rfl (by decide) rfl (by kernel_rfl) (fun M hN fU => ?_)
 exact nl ⟨z, (.inr (.inl ⟨z, (k 11 z), M, _, u, (ag.step (ag.more (new := [(10, 93, slice (some ⟨M, 0, none⟩) 1 1)]) l (List.forall_mem_cons.2 ⟨g, (fun _ h => nomatch h)⟩)) g z z z z), fU⟩))⟩
 cases g.symm.trans c
 cases (k 11 rfl).symm.trans c
 cases (k 14 rfl).symm.trans c
 rintro D r bh (⟨d, R, u, l, C⟩ | ⟨c, d, M, R, u, l, C⟩ | ⟨c, d, M, ap, ar, R, u, aJ, aL, aN, l, C⟩ | ⟨c, M, ap, ar, R, u, aJ, aL, aN, l, C⟩) g i k
 cases (i 10 rfl).symm.trans d
 obtain ⟨p, rfl⟩ := Has.ex (cC (l.get 8 rfl (i 8 rfl)) (cC (l.get 10 rfl (i 10 rfl)) cN))
 refine have d8:=Hp.segTake (K := [bx M [int .i64 ((a1.getD (Int.toNat a) aa).Node), int .i64 ((a1.getD (Int.toNat a) aa).Table), int .i64 ((a1.getD (Int.toNat a) aa).X), int .i64 ((a1.getD (Int.toNat a) aa).Y), int .i64 ((a1.getD (Int.toNat a) aa).H), string ((a1.getD (Int.toNat a) aa).Text), bool ((a1.getD (Int.toNat a) aa).Head), bool ((a1.getD (Int.toNat a) aa).Note)] 36, bx bp [slice none 0 0, slice U ax.length V, int .i64 (aj (((a1.getD (Int.toNat a) aa).Y) + ((a1.getD (Int.toNat a) aa).H))), bool false] 42, bx az [int .i64 ((a1.getD (Int.toNat a) aa).Node), int .i64 ((a1.getD (Int.toNat a) aa).Table), int .i64 ((a1.getD (Int.toNat a) aa).X), int .i64 ((a1.getD (Int.toNat a) aa).Y), int .i64 ((a1.getD (Int.toNat a) aa).H), string ((a1.getD (Int.toNat a) aa).Text), bool ((a1.getD (Int.toNat a) aa).Head), bool ((a1.getD (Int.toNat a) aa).Note)] 36, bO a4 aq aY [] (List.zip f aC) [] aZ 42]) (tf := ay) (A := []) (B := [tk (slice ((aC.getD (Int.toNat (aj ((f.length : Int) - 1))) ae).2.2.1) ((f.getD (Int.toNat (aj ((f.length : Int) - 1))) ab).Notes).length ((aC.getD (Int.toNat (aj ((f.length : Int) - 1))) ae).2.2.2)) 8 36]) (it := tk (slice ((aC.getD (Int.toNat (aj ((f.length : Int) - 1))) ae).1) ((f.getD (Int.toNat (aj ((f.length : Int) - 1))) ab).Slices).length ((aC.getD (Int.toNat (aj ((f.length : Int) - 1))) ae).2.1)) 8 36) C (gH bq bz ab ae (ez bP bR)) z;?_
 refine fx (xs := (f.getD (Int.toNat (aj ((f.length : Int) - 1))) ab).Slices) (ys := [(a1.getD (Int.toNat a) aa)]) ah d8 0 cA cP rfl rfl rfl rfl fS fQ (Dat.mono u fR) (dU d8 1 dA rfl rfl) ⟨[int .i64 ((a1.getD (Int.toNat a) aa).Node), int .i64 ((a1.getD (Int.toNat a) aa).Table), int .i64 ((a1.getD (Int.toNat a) aa).X), int .i64 ((a1.getD (Int.toNat a) aa).Y), int .i64 ((a1.getD (Int.toNat a) aa).H), string ((a1.getD (Int.toNat a) aa).Text), bool ((a1.getD (Int.toNat a) aa).Head), bool ((a1.getD (Int.toNat a) aa).Note)], _, rfl, (aH (x := (a1.getD (Int.toNat a) aa))), rfl⟩ rfl (by simp only [List.length_cons, List.length_nil]; omega) (by simp only [List.length_cons, List.length_nil]; omega) (fun ap ar hO hP fW aN aJ aL fX => ?_)
 exact nl ⟨z, (.inr (.inr (.inl ⟨z, (k 14 z), M, ap, ar, _, (gT u fW), aJ, aL, aN, (ag.step (ag.more (new := [(11, 94, slice ap (((f.getD (Int.toNat (aj ((f.length : Int) - 1))) ab).Slices) ++ [(a1.getD (Int.toNat a) aa)]).length ar), (12, 95, pointer (some (cb.add (Int.toNat (aj ((f.length : Int) - 1)) * 4)))), (13, 96, pointer (some ((cb.add (Int.toNat (aj ((f.length : Int) - 1)) * 4)).add 0)))]) l (List.forall_mem_cons.2 ⟨g, (List.forall_mem_cons.2 ⟨k 12 z, (List.forall_mem_cons.2 ⟨k 13 z, (fun _ h => nomatch h)⟩)⟩)⟩)) g z z z z), fX⟩)))⟩
 cases g.symm.trans c
 cases (k 14 rfl).symm.trans c
 rintro D r bh (⟨d, R, u, l, C⟩ | ⟨c, d, M, R, u, l, C⟩ | ⟨c, d, M, ap, ar, R, u, aJ, aL, aN, l, C⟩ | ⟨c, M, ap, ar, R, u, aJ, aL, aN, l, C⟩) g i k
 cases (i 10 rfl).symm.trans d
 cases (i 11 rfl).symm.trans d
 obtain ⟨p, rfl⟩ := Has.ex (cC (l.get 0 rfl (i 0 rfl)) (cC (l.get 2 rfl (i 2 rfl)) cN))
 exact bL iu z d7 z cy cz<|nl ⟨z, (.inr (.inr (.inl ⟨c, d, M, ap, ar, _, u, aJ, aL, aN, (ag.step l g z z z z), C⟩)))⟩
 cases (k 14 rfl).symm.trans c
 rintro D r bh (⟨d, R, u, l, C⟩ | ⟨c, d, M, R, u, l, C⟩ | ⟨c, d, M, ap, ar, R, u, aJ, aL, aN, l, C⟩ | ⟨c, M, ap, ar, R, u, aJ, aL, aN, l, C⟩) g i k
 cases (i 10 rfl).symm.trans d
 cases (i 11 rfl).symm.trans d
 obtain ⟨p, rfl⟩ := Has.ex (cC (l.get 12 rfl (i 12 rfl)) cN)
 exact eS jT z z<|nl ⟨z, (.inr (.inr (.inl ⟨c, d, M, ap, ar, _, u, aJ, aL, aN, (ag.step l g z z z z), C⟩)))⟩
 cases (k 14 rfl).symm.trans c
 rintro D r bh (⟨d, R, u, l, C⟩ | ⟨c, d, M, R, u, l, C⟩ | ⟨c, d, M, ap, ar, R, u, aJ, aL, aN, l, C⟩ | ⟨c, M, ap, ar, R, u, aJ, aL, aN, l, C⟩) g i k
 cases (i 10 rfl).symm.trans d
 cases (i 11 rfl).symm.trans d
 obtain ⟨p, rfl⟩ := Has.ex (cC (l.get 11 rfl (i 11 rfl)) (cC (l.get 13 rfl (i 13 rfl)) cN))
 refine kp (kd := aq) C 4 (v := slice ap (((f.getD (Int.toNat (aj ((f.length : Int) - 1))) ab).Slices) ++ [(a1.getD (Int.toNat a) aa)]).length ar) (news := [slice ap (((f.getD (Int.toNat (aj ((f.length : Int) - 1))) ab).Slices) ++ [(a1.getD (Int.toNat a) aa)]).length ar]) (ab, ae) ((⟨((f.getD (Int.toNat (aj ((f.length : Int) - 1))) ab).Slices) ++ [(a1.getD (Int.toNat a) aa)], (f.getD (Int.toNat (aj ((f.length : Int) - 1))) ab).Notes, (f.getD (Int.toNat (aj ((f.length : Int) - 1))) ab).End, (f.getD (Int.toNat (aj ((f.length : Int) - 1))) ab).Kept⟩ : ao), (ap, ar, (aC.getD (Int.toNat (aj ((f.length : Int) - 1))) ae).2.2.1, (aC.getD (Int.toNat (aj ((f.length : Int) - 1))) ae).2.2.2)) cB rfl bj (eE bq bz) d7 cy cz rfl rfl rfl rfl rfl rfl (Nat.le_of_ble_eq_true rfl) u (fun _ ho => by rw [(gc bq bz ab ae (ez cy cz))] at ho; obtain ⟨rfl, l0, l1, l2, l3, l4, l5⟩ := ho; exact ⟨rfl, aJ, aL, aN, l3, (Dat.mono u l4), l5⟩) (fun hQ ea => ?_)
 rw [← d9] at ea
 refine have eb:=Hp.segPut (K := [bx M [int .i64 ((a1.getD (Int.toNat a) aa).Node), int .i64 ((a1.getD (Int.toNat a) aa).Table), int .i64 ((a1.getD (Int.toNat a) aa).X), int .i64 ((a1.getD (Int.toNat a) aa).Y), int .i64 ((a1.getD (Int.toNat a) aa).H), string ((a1.getD (Int.toNat a) aa).Text), bool ((a1.getD (Int.toNat a) aa).Head), bool ((a1.getD (Int.toNat a) aa).Note)] 36, bx bp [slice none 0 0, slice U ax.length V, int .i64 (aj (((a1.getD (Int.toNat a) aa).Y) + ((a1.getD (Int.toNat a) aa).H))), bool false] 42, bx az [int .i64 ((a1.getD (Int.toNat a) aa).Node), int .i64 ((a1.getD (Int.toNat a) aa).Table), int .i64 ((a1.getD (Int.toNat a) aa).X), int .i64 ((a1.getD (Int.toNat a) aa).Y), int .i64 ((a1.getD (Int.toNat a) aa).H), string ((a1.getD (Int.toNat a) aa).Text), bool ((a1.getD (Int.toNat a) aa).Head), bool ((a1.getD (Int.toNat a) aa).Note)] 36, bO R aq aY [] (List.zip (List.set f (Int.toNat (aj ((f.length : Int) - 1))) (⟨((f.getD (Int.toNat (aj ((f.length : Int) - 1))) ab).Slices) ++ [(a1.getD (Int.toNat a) aa)], (f.getD (Int.toNat (aj ((f.length : Int) - 1))) ab).Notes, (f.getD (Int.toNat (aj ((f.length : Int) - 1))) ab).End, (f.getD (Int.toNat (aj ((f.length : Int) - 1))) ab).Kept⟩ : ao)) (List.set aC (Int.toNat (aj ((f.length : Int) - 1))) (ap, ar, (aC.getD (Int.toNat (aj ((f.length : Int) - 1))) ae).2.2.1, (aC.getD (Int.toNat (aj ((f.length : Int) - 1))) ae).2.2.2))) [] aZ 42]) (tf := ay) (x' := ((⟨((f.getD (Int.toNat (aj ((f.length : Int) - 1))) ab).Slices) ++ [(a1.getD (Int.toNat a) aa)], (f.getD (Int.toNat (aj ((f.length : Int) - 1))) ab).Notes, (f.getD (Int.toNat (aj ((f.length : Int) - 1))) ab).End, (f.getD (Int.toNat (aj ((f.length : Int) - 1))) ab).Kept⟩ : ao), (ap, ar, (aC.getD (Int.toNat (aj ((f.length : Int) - 1))) ae).2.2.1, (aC.getD (Int.toNat (aj ((f.length : Int) - 1))) ae).2.2.2))) (A := []) (B := [tk (slice ((aC.getD (Int.toNat (aj ((f.length : Int) - 1))) ae).2.2.1) ((f.getD (Int.toNat (aj ((f.length : Int) - 1))) ab).Notes).length ((aC.getD (Int.toNat (aj ((f.length : Int) - 1))) ae).2.2.2)) 8 36]) ea (gH bq bz ab ae (ez cy cz)) z;?_
 rw [← d9] at eb
 exact nl ⟨z, (.inr (.inr (.inr ⟨z, M, ap, ar, _, u, aJ, aL, aN, (ag.stepN l z z), eb⟩)))⟩
 cases g.symm.trans c
 intro D r bh bf hR
 rcases hR with ⟨d, R, u, l, C⟩ | ⟨c, d, M, R, u, l, C⟩ | ⟨c, d, M, ap, ar, R, u, aJ, aL, aN, l, C⟩ | ⟨c, M, ap, ar, R, u, aJ, aL, aN, l, C⟩
 cases (bf 10 (Nat.le_of_ble_eq_true rfl)).symm.trans d
 cases (bf 11 (Nat.le_of_ble_eq_true rfl)).symm.trans d
 cases (bf 14 (Nat.le_of_ble_eq_true rfl)).symm.trans d
 obtain ⟨p, rfl⟩ := Has.ex (cC (l.ins.get 0 rfl) (cC (l.ins.get 1 rfl) (cC (l.ins.get 2 rfl) (cC (l.ins.get 3 rfl) (cC (l.ins.get 4 rfl) (cC (l.ins.get 5 rfl) (cC (l.ins.get 6 rfl) cN)))))))
 refine bK H fun aW c5 H=>?_
 replace c5 := Option.some.inj c5
 obtain ⟨bk, ha470⟩ : ∃ x, List.set aC (Int.toNat (aj ((f.length : Int) - 1))) (ap, ar, (aC.getD (Int.toNat (aj ((f.length : Int) - 1))) ae).2.2.1, (aC.getD (Int.toNat (aj ((f.length : Int) - 1))) ae).2.2.2) = x := ⟨_, rfl⟩
 have bS : aW.length = a3 := c5 ▸ (ef bq)
 have cD : bk.length = a3 := ha470 ▸ (ef bz)
 refine have ec:=C;?_
 rw [c5, ha470] at ec
 refine fO _ _ _<|sQ fun hS fY=>iK H fun⟨dz, fZ⟩H=>have dB:=iy bS fZ;?_
 obtain ⟨c6, ed⟩ := Mw.ad bj dz dB
 refine iK H fun⟨cE, f0⟩H=>have cF:=iy bS f0;?_
 obtain ⟨c7, ee⟩ := Mw.ad bj cE cF
 refine aM [0, 0, 2, 0, 0, 16, 56, 120, 248, 0, 512, 0, 2048, 7680, 16376, 32767, 65535, 131071] (fun D r w => (D 17 = false ∧ ∃ (G' : Gh), R ≤ G' ∧ ag [(0, slice A2 a1.length c3), (1, slice A7 a6.length c8), (6, slice aY a3 aZ), (7, slice none 0 0), (8, int .i64 a), (9, pointer (some ⟨az, 0, none⟩)), (10, int .i64 (f.length : Int))] [] [(0, 97, slice aY a3 aZ), (1, 98, int .i64 (f.length : Int)), (2, 99, int .i64 (aj ((f.length : Int) - 1))), (3, 100, slice aY a3 aZ), (4, 101, int .i64 (f.length : Int)), (5, 102, int .i64 (aj ((f.length : Int) - 1))), (6, 103, pointer (some (c6.add (Int.toNat (aj ((f.length : Int) - 1)) * 4)))), (7, 104, pointer (some ((c6.add (Int.toNat (aj ((f.length : Int) - 1)) * 4)).add 2))), (8, 105, int .i64 ((aW.getD (Int.toNat (aj ((f.length : Int) - 1))) ab).End)), (9, 106, pointer (some ⟨az, 3, none⟩)), (10, 107, int .i64 ((a1.getD (Int.toNat a) aa).Y)), (11, 108, pointer (some ⟨az, 4, none⟩)), (12, 109, int .i64 ((a1.getD (Int.toNat a) aa).H)), (13, 110, int .i64 (aj (((a1.getD (Int.toNat a) aa).Y) + ((a1.getD (Int.toNat a) aa).H)))), (14, 111, int .i64 (max ((aW.getD (Int.toNat (aj ((f.length : Int) - 1))) ab).End) (aj (((a1.getD (Int.toNat a) aa).Y) + ((a1.getD (Int.toNat a) aa).H))))), (15, 112, pointer (some (c7.add (Int.toNat (aj ((f.length : Int) - 1)) * 4)))), (16, 113, pointer (some ((c7.add (Int.toNat (aj ((f.length : Int) - 1)) * 4)).add 2)))] D r ∧ Hp G' (bx M [int .i64 ((a1.getD (Int.toNat a) aa).Node), int .i64 ((a1.getD (Int.toNat a) aa).Table), int .i64 ((a1.getD (Int.toNat a) aa).X), int .i64 ((a1.getD (Int.toNat a) aa).Y), int .i64 ((a1.getD (Int.toNat a) aa).H), string ((a1.getD (Int.toNat a) aa).Text), bool ((a1.getD (Int.toNat a) aa).Head), bool ((a1.getD (Int.toNat a) aa).Note)] 36 :: bx bp [slice none 0 0, slice U ax.length V, int .i64 (aj (((a1.getD (Int.toNat a) aa).Y) + ((a1.getD (Int.toNat a) aa).H))), bool false] 42 :: bx az [int .i64 ((a1.getD (Int.toNat a) aa).Node), int .i64 ((a1.getD (Int.toNat a) aa).Table), int .i64 ((a1.getD (Int.toNat a) aa).X), int .i64 ((a1.getD (Int.toNat a) aa).Y), int .i64 ((a1.getD (Int.toNat a) aa).H), string ((a1.getD (Int.toNat a) aa).Text), bool ((a1.getD (Int.toNat a) aa).Head), bool ((a1.getD (Int.toNat a) aa).Note)] 36 :: bO R aq aY [] (List.zip aW bk) [] aZ 42 :: (List.flatMap ay (List.zip aW bk) ++ L)) w) ∨ (D 17 = true ∧ ∃ (G' : Gh), R ≤ G' ∧ ag [(0, slice A2 a1.length c3), (1, slice A7 a6.length c8), (6, slice aY a3 aZ), (7, slice none 0 0), (8, int .i64 a), (9, pointer (some ⟨az, 0, none⟩)), (10, int .i64 (f.length : Int))] [] [(0, 97, slice aY a3 aZ), (1, 98, int .i64 (f.length : Int)), (2, 99, int .i64 (aj ((f.length : Int) - 1))), (3, 100, slice aY a3 aZ), (4, 101, int .i64 (f.length : Int)), (5, 102, int .i64 (aj ((f.length : Int) - 1))), (6, 103, pointer (some (c6.add (Int.toNat (aj ((f.length : Int) - 1)) * 4)))), (7, 104, pointer (some ((c6.add (Int.toNat (aj ((f.length : Int) - 1)) * 4)).add 2))), (8, 105, int .i64 ((aW.getD (Int.toNat (aj ((f.length : Int) - 1))) ab).End)), (9, 106, pointer (some ⟨az, 3, none⟩)), (10, 107, int .i64 ((a1.getD (Int.toNat a) aa).Y)), (11, 108, pointer (some ⟨az, 4, none⟩)), (12, 109, int .i64 ((a1.getD (Int.toNat a) aa).H)), (13, 110, int .i64 (aj (((a1.getD (Int.toNat a) aa).Y) + ((a1.getD (Int.toNat a) aa).H)))), (14, 111, int .i64 (max ((aW.getD (Int.toNat (aj ((f.length : Int) - 1))) ab).End) (aj (((a1.getD (Int.toNat a) aa).Y) + ((a1.getD (Int.toNat a) aa).H))))), (15, 112, pointer (some (c7.add (Int.toNat (aj ((f.length : Int) - 1)) * 4)))), (16, 113, pointer (some ((c7.add (Int.toNat (aj ((f.length : Int) - 1)) * 4)).add 2)))] D r ∧ Hp G' (bx M [int .i64 ((a1.getD (Int.toNat a) aa).Node), int .i64 ((a1.getD (Int.toNat a) aa).Table), int .i64 ((a1.getD (Int.toNat a) aa).X), int .i64 ((a1.getD (Int.toNat a) aa).Y), int .i64 ((a1.getD (Int.toNat a) aa).H), string ((a1.getD (Int.toNat a) aa).Text), bool ((a1.getD (Int.toNat a) aa).Head), bool ((a1.getD (Int.toNat a) aa).Note)] 36 :: bx bp [slice none 0 0, slice U ax.length V, int .i64 (aj (((a1.getD (Int.toNat a) aa).Y) + ((a1.getD (Int.toNat a) aa).H))), bool false] 42 :: bx az [int .i64 ((a1.getD (Int.toNat a) aa).Node), int .i64 ((a1.getD (Int.toNat a) aa).Table), int .i64 ((a1.getD (Int.toNat a) aa).X), int .i64 ((a1.getD (Int.toNat a) aa).Y), int .i64 ((a1.getD (Int.toNat a) aa).H), string ((a1.getD (Int.toNat a) aa).Text), bool ((a1.getD (Int.toNat a) aa).Head), bool ((a1.getD (Int.toNat a) aa).Note)] 36 :: bO R aq aY [] (List.zip (List.set aW (Int.toNat (aj ((f.length : Int) - 1))) (⟨(aW.getD (Int.toNat (aj ((f.length : Int) - 1))) ab).Slices, (aW.getD (Int.toNat (aj ((f.length : Int) - 1))) ab).Notes, max ((aW.getD (Int.toNat (aj ((f.length : Int) - 1))) ab).End) (aj (((a1.getD (Int.toNat a) aa).Y) + ((a1.getD (Int.toNat a) aa).H))), (aW.getD (Int.toNat (aj ((f.length : Int) - 1))) ab).Kept⟩ : ao)) (List.set bk (Int.toNat (aj ((f.length : Int) - 1))) (bk.getD (Int.toNat (aj ((f.length : Int) - 1))) ae))) [] aZ 42 :: (List.flatMap ay (List.zip (List.set aW (Int.toNat (aj ((f.length : Int) - 1))) (⟨(aW.getD (Int.toNat (aj ((f.length : Int) - 1))) ab).Slices, (aW.getD (Int.toNat (aj ((f.length : Int) - 1))) ab).Notes, max ((aW.getD (Int.toNat (aj ((f.length : Int) - 1))) ab).End) (aj (((a1.getD (Int.toNat a) aa).Y) + ((a1.getD (Int.toNat a) aa).H))), (aW.getD (Int.toNat (aj ((f.length : Int) - 1))) ab).Kept⟩ : ao)) (List.set bk (Int.toNat (aj ((f.length : Int) - 1))) (bk.getD (Int.toNat (aj ((f.length : Int) - 1))) ae))) ++ L)) w)) dJ z z ?_ ?_ ?_
 exact (.inl ⟨z, _, Gh.le_refl _, ag.start ⟨z, z, z, z, z, z, z, tv⟩ trivial, ec.drew⟩)
 refine ⟨?_, ?_, ?_, ?_, ?_, ?_, ?_, ?_, ?_, ?_, ?_, ?_, ?_, ?_, ?_, ?_, ?_, ?_, tv⟩
 rintro D r bd (⟨d, aT, al, F, W⟩ | ⟨c, aT, al, F, W⟩) g i k
 obtain ⟨p, rfl⟩ := Has.ex (cC (F.ins.get 2 rfl) cN)
 exact mv z<|nl ⟨z, (.inl ⟨d, _, al, (ag.step F g z z z z), W⟩)⟩
 cases (k 17 rfl).symm.trans c
 rintro D r bd (⟨d, aT, al, F, W⟩ | ⟨c, aT, al, F, W⟩) g i k
 obtain ⟨p, rfl⟩ := Has.ex (cC (F.ins.get 6 rfl) cN)
 exact mv z<|nl ⟨z, (.inl ⟨d, _, al, (ag.step F g z z z z), W⟩)⟩
 cases (k 17 rfl).symm.trans c
 rintro D r bd (⟨d, aT, al, F, W⟩ | ⟨c, aT, al, F, W⟩) g i k
 obtain ⟨p, rfl⟩ := Has.ex (cC (F.get 1 rfl (i 1 rfl)) cN)
 exact b6 z z<|nl ⟨z, (.inl ⟨d, _, al, (ag.step F g z z z z), W⟩)⟩
 cases (k 17 rfl).symm.trans c
 rintro D r bd (⟨d, aT, al, F, W⟩ | ⟨c, aT, al, F, W⟩) g i k
 obtain ⟨p, rfl⟩ := Has.ex (cC (F.ins.get 2 rfl) cN)
 exact mv z<|nl ⟨z, (.inl ⟨d, _, al, (ag.step F g z z z z), W⟩)⟩
 cases (k 17 rfl).symm.trans c
 rintro D r bd (⟨d, aT, al, F, W⟩ | ⟨c, aT, al, F, W⟩) g i k
 obtain ⟨p, rfl⟩ := Has.ex (cC (F.ins.get 6 rfl) cN)
 exact mv z<|nl ⟨z, (.inl ⟨d, _, al, (ag.step F g z z z z), W⟩)⟩
 cases (k 17 rfl).symm.trans c
 rintro D r bd (⟨d, aT, al, F, W⟩ | ⟨c, aT, al, F, W⟩) g i k
 obtain ⟨p, rfl⟩ := Has.ex (cC (F.get 4 rfl (i 4 rfl)) cN)
 exact b6 z z<|nl ⟨z, (.inl ⟨d, _, al, (ag.step F g z z z z), W⟩)⟩
 cases (k 17 rfl).symm.trans c
 rintro D r bd (⟨d, aT, al, F, W⟩ | ⟨c, aT, al, F, W⟩) g i k
 obtain ⟨p, rfl⟩ := Has.ex (cC (F.get 3 rfl (i 3 rfl)) (cC (F.get 5 rfl (i 5 rfl)) cN))
 exact bL iu z ed z dz dB<|nl ⟨z, (.inl ⟨d, _, al, (ag.step F g z z z z), W⟩)⟩
 cases (k 17 rfl).symm.trans c
 rintro D r bd (⟨d, aT, al, F, W⟩ | ⟨c, aT, al, F, W⟩) g i k
 obtain ⟨p, rfl⟩ := Has.ex (cC (F.get 6 rfl (i 6 rfl)) cN)
 exact eS kf z z<|nl ⟨z, (.inl ⟨d, _, al, (ag.step F g z z z z), W⟩)⟩
 cases (k 17 rfl).symm.trans c
 rintro D r bd (⟨d, aT, al, F, W⟩ | ⟨c, aT, al, F, W⟩) g i k
 obtain ⟨p, rfl⟩ := Has.ex (cC (F.get 7 rfl (i 7 rfl)) cN)
 obtain ⟨_, f1, _, f2⟩ := Hp.opGet W 3 rfl bj bS cD ed ab ae dz dB
 obtain ⟨rfl, _⟩ := f1
 exact eg (v := int .i64 ((aW.getD (Int.toNat (aj ((f.length : Int) - 1))) ab).End)) bb z (f2 2 _ z)<|nl ⟨z, (.inl ⟨d, _, al, (ag.step F g z z z z), W⟩)⟩
 cases (k 17 rfl).symm.trans c
 rintro D r bd (⟨d, aT, al, F, W⟩ | ⟨c, aT, al, F, W⟩) g i k
 obtain ⟨p, rfl⟩ := Has.ex (cC (F.ins.get 5 rfl) cN)
 exact fa bn z<|nl ⟨z, (.inl ⟨d, _, al, (ag.step F g z z z z), W⟩)⟩
 cases (k 17 rfl).symm.trans c
 rintro D r bd (⟨d, aT, al, F, W⟩ | ⟨c, aT, al, F, W⟩) g i k
 obtain ⟨p, rfl⟩ := Has.ex (cC (F.get 9 rfl (i 9 rfl)) cN)
 exact ld W 2 bb z z z<|nl ⟨z, (.inl ⟨d, _, al, (ag.step F g z z z z), W⟩)⟩
 cases (k 17 rfl).symm.trans c
 rintro D r bd (⟨d, aT, al, F, W⟩ | ⟨c, aT, al, F, W⟩) g i k
 obtain ⟨p, rfl⟩ := Has.ex (cC (F.ins.get 5 rfl) cN)
 exact fa cm z<|nl ⟨z, (.inl ⟨d, _, al, (ag.step F g z z z z), W⟩)⟩
 cases (k 17 rfl).symm.trans c
 rintro D r bd (⟨d, aT, al, F, W⟩ | ⟨c, aT, al, F, W⟩) g i k
 obtain ⟨p, rfl⟩ := Has.ex (cC (F.get 11 rfl (i 11 rfl)) cN)
 exact ld W 2 bb z z z<|nl ⟨z, (.inl ⟨d, _, al, (ag.step F g z z z z), W⟩)⟩
 cases (k 17 rfl).symm.trans c
 rintro D r bd (⟨d, aT, al, F, W⟩ | ⟨c, aT, al, F, W⟩) g i k
 obtain ⟨p, rfl⟩ := Has.ex (cC (F.get 10 rfl (i 10 rfl)) (cC (F.get 12 rfl (i 12 rfl)) cN))
 exact bm z z<|nl ⟨z, (.inl ⟨d, _, al, (ag.step F g z z z z), W⟩)⟩
 cases (k 17 rfl).symm.trans c
 rintro D r bd (⟨d, aT, al, F, W⟩ | ⟨c, aT, al, F, W⟩) g i k
 obtain ⟨p, rfl⟩ := Has.ex (cC (F.get 8 rfl (i 8 rfl)) (cC (F.get 13 rfl (i 13 rfl)) cN))
 exact dR z z<|nl ⟨z, (.inl ⟨d, _, al, (ag.step F g z z z z), W⟩)⟩
 cases (k 17 rfl).symm.trans c
 rintro D r bd (⟨d, aT, al, F, W⟩ | ⟨c, aT, al, F, W⟩) g i k
 obtain ⟨p, rfl⟩ := Has.ex (cC (F.get 0 rfl (i 0 rfl)) (cC (F.get 2 rfl (i 2 rfl)) cN))
 exact bL iu z ee z cE cF<|nl ⟨z, (.inl ⟨d, _, al, (ag.step F g z z z z), W⟩)⟩
 cases (k 17 rfl).symm.trans c
 rintro D r bd (⟨d, aT, al, F, W⟩ | ⟨c, aT, al, F, W⟩) g i k
 obtain ⟨p, rfl⟩ := Has.ex (cC (F.get 15 rfl (i 15 rfl)) cN)
 exact eS kf z z<|nl ⟨z, (.inl ⟨d, _, al, (ag.step F g z z z z), W⟩)⟩
 cases (k 17 rfl).symm.trans c
 rintro D r bd (⟨d, aT, al, F, W⟩ | ⟨c, aT, al, F, W⟩) g i k
 obtain ⟨p, rfl⟩ := Has.ex (cC (F.get 14 rfl (i 14 rfl)) (cC (F.get 16 rfl (i 16 rfl)) cN))
 refine kp (kd := aq) W 3 (v := int .i64 (max ((aW.getD (Int.toNat (aj ((f.length : Int) - 1))) ab).End) (aj (((a1.getD (Int.toNat a) aa).Y) + ((a1.getD (Int.toNat a) aa).H))))) (news := [int .i64 (max ((aW.getD (Int.toNat (aj ((f.length : Int) - 1))) ab).End) (aj (((a1.getD (Int.toNat a) aa).Y) + ((a1.getD (Int.toNat a) aa).H))))]) (ab, ae) ((⟨(aW.getD (Int.toNat (aj ((f.length : Int) - 1))) ab).Slices, (aW.getD (Int.toNat (aj ((f.length : Int) - 1))) ab).Notes, max ((aW.getD (Int.toNat (aj ((f.length : Int) - 1))) ab).End) (aj (((a1.getD (Int.toNat a) aa).Y) + ((a1.getD (Int.toNat a) aa).H))), (aW.getD (Int.toNat (aj ((f.length : Int) - 1))) ab).Kept⟩ : ao), bk.getD (Int.toNat (aj ((f.length : Int) - 1))) ae) bb rfl bj (eE bS cD) ee cE cF rfl rfl rfl rfl rfl rfl (Nat.le_of_ble_eq_true rfl) gR (fun _ ho => by rw [(gc bS cD ab ae (ez cE cF))] at ho; obtain ⟨rfl, l0, l1, l2, l3, l4, l5⟩ := ho; exact ⟨rfl, l0, l1, l2, l3, l4, l5⟩) (fun hT ej => ?_)
 rw [← d9] at ej
 refine have ek:=Hp.segSame (K := [bx M [int .i64 ((a1.getD (Int.toNat a) aa).Node), int .i64 ((a1.getD (Int.toNat a) aa).Table), int .i64 ((a1.getD (Int.toNat a) aa).X), int .i64 ((a1.getD (Int.toNat a) aa).Y), int .i64 ((a1.getD (Int.toNat a) aa).H), string ((a1.getD (Int.toNat a) aa).Text), bool ((a1.getD (Int.toNat a) aa).Head), bool ((a1.getD (Int.toNat a) aa).Note)] 36, bx bp [slice none 0 0, slice U ax.length V, int .i64 (aj (((a1.getD (Int.toNat a) aa).Y) + ((a1.getD (Int.toNat a) aa).H))), bool false] 42, bx az [int .i64 ((a1.getD (Int.toNat a) aa).Node), int .i64 ((a1.getD (Int.toNat a) aa).Table), int .i64 ((a1.getD (Int.toNat a) aa).X), int .i64 ((a1.getD (Int.toNat a) aa).Y), int .i64 ((a1.getD (Int.toNat a) aa).H), string ((a1.getD (Int.toNat a) aa).Text), bool ((a1.getD (Int.toNat a) aa).Head), bool ((a1.getD (Int.toNat a) aa).Note)] 36, bO R aq aY [] (List.zip (List.set aW (Int.toNat (aj ((f.length : Int) - 1))) (⟨(aW.getD (Int.toNat (aj ((f.length : Int) - 1))) ab).Slices, (aW.getD (Int.toNat (aj ((f.length : Int) - 1))) ab).Notes, max ((aW.getD (Int.toNat (aj ((f.length : Int) - 1))) ab).End) (aj (((a1.getD (Int.toNat a) aa).Y) + ((a1.getD (Int.toNat a) aa).H))), (aW.getD (Int.toNat (aj ((f.length : Int) - 1))) ab).Kept⟩ : ao)) (List.set bk (Int.toNat (aj ((f.length : Int) - 1))) (bk.getD (Int.toNat (aj ((f.length : Int) - 1))) ae))) [] aZ 42]) (tf := ay) (x' := ((⟨(aW.getD (Int.toNat (aj ((f.length : Int) - 1))) ab).Slices, (aW.getD (Int.toNat (aj ((f.length : Int) - 1))) ab).Notes, max ((aW.getD (Int.toNat (aj ((f.length : Int) - 1))) ab).End) (aj (((a1.getD (Int.toNat a) aa).Y) + ((a1.getD (Int.toNat a) aa).H))), (aW.getD (Int.toNat (aj ((f.length : Int) - 1))) ab).Kept⟩ : ao), bk.getD (Int.toNat (aj ((f.length : Int) - 1))) ae)) ej (gH bS cD ab ae (ez cE cF)) z;?_
 rw [← d9] at ek
 exact nl ⟨z, (.inr ⟨z, _, al, (ag.stepN F z z), ek⟩)⟩
 cases g.symm.trans c
 intro D r bd bf hR
 rcases hR with ⟨d, aT, al, F, W⟩ | ⟨c, aT, al, F, W⟩
 cases (bf 17 (Nat.le_of_ble_eq_true rfl)).symm.trans d
 obtain ⟨p, rfl⟩ := Has.ex (cC (F.ins.get 0 rfl) (cC (F.ins.get 1 rfl) (cC (F.ins.get 2 rfl) (cC (F.ins.get 3 rfl) (cC (F.ins.get 4 rfl) (cC (F.ins.get 6 rfl) cN))))))
 refine bK H fun br c9 H=>?_
 replace c9 := Option.some.inj c9
 obtain ⟨bT, ha561⟩ : ∃ x, List.set bk (Int.toNat (aj ((f.length : Int) - 1))) (bk.getD (Int.toNat (aj ((f.length : Int) - 1))) ae) = x := ⟨_, rfl⟩
 have cG : br.length = a3 := c9 ▸ (ef bS)
 have da : bT.length = a3 := ha561 ▸ (ef cD)
 refine have dD:=W;?_
 rw [c9, ha561] at dD
 refine fY _ _ _<|aA<|mv z<|mv z<|b6 z z<|mv z<|mv z<|iK H fun⟨el, em⟩H=>?_
 obtain ⟨hU, hV, f3, f4, hW, f6⟩ := Dat.get (Dat.mono (gT (gT ci u) al) dK) false (a) el em
 obtain rfl := f4
 refine bL fV z f3 z el em<|et dD jK z (gR.cel _ _ (f6 0 _ z))<|iK H fun⟨cH, f7⟩H=>have cI:=iy cG f7;?_
 obtain ⟨hX, en⟩ := Mw.ad bj cH cI
 refine bL iu z en z cH cI<|eS mW z z<|?_
 refine kp (kd := aq) dD 3 (v := bool (a6.getD (Int.toNat a) false)) (news := [bool (a6.getD (Int.toNat a) false)]) (ab, ae) ((⟨(br.getD (Int.toNat (aj ((f.length : Int) - 1))) ab).Slices, (br.getD (Int.toNat (aj ((f.length : Int) - 1))) ab).Notes, (br.getD (Int.toNat (aj ((f.length : Int) - 1))) ab).End, a6.getD (Int.toNat a) false⟩ : ao), bT.getD (Int.toNat (aj ((f.length : Int) - 1))) ae) jK rfl bj (eE cG da) en cH cI rfl rfl rfl rfl rfl rfl (Nat.le_of_ble_eq_true rfl) gR (fun _ ho => by rw [(gc cG da ab ae (ez cH cI))] at ho; obtain ⟨rfl, l0, l1, l2, l3, l4, l5⟩ := ho; exact ⟨rfl, l0, l1, l2, l3, l4, l5⟩) (fun hY eo => ?_)
 rw [← d9] at eo
 refine have ep:=Hp.segSame (K := [bx M [int .i64 ((a1.getD (Int.toNat a) aa).Node), int .i64 ((a1.getD (Int.toNat a) aa).Table), int .i64 ((a1.getD (Int.toNat a) aa).X), int .i64 ((a1.getD (Int.toNat a) aa).Y), int .i64 ((a1.getD (Int.toNat a) aa).H), string ((a1.getD (Int.toNat a) aa).Text), bool ((a1.getD (Int.toNat a) aa).Head), bool ((a1.getD (Int.toNat a) aa).Note)] 36, bx bp [slice none 0 0, slice U ax.length V, int .i64 (aj (((a1.getD (Int.toNat a) aa).Y) + ((a1.getD (Int.toNat a) aa).H))), bool false] 42, bx az [int .i64 ((a1.getD (Int.toNat a) aa).Node), int .i64 ((a1.getD (Int.toNat a) aa).Table), int .i64 ((a1.getD (Int.toNat a) aa).X), int .i64 ((a1.getD (Int.toNat a) aa).Y), int .i64 ((a1.getD (Int.toNat a) aa).H), string ((a1.getD (Int.toNat a) aa).Text), bool ((a1.getD (Int.toNat a) aa).Head), bool ((a1.getD (Int.toNat a) aa).Note)] 36, bO R aq aY [] (List.zip (List.set br (Int.toNat (aj ((f.length : Int) - 1))) (⟨(br.getD (Int.toNat (aj ((f.length : Int) - 1))) ab).Slices, (br.getD (Int.toNat (aj ((f.length : Int) - 1))) ab).Notes, (br.getD (Int.toNat (aj ((f.length : Int) - 1))) ab).End, a6.getD (Int.toNat a) false⟩ : ao)) (List.set bT (Int.toNat (aj ((f.length : Int) - 1))) (bT.getD (Int.toNat (aj ((f.length : Int) - 1))) ae))) [] aZ 42]) (tf := ay) (x' := ((⟨(br.getD (Int.toNat (aj ((f.length : Int) - 1))) ab).Slices, (br.getD (Int.toNat (aj ((f.length : Int) - 1))) ab).Notes, (br.getD (Int.toNat (aj ((f.length : Int) - 1))) ab).End, a6.getD (Int.toNat a) false⟩ : ao), bT.getD (Int.toNat (aj ((f.length : Int) - 1))) ae)) eo (gH cG da ab ae (ez cH cI)) z;?_
 rw [← d9] at ep
 refine nl<|have f8:=Hp.rwUp ep 3 z al;have f9:=Hp.emp f8;have ga:=Hp.pick 5 [4, 0] f9 z;?_
 cases H
 exact ⟨z, none, 0, aY, a3, aZ, List.set bT (Int.toNat (aj ((f.length : Int) - 1))) (bT.getD (Int.toNat (aj ((f.length : Int) - 1))) ae), aT, _, z, (gT u al), ⟨z, z, z, z, z, tv⟩, ga, (show ([] : List ac).length ≤ 0 from Nat.le_refl 0), (Dat.nil _ _ _), Own.nil, (ef cG), bj, (ef da), gR, tv⟩
 refine nK cw H fun H=>wf (vN cw)<|ws<|dZ _ _ _<|sQ fun hZ gb=>iK H fun⟨bU, gd⟩H=>have bW:=iy aV gd;?_
 obtain ⟨bB, cJ⟩ := Mw.ad a2 bU bW
 obtain ⟨_, ⟨_, ge, gf, gh, _⟩, _, _⟩ := Hp.opGet cv 2 rfl a2 aV had36 cJ ab ae bU bW
 refine iK H fun h0 H=>iK H fun⟨cK, gi⟩H=>have cL:=iy aV gi;?_
 obtain ⟨cc, er⟩ := Mw.ad a2 cK cL
 refine aM [0, 0, 2, 0, 0, 16, 56, 120, 248, 0, 512, 2040, 4095, 8191, 16383] (fun D r w => (D 10 = false ∧ ∃ (G' : Gh), a4 ≤ G' ∧ ag [(0, slice A2 a1.length c3), (1, slice A7 a6.length c8), (6, slice ai aB ak), (7, slice U ax.length V), (8, int .i64 a), (9, pointer (some ⟨az, 0, none⟩)), (10, int .i64 (b.length : Int))] [] [(0, 83, slice ai aB ak), (1, 84, int .i64 (b.length : Int)), (2, 85, int .i64 (aj ((b.length : Int) - 1))), (3, 86, slice ai aB ak), (4, 87, int .i64 (b.length : Int)), (5, 88, int .i64 (aj ((b.length : Int) - 1))), (6, 89, pointer (some (bB.add (Int.toNat (aj ((b.length : Int) - 1)) * 4)))), (7, 90, pointer (some ((bB.add (Int.toNat (aj ((b.length : Int) - 1)) * 4)).add 0))), (8, 91, slice ((q.getD (Int.toNat (aj ((b.length : Int) - 1))) ae).1) ((b.getD (Int.toNat (aj ((b.length : Int) - 1))) ab).Slices).length ((q.getD (Int.toNat (aj ((b.length : Int) - 1))) ae).2.1)), (9, 92, agg [int .i64 ((a1.getD (Int.toNat a) aa).Node), int .i64 ((a1.getD (Int.toNat a) aa).Table), int .i64 ((a1.getD (Int.toNat a) aa).X), int .i64 ((a1.getD (Int.toNat a) aa).Y), int .i64 ((a1.getD (Int.toNat a) aa).H), string ((a1.getD (Int.toNat a) aa).Text), bool ((a1.getD (Int.toNat a) aa).Head), bool ((a1.getD (Int.toNat a) aa).Note)].toArray)] D r ∧ Hp G' (bx az [int .i64 ((a1.getD (Int.toNat a) aa).Node), int .i64 ((a1.getD (Int.toNat a) aa).Table), int .i64 ((a1.getD (Int.toNat a) aa).X), int .i64 ((a1.getD (Int.toNat a) aa).Y), int .i64 ((a1.getD (Int.toNat a) aa).H), string ((a1.getD (Int.toNat a) aa).Text), bool ((a1.getD (Int.toNat a) aa).Head), bool ((a1.getD (Int.toNat a) aa).Note)] 36 :: tk (slice U ax.length V) 8 36 :: bO bo aq ai [] (List.zip b q) [] ak 42 :: (List.flatMap ay (List.zip b q) ++ L)) w) ∨ (D 10 = true ∧ D 11 = false ∧ ∃ (O : Nat) (G' : Gh), a4 ≤ G' ∧ ag [(0, slice A2 a1.length c3), (1, slice A7 a6.length c8), (6, slice ai aB ak), (7, slice U ax.length V), (8, int .i64 a), (9, pointer (some ⟨az, 0, none⟩)), (10, int .i64 (b.length : Int))] [] [(0, 83, slice ai aB ak), (1, 84, int .i64 (b.length : Int)), (2, 85, int .i64 (aj ((b.length : Int) - 1))), (3, 86, slice ai aB ak), (4, 87, int .i64 (b.length : Int)), (5, 88, int .i64 (aj ((b.length : Int) - 1))), (6, 89, pointer (some (bB.add (Int.toNat (aj ((b.length : Int) - 1)) * 4)))), (7, 90, pointer (some ((bB.add (Int.toNat (aj ((b.length : Int) - 1)) * 4)).add 0))), (8, 91, slice ((q.getD (Int.toNat (aj ((b.length : Int) - 1))) ae).1) ((b.getD (Int.toNat (aj ((b.length : Int) - 1))) ab).Slices).length ((q.getD (Int.toNat (aj ((b.length : Int) - 1))) ae).2.1)), (9, 92, agg [int .i64 ((a1.getD (Int.toNat a) aa).Node), int .i64 ((a1.getD (Int.toNat a) aa).Table), int .i64 ((a1.getD (Int.toNat a) aa).X), int .i64 ((a1.getD (Int.toNat a) aa).Y), int .i64 ((a1.getD (Int.toNat a) aa).H), string ((a1.getD (Int.toNat a) aa).Text), bool ((a1.getD (Int.toNat a) aa).Head), bool ((a1.getD (Int.toNat a) aa).Note)].toArray), (10, 93, slice (some ⟨O, 0, none⟩) 1 1)] D r ∧ Hp G' (bx O [int .i64 ((a1.getD (Int.toNat a) aa).Node), int .i64 ((a1.getD (Int.toNat a) aa).Table), int .i64 ((a1.getD (Int.toNat a) aa).X), int .i64 ((a1.getD (Int.toNat a) aa).Y), int .i64 ((a1.getD (Int.toNat a) aa).H), string ((a1.getD (Int.toNat a) aa).Text), bool ((a1.getD (Int.toNat a) aa).Head), bool ((a1.getD (Int.toNat a) aa).Note)] 36 :: bx az [int .i64 ((a1.getD (Int.toNat a) aa).Node), int .i64 ((a1.getD (Int.toNat a) aa).Table), int .i64 ((a1.getD (Int.toNat a) aa).X), int .i64 ((a1.getD (Int.toNat a) aa).Y), int .i64 ((a1.getD (Int.toNat a) aa).H), string ((a1.getD (Int.toNat a) aa).Text), bool ((a1.getD (Int.toNat a) aa).Head), bool ((a1.getD (Int.toNat a) aa).Note)] 36 :: tk (slice U ax.length V) 8 36 :: bO bo aq ai [] (List.zip b q) [] ak 42 :: (List.flatMap ay (List.zip b q) ++ L)) w) ∨ (D 11 = true ∧ D 14 = false ∧ ∃ (O : Nat) (au : Option Addr) (av : Nat) (G' : Gh), a4 ≤ G' ∧ (((b.getD (Int.toNat (aj ((b.length : Int) - 1))) ab).Slices) ++ [(a1.getD (Int.toNat a) aa)]).length ≤ av ∧ Dat ah G' au (((b.getD (Int.toNat (aj ((b.length : Int) - 1))) ab).Slices) ++ [(a1.getD (Int.toNat a) aa)]) ∧ Own au av ∧ ag [(0, slice A2 a1.length c3), (1, slice A7 a6.length c8), (6, slice ai aB ak), (7, slice U ax.length V), (8, int .i64 a), (9, pointer (some ⟨az, 0, none⟩)), (10, int .i64 (b.length : Int))] [] [(0, 83, slice ai aB ak), (1, 84, int .i64 (b.length : Int)), (2, 85, int .i64 (aj ((b.length : Int) - 1))), (3, 86, slice ai aB ak), (4, 87, int .i64 (b.length : Int)), (5, 88, int .i64 (aj ((b.length : Int) - 1))), (6, 89, pointer (some (bB.add (Int.toNat (aj ((b.length : Int) - 1)) * 4)))), (7, 90, pointer (some ((bB.add (Int.toNat (aj ((b.length : Int) - 1)) * 4)).add 0))), (8, 91, slice ((q.getD (Int.toNat (aj ((b.length : Int) - 1))) ae).1) ((b.getD (Int.toNat (aj ((b.length : Int) - 1))) ab).Slices).length ((q.getD (Int.toNat (aj ((b.length : Int) - 1))) ae).2.1)), (9, 92, agg [int .i64 ((a1.getD (Int.toNat a) aa).Node), int .i64 ((a1.getD (Int.toNat a) aa).Table), int .i64 ((a1.getD (Int.toNat a) aa).X), int .i64 ((a1.getD (Int.toNat a) aa).Y), int .i64 ((a1.getD (Int.toNat a) aa).H), string ((a1.getD (Int.toNat a) aa).Text), bool ((a1.getD (Int.toNat a) aa).Head), bool ((a1.getD (Int.toNat a) aa).Note)].toArray), (10, 93, slice (some ⟨O, 0, none⟩) 1 1), (11, 94, slice au (((b.getD (Int.toNat (aj ((b.length : Int) - 1))) ab).Slices) ++ [(a1.getD (Int.toNat a) aa)]).length av), (12, 95, pointer (some (cc.add (Int.toNat (aj ((b.length : Int) - 1)) * 4)))), (13, 96, pointer (some ((cc.add (Int.toNat (aj ((b.length : Int) - 1)) * 4)).add 0)))] D r ∧ Hp G' (tk (slice au (((b.getD (Int.toNat (aj ((b.length : Int) - 1))) ab).Slices) ++ [(a1.getD (Int.toNat a) aa)]).length av) 8 36 :: bx O [int .i64 ((a1.getD (Int.toNat a) aa).Node), int .i64 ((a1.getD (Int.toNat a) aa).Table), int .i64 ((a1.getD (Int.toNat a) aa).X), int .i64 ((a1.getD (Int.toNat a) aa).Y), int .i64 ((a1.getD (Int.toNat a) aa).H), string ((a1.getD (Int.toNat a) aa).Text), bool ((a1.getD (Int.toNat a) aa).Head), bool ((a1.getD (Int.toNat a) aa).Note)] 36 :: bx az [int .i64 ((a1.getD (Int.toNat a) aa).Node), int .i64 ((a1.getD (Int.toNat a) aa).Table), int .i64 ((a1.getD (Int.toNat a) aa).X), int .i64 ((a1.getD (Int.toNat a) aa).Y), int .i64 ((a1.getD (Int.toNat a) aa).H), string ((a1.getD (Int.toNat a) aa).Text), bool ((a1.getD (Int.toNat a) aa).Head), bool ((a1.getD (Int.toNat a) aa).Note)] 36 :: tk (slice U ax.length V) 8 36 :: bO bo aq ai [] (List.zip b q) [] ak 42 :: (k9 ay (List.zip b q) (Int.toNat (aj ((b.length : Int) - 1))) [] [tk (slice ((q.getD (Int.toNat (aj ((b.length : Int) - 1))) ae).2.2.1) ((b.getD (Int.toNat (aj ((b.length : Int) - 1))) ab).Notes).length ((q.getD (Int.toNat (aj ((b.length : Int) - 1))) ae).2.2.2)) 8 36] ++ L)) w) ∨ (D 14 = true ∧ ∃ (O : Nat) (au : Option Addr) (av : Nat) (G' : Gh), a4 ≤ G' ∧ (((b.getD (Int.toNat (aj ((b.length : Int) - 1))) ab).Slices) ++ [(a1.getD (Int.toNat a) aa)]).length ≤ av ∧ Dat ah G' au (((b.getD (Int.toNat (aj ((b.length : Int) - 1))) ab).Slices) ++ [(a1.getD (Int.toNat a) aa)]) ∧ Own au av ∧ ag [(0, slice A2 a1.length c3), (1, slice A7 a6.length c8), (6, slice ai aB ak), (7, slice U ax.length V), (8, int .i64 a), (9, pointer (some ⟨az, 0, none⟩)), (10, int .i64 (b.length : Int))] [] [(0, 83, slice ai aB ak), (1, 84, int .i64 (b.length : Int)), (2, 85, int .i64 (aj ((b.length : Int) - 1))), (3, 86, slice ai aB ak), (4, 87, int .i64 (b.length : Int)), (5, 88, int .i64 (aj ((b.length : Int) - 1))), (6, 89, pointer (some (bB.add (Int.toNat (aj ((b.length : Int) - 1)) * 4)))), (7, 90, pointer (some ((bB.add (Int.toNat (aj ((b.length : Int) - 1)) * 4)).add 0))), (8, 91, slice ((q.getD (Int.toNat (aj ((b.length : Int) - 1))) ae).1) ((b.getD (Int.toNat (aj ((b.length : Int) - 1))) ab).Slices).length ((q.getD (Int.toNat (aj ((b.length : Int) - 1))) ae).2.1)), (9, 92, agg [int .i64 ((a1.getD (Int.toNat a) aa).Node), int .i64 ((a1.getD (Int.toNat a) aa).Table), int .i64 ((a1.getD (Int.toNat a) aa).X), int .i64 ((a1.getD (Int.toNat a) aa).Y), int .i64 ((a1.getD (Int.toNat a) aa).H), string ((a1.getD (Int.toNat a) aa).Text), bool ((a1.getD (Int.toNat a) aa).Head), bool ((a1.getD (Int.toNat a) aa).Note)].toArray), (10, 93, slice (some ⟨O, 0, none⟩) 1 1), (11, 94, slice au (((b.getD (Int.toNat (aj ((b.length : Int) - 1))) ab).Slices) ++ [(a1.getD (Int.toNat a) aa)]).length av), (12, 95, pointer (some (cc.add (Int.toNat (aj ((b.length : Int) - 1)) * 4)))), (13, 96, pointer (some ((cc.add (Int.toNat (aj ((b.length : Int) - 1)) * 4)).add 0)))] D r ∧ Hp G' (bx O [int .i64 ((a1.getD (Int.toNat a) aa).Node), int .i64 ((a1.getD (Int.toNat a) aa).Table), int .i64 ((a1.getD (Int.toNat a) aa).X), int .i64 ((a1.getD (Int.toNat a) aa).Y), int .i64 ((a1.getD (Int.toNat a) aa).H), string ((a1.getD (Int.toNat a) aa).Text), bool ((a1.getD (Int.toNat a) aa).Head), bool ((a1.getD (Int.toNat a) aa).Note)] 36 :: bx az [int .i64 ((a1.getD (Int.toNat a) aa).Node), int .i64 ((a1.getD (Int.toNat a) aa).Table), int .i64 ((a1.getD (Int.toNat a) aa).X), int .i64 ((a1.getD (Int.toNat a) aa).Y), int .i64 ((a1.getD (Int.toNat a) aa).H), string ((a1.getD (Int.toNat a) aa).Text), bool ((a1.getD (Int.toNat a) aa).Head), bool ((a1.getD (Int.toNat a) aa).Note)] 36 :: tk (slice U ax.length V) 8 36 :: bO G' aq ai [] (List.zip (List.set b (Int.toNat (aj ((b.length : Int) - 1))) (⟨((b.getD (Int.toNat (aj ((b.length : Int) - 1))) ab).Slices) ++ [(a1.getD (Int.toNat a) aa)], (b.getD (Int.toNat (aj ((b.length : Int) - 1))) ab).Notes, (b.getD (Int.toNat (aj ((b.length : Int) - 1))) ab).End, (b.getD (Int.toNat (aj ((b.length : Int) - 1))) ab).Kept⟩ : ao)) (List.set q (Int.toNat (aj ((b.length : Int) - 1))) (au, av, (q.getD (Int.toNat (aj ((b.length : Int) - 1))) ae).2.2.1, (q.getD (Int.toNat (aj ((b.length : Int) - 1))) ae).2.2.2))) [] ak 42 :: (List.flatMap ay (List.zip (List.set b (Int.toNat (aj ((b.length : Int) - 1))) (⟨((b.getD (Int.toNat (aj ((b.length : Int) - 1))) ab).Slices) ++ [(a1.getD (Int.toNat a) aa)], (b.getD (Int.toNat (aj ((b.length : Int) - 1))) ab).Notes, (b.getD (Int.toNat (aj ((b.length : Int) - 1))) ab).End, (b.getD (Int.toNat (aj ((b.length : Int) - 1))) ab).Kept⟩ : ao)) (List.set q (Int.toNat (aj ((b.length : Int) - 1))) (au, av, (q.getD (Int.toNat (aj ((b.length : Int) - 1))) ae).2.2.1, (q.getD (Int.toNat (aj ((b.length : Int) - 1))) ae).2.2.2))) ++ L)) w)) dJ z z ?_ ?_ ?_
 exact (.inl ⟨z, _, Gh.le_refl _, ag.start ⟨z, z, z, z, z, z, z, tv⟩ trivial, cv.drew⟩)
 refine ⟨?_, ?_, ?_, ?_, ?_, ?_, ?_, ?_, ?_, ?_, ?_, ?_, ?_, ?_, ?_, tv⟩
 rintro D r bi (⟨d, S, s, m, E⟩ | ⟨c, d, O, S, s, m, E⟩ | ⟨c, d, O, au, av, S, s, aO, aQ, aS, m, E⟩ | ⟨c, O, au, av, S, s, aO, aQ, aS, m, E⟩) g i k
 obtain ⟨p, rfl⟩ := Has.ex (cC (m.ins.get 2 rfl) cN)
 exact mv z<|nl ⟨z, (.inl ⟨d, _, s, (ag.step m g z z z z), E⟩)⟩
 obtain ⟨p, rfl⟩ := Has.ex (cC (m.ins.get 2 rfl) cN)
 exact mv z<|nl ⟨z, (.inr (.inl ⟨c, d, O, _, s, (ag.step m g z z z z), E⟩))⟩
 obtain ⟨p, rfl⟩ := Has.ex (cC (m.ins.get 2 rfl) cN)
 exact mv z<|nl ⟨z, (.inr (.inr (.inl ⟨c, d, O, au, av, _, s, aO, aQ, aS, (ag.step m g z z z z), E⟩)))⟩
 cases (k 14 rfl).symm.trans c
 rintro D r bi (⟨d, S, s, m, E⟩ | ⟨c, d, O, S, s, m, E⟩ | ⟨c, d, O, au, av, S, s, aO, aQ, aS, m, E⟩ | ⟨c, O, au, av, S, s, aO, aQ, aS, m, E⟩) g i k
 obtain ⟨p, rfl⟩ := Has.ex (cC (m.ins.get 6 rfl) cN)
 exact mv z<|nl ⟨z, (.inl ⟨d, _, s, (ag.step m g z z z z), E⟩)⟩
 obtain ⟨p, rfl⟩ := Has.ex (cC (m.ins.get 6 rfl) cN)
 exact mv z<|nl ⟨z, (.inr (.inl ⟨c, d, O, _, s, (ag.step m g z z z z), E⟩))⟩
 obtain ⟨p, rfl⟩ := Has.ex (cC (m.ins.get 6 rfl) cN)
 exact mv z<|nl ⟨z, (.inr (.inr (.inl ⟨c, d, O, au, av, _, s, aO, aQ, aS, (ag.step m g z z z z), E⟩)))⟩
 cases (k 14 rfl).symm.trans c
 rintro D r bi (⟨d, S, s, m, E⟩ | ⟨c, d, O, S, s, m, E⟩ | ⟨c, d, O, au, av, S, s, aO, aQ, aS, m, E⟩ | ⟨c, O, au, av, S, s, aO, aQ, aS, m, E⟩) g i k
 obtain ⟨p, rfl⟩ := Has.ex (cC (m.get 1 rfl (i 1 rfl)) cN)
 exact b6 z z<|nl ⟨z, (.inl ⟨d, _, s, (ag.step m g z z z z), E⟩)⟩
 obtain ⟨p, rfl⟩ := Has.ex (cC (m.get 1 rfl (i 1 rfl)) cN)
 exact b6 z z<|nl ⟨z, (.inr (.inl ⟨c, d, O, _, s, (ag.step m g z z z z), E⟩))⟩
 obtain ⟨p, rfl⟩ := Has.ex (cC (m.get 1 rfl (i 1 rfl)) cN)
 exact b6 z z<|nl ⟨z, (.inr (.inr (.inl ⟨c, d, O, au, av, _, s, aO, aQ, aS, (ag.step m g z z z z), E⟩)))⟩
 cases (k 14 rfl).symm.trans c
 rintro D r bi (⟨d, S, s, m, E⟩ | ⟨c, d, O, S, s, m, E⟩ | ⟨c, d, O, au, av, S, s, aO, aQ, aS, m, E⟩ | ⟨c, O, au, av, S, s, aO, aQ, aS, m, E⟩) g i k
 obtain ⟨p, rfl⟩ := Has.ex (cC (m.ins.get 2 rfl) cN)
 exact mv z<|nl ⟨z, (.inl ⟨d, _, s, (ag.step m g z z z z), E⟩)⟩
 obtain ⟨p, rfl⟩ := Has.ex (cC (m.ins.get 2 rfl) cN)
 exact mv z<|nl ⟨z, (.inr (.inl ⟨c, d, O, _, s, (ag.step m g z z z z), E⟩))⟩
 cases (k 11 rfl).symm.trans c
 cases (k 14 rfl).symm.trans c
 rintro D r bi (⟨d, S, s, m, E⟩ | ⟨c, d, O, S, s, m, E⟩ | ⟨c, d, O, au, av, S, s, aO, aQ, aS, m, E⟩ | ⟨c, O, au, av, S, s, aO, aQ, aS, m, E⟩) g i k
 obtain ⟨p, rfl⟩ := Has.ex (cC (m.ins.get 6 rfl) cN)
 exact mv z<|nl ⟨z, (.inl ⟨d, _, s, (ag.step m g z z z z), E⟩)⟩
 obtain ⟨p, rfl⟩ := Has.ex (cC (m.ins.get 6 rfl) cN)
 exact mv z<|nl ⟨z, (.inr (.inl ⟨c, d, O, _, s, (ag.step m g z z z z), E⟩))⟩
 cases (k 11 rfl).symm.trans c
 cases (k 14 rfl).symm.trans c
 rintro D r bi (⟨d, S, s, m, E⟩ | ⟨c, d, O, S, s, m, E⟩ | ⟨c, d, O, au, av, S, s, aO, aQ, aS, m, E⟩ | ⟨c, O, au, av, S, s, aO, aQ, aS, m, E⟩) g i k
 obtain ⟨p, rfl⟩ := Has.ex (cC (m.get 4 rfl (i 4 rfl)) cN)
 exact b6 z z<|nl ⟨z, (.inl ⟨d, _, s, (ag.step m g z z z z), E⟩)⟩
 obtain ⟨p, rfl⟩ := Has.ex (cC (m.get 4 rfl (i 4 rfl)) cN)
 exact b6 z z<|nl ⟨z, (.inr (.inl ⟨c, d, O, _, s, (ag.step m g z z z z), E⟩))⟩
 cases (k 11 rfl).symm.trans c
 cases (k 14 rfl).symm.trans c
 rintro D r bi (⟨d, S, s, m, E⟩ | ⟨c, d, O, S, s, m, E⟩ | ⟨c, d, O, au, av, S, s, aO, aQ, aS, m, E⟩ | ⟨c, O, au, av, S, s, aO, aQ, aS, m, E⟩) g i k
 obtain ⟨p, rfl⟩ := Has.ex (cC (m.get 3 rfl (i 3 rfl)) (cC (m.get 5 rfl (i 5 rfl)) cN))
 exact bL iu z cJ z bU bW<|nl ⟨z, (.inl ⟨d, _, s, (ag.step m g z z z z), E⟩)⟩
 obtain ⟨p, rfl⟩ := Has.ex (cC (m.get 3 rfl (i 3 rfl)) (cC (m.get 5 rfl (i 5 rfl)) cN))
 exact bL iu z cJ z bU bW<|nl ⟨z, (.inr (.inl ⟨c, d, O, _, s, (ag.step m g z z z z), E⟩))⟩
 cases (k 11 rfl).symm.trans c
 cases (k 14 rfl).symm.trans c
 rintro D r bi (⟨d, S, s, m, E⟩ | ⟨c, d, O, S, s, m, E⟩ | ⟨c, d, O, au, av, S, s, aO, aQ, aS, m, E⟩ | ⟨c, O, au, av, S, s, aO, aQ, aS, m, E⟩) g i k
 obtain ⟨p, rfl⟩ := Has.ex (cC (m.get 6 rfl (i 6 rfl)) cN)
 exact eS jT z z<|nl ⟨z, (.inl ⟨d, _, s, (ag.step m g z z z z), E⟩)⟩
 obtain ⟨p, rfl⟩ := Has.ex (cC (m.get 6 rfl (i 6 rfl)) cN)
 exact eS jT z z<|nl ⟨z, (.inr (.inl ⟨c, d, O, _, s, (ag.step m g z z z z), E⟩))⟩
 cases (k 11 rfl).symm.trans c
 cases (k 14 rfl).symm.trans c
 rintro D r bi (⟨d, S, s, m, E⟩ | ⟨c, d, O, S, s, m, E⟩ | ⟨c, d, O, au, av, S, s, aO, aQ, aS, m, E⟩ | ⟨c, O, au, av, S, s, aO, aQ, aS, m, E⟩) g i k
 obtain ⟨p, rfl⟩ := Has.ex (cC (m.get 7 rfl (i 7 rfl)) cN)
 obtain ⟨_, dE, _, dF⟩ := Hp.opGet E 2 rfl a2 aV had36 cJ ab ae bU bW
 obtain ⟨rfl, _⟩ := dE
 exact eg (v := slice ((q.getD (Int.toNat (aj ((b.length : Int) - 1))) ae).1) ((b.getD (Int.toNat (aj ((b.length : Int) - 1))) ab).Slices).length ((q.getD (Int.toNat (aj ((b.length : Int) - 1))) ae).2.1)) cB z (dF 0 _ z)<|nl ⟨z, (.inl ⟨d, _, s, (ag.step m g z z z z), E⟩)⟩
 obtain ⟨p, rfl⟩ := Has.ex (cC (m.get 7 rfl (i 7 rfl)) cN)
 obtain ⟨_, dE, _, dF⟩ := Hp.opGet E 3 rfl a2 aV had36 cJ ab ae bU bW
 obtain ⟨rfl, _⟩ := dE
 exact eg (v := slice ((q.getD (Int.toNat (aj ((b.length : Int) - 1))) ae).1) ((b.getD (Int.toNat (aj ((b.length : Int) - 1))) ab).Slices).length ((q.getD (Int.toNat (aj ((b.length : Int) - 1))) ae).2.1)) cB z (dF 0 _ z)<|nl ⟨z, (.inr (.inl ⟨c, d, O, _, s, (ag.step m g z z z z), E⟩))⟩
 cases (k 11 rfl).symm.trans c
 cases (k 14 rfl).symm.trans c
 rintro D r bi (⟨d, S, s, m, E⟩ | ⟨c, d, O, S, s, m, E⟩ | ⟨c, d, O, au, av, S, s, aO, aQ, aS, m, E⟩ | ⟨c, O, au, av, S, s, aO, aQ, aS, m, E⟩) g i k
 obtain ⟨p, rfl⟩ := Has.ex (cC (m.ins.get 5 rfl) cN)
 exact gg E 0 dx z z z z<|nl ⟨z, (.inl ⟨d, _, s, (ag.step m g z z z z), E⟩)⟩
 cases (k 10 rfl).symm.trans c
 cases (k 11 rfl).symm.trans c
 cases (k 14 rfl).symm.trans c
 rintro D r bi (⟨d, S, s, m, E⟩ | ⟨c, d, O, S, s, m, E⟩ | ⟨c, d, O, au, av, S, s, aO, aQ, aS, m, E⟩ | ⟨c, O, au, av, S, s, aO, aQ, aS, m, E⟩) g i k
 obtain ⟨p, rfl⟩ := Has.ex (cC (m.get 9 rfl (i 9 rfl)) cN)
 refine eh E (vs := [(0, agg [int .i64 ((a1.getD (Int.toNat a) aa).Node), int .i64 ((a1.getD (Int.toNat a) aa).Table), int .i64 ((a1.getD (Int.toNat a) aa).X), int .i64 ((a1.getD (Int.toNat a) aa).Y), int .i64 ((a1.getD (Int.toNat a) aa).H), string ((a1.getD (Int.toNat a) aa).Text), bool ((a1.getD (Int.toNat a) aa).Head), bool ((a1.getD (Int.toNat a) aa).Note)].toArray)]) (cs := [int .i64 ((a1.getD (Int.toNat a) aa).Node), int .i64 ((a1.getD (Int.toNat a) aa).Table), int .i64 ((a1.getD (Int.toNat a) aa).X), int .i64 ((a1.getD (Int.toNat a) aa).Y), int .i64 ((a1.getD (Int.toNat a) aa).H), string ((a1.getD (Int.toNat a) aa).Text), bool ((a1.getD (Int.toNat a) aa).Head), bool ((a1.getD (Int.toNat a) aa).Note)]) cA cP rfl (by decide) rfl (by kernel_rfl) (fun O h1 gj => ?_)
 exact nl ⟨z, (.inr (.inl ⟨z, (k 11 z), O, _, s, (ag.step (ag.more (new := [(10, 93, slice (some ⟨O, 0, none⟩) 1 1)]) m (List.forall_mem_cons.2 ⟨g, (fun _ h => nomatch h)⟩)) g z z z z), gj⟩))⟩
 cases g.symm.trans c
 cases (k 11 rfl).symm.trans c
 cases (k 14 rfl).symm.trans c
 rintro D r bi (⟨d, S, s, m, E⟩ | ⟨c, d, O, S, s, m, E⟩ | ⟨c, d, O, au, av, S, s, aO, aQ, aS, m, E⟩ | ⟨c, O, au, av, S, s, aO, aQ, aS, m, E⟩) g i k
 cases (i 10 rfl).symm.trans d
 obtain ⟨p, rfl⟩ := Has.ex (cC (m.get 8 rfl (i 8 rfl)) (cC (m.get 10 rfl (i 10 rfl)) cN))
 refine have es:=Hp.segTake (K := [bx O [int .i64 ((a1.getD (Int.toNat a) aa).Node), int .i64 ((a1.getD (Int.toNat a) aa).Table), int .i64 ((a1.getD (Int.toNat a) aa).X), int .i64 ((a1.getD (Int.toNat a) aa).Y), int .i64 ((a1.getD (Int.toNat a) aa).H), string ((a1.getD (Int.toNat a) aa).Text), bool ((a1.getD (Int.toNat a) aa).Head), bool ((a1.getD (Int.toNat a) aa).Note)] 36, bx az [int .i64 ((a1.getD (Int.toNat a) aa).Node), int .i64 ((a1.getD (Int.toNat a) aa).Table), int .i64 ((a1.getD (Int.toNat a) aa).X), int .i64 ((a1.getD (Int.toNat a) aa).Y), int .i64 ((a1.getD (Int.toNat a) aa).H), string ((a1.getD (Int.toNat a) aa).Text), bool ((a1.getD (Int.toNat a) aa).Head), bool ((a1.getD (Int.toNat a) aa).Note)] 36, tk (slice U ax.length V) 8 36, bO bo aq ai [] (List.zip b q) [] ak 42]) (tf := ay) (A := []) (B := [tk (slice ((q.getD (Int.toNat (aj ((b.length : Int) - 1))) ae).2.2.1) ((b.getD (Int.toNat (aj ((b.length : Int) - 1))) ab).Notes).length ((q.getD (Int.toNat (aj ((b.length : Int) - 1))) ae).2.2.2)) 8 36]) (it := tk (slice ((q.getD (Int.toNat (aj ((b.length : Int) - 1))) ae).1) ((b.getD (Int.toNat (aj ((b.length : Int) - 1))) ab).Slices).length ((q.getD (Int.toNat (aj ((b.length : Int) - 1))) ae).2.1)) 8 36) E (gH aV had36 ab ae (ez bU bW)) z;?_
 refine fx (xs := (b.getD (Int.toNat (aj ((b.length : Int) - 1))) ab).Slices) (ys := [(a1.getD (Int.toNat a) aa)]) ah es 0 cA cP rfl rfl rfl rfl gh ge (Dat.mono s (Dat.mono bt gf)) (dU es 1 dA rfl rfl) ⟨[int .i64 ((a1.getD (Int.toNat a) aa).Node), int .i64 ((a1.getD (Int.toNat a) aa).Table), int .i64 ((a1.getD (Int.toNat a) aa).X), int .i64 ((a1.getD (Int.toNat a) aa).Y), int .i64 ((a1.getD (Int.toNat a) aa).H), string ((a1.getD (Int.toNat a) aa).Text), bool ((a1.getD (Int.toNat a) aa).Head), bool ((a1.getD (Int.toNat a) aa).Note)], _, rfl, (aH (x := (a1.getD (Int.toNat a) aa))), rfl⟩ rfl (by simp only [List.length_cons, List.length_nil]; omega) (by simp only [List.length_cons, List.length_nil]; omega) (fun au av h2 h3 gk aS aO aQ gl => ?_)
 exact nl ⟨z, (.inr (.inr (.inl ⟨z, (k 14 z), O, au, av, _, (gT s gk), aO, aQ, aS, (ag.step (ag.more (new := [(11, 94, slice au (((b.getD (Int.toNat (aj ((b.length : Int) - 1))) ab).Slices) ++ [(a1.getD (Int.toNat a) aa)]).length av), (12, 95, pointer (some (cc.add (Int.toNat (aj ((b.length : Int) - 1)) * 4)))), (13, 96, pointer (some ((cc.add (Int.toNat (aj ((b.length : Int) - 1)) * 4)).add 0)))]) m (List.forall_mem_cons.2 ⟨g, (List.forall_mem_cons.2 ⟨k 12 z, (List.forall_mem_cons.2 ⟨k 13 z, (fun _ h => nomatch h)⟩)⟩)⟩)) g z z z z), gl⟩)))⟩
 cases g.symm.trans c
 cases (k 14 rfl).symm.trans c
 rintro D r bi (⟨d, S, s, m, E⟩ | ⟨c, d, O, S, s, m, E⟩ | ⟨c, d, O, au, av, S, s, aO, aQ, aS, m, E⟩ | ⟨c, O, au, av, S, s, aO, aQ, aS, m, E⟩) g i k
 cases (i 10 rfl).symm.trans d
 cases (i 11 rfl).symm.trans d
 obtain ⟨p, rfl⟩ := Has.ex (cC (m.get 0 rfl (i 0 rfl)) (cC (m.get 2 rfl (i 2 rfl)) cN))
 exact bL iu z er z cK cL<|nl ⟨z, (.inr (.inr (.inl ⟨c, d, O, au, av, _, s, aO, aQ, aS, (ag.step m g z z z z), E⟩)))⟩
 cases (k 14 rfl).symm.trans c
 rintro D r bi (⟨d, S, s, m, E⟩ | ⟨c, d, O, S, s, m, E⟩ | ⟨c, d, O, au, av, S, s, aO, aQ, aS, m, E⟩ | ⟨c, O, au, av, S, s, aO, aQ, aS, m, E⟩) g i k
 cases (i 10 rfl).symm.trans d
 cases (i 11 rfl).symm.trans d
 obtain ⟨p, rfl⟩ := Has.ex (cC (m.get 12 rfl (i 12 rfl)) cN)
 exact eS jT z z<|nl ⟨z, (.inr (.inr (.inl ⟨c, d, O, au, av, _, s, aO, aQ, aS, (ag.step m g z z z z), E⟩)))⟩
 cases (k 14 rfl).symm.trans c
 rintro D r bi (⟨d, S, s, m, E⟩ | ⟨c, d, O, S, s, m, E⟩ | ⟨c, d, O, au, av, S, s, aO, aQ, aS, m, E⟩ | ⟨c, O, au, av, S, s, aO, aQ, aS, m, E⟩) g i k
 cases (i 10 rfl).symm.trans d
 cases (i 11 rfl).symm.trans d
 obtain ⟨p, rfl⟩ := Has.ex (cC (m.get 11 rfl (i 11 rfl)) (cC (m.get 13 rfl (i 13 rfl)) cN))
 refine kp (kd := aq) E 4 (v := slice au (((b.getD (Int.toNat (aj ((b.length : Int) - 1))) ab).Slices) ++ [(a1.getD (Int.toNat a) aa)]).length av) (news := [slice au (((b.getD (Int.toNat (aj ((b.length : Int) - 1))) ab).Slices) ++ [(a1.getD (Int.toNat a) aa)]).length av]) (ab, ae) ((⟨((b.getD (Int.toNat (aj ((b.length : Int) - 1))) ab).Slices) ++ [(a1.getD (Int.toNat a) aa)], (b.getD (Int.toNat (aj ((b.length : Int) - 1))) ab).Notes, (b.getD (Int.toNat (aj ((b.length : Int) - 1))) ab).End, (b.getD (Int.toNat (aj ((b.length : Int) - 1))) ab).Kept⟩ : ao), (au, av, (q.getD (Int.toNat (aj ((b.length : Int) - 1))) ae).2.2.1, (q.getD (Int.toNat (aj ((b.length : Int) - 1))) ae).2.2.2)) cB rfl a2 (eE aV had36) er cK cL rfl rfl rfl rfl rfl rfl (Nat.le_of_ble_eq_true rfl) (gT bt s) (fun _ ho => by rw [(gc aV had36 ab ae (ez cK cL))] at ho; obtain ⟨rfl, l0, l1, l2, l3, l4, l5⟩ := ho; exact ⟨rfl, aO, aQ, aS, l3, (Dat.mono (gT bt s) l4), l5⟩) (fun h4 eu => ?_)
 rw [← d9] at eu
 refine have ev:=Hp.segPut (K := [bx O [int .i64 ((a1.getD (Int.toNat a) aa).Node), int .i64 ((a1.getD (Int.toNat a) aa).Table), int .i64 ((a1.getD (Int.toNat a) aa).X), int .i64 ((a1.getD (Int.toNat a) aa).Y), int .i64 ((a1.getD (Int.toNat a) aa).H), string ((a1.getD (Int.toNat a) aa).Text), bool ((a1.getD (Int.toNat a) aa).Head), bool ((a1.getD (Int.toNat a) aa).Note)] 36, bx az [int .i64 ((a1.getD (Int.toNat a) aa).Node), int .i64 ((a1.getD (Int.toNat a) aa).Table), int .i64 ((a1.getD (Int.toNat a) aa).X), int .i64 ((a1.getD (Int.toNat a) aa).Y), int .i64 ((a1.getD (Int.toNat a) aa).H), string ((a1.getD (Int.toNat a) aa).Text), bool ((a1.getD (Int.toNat a) aa).Head), bool ((a1.getD (Int.toNat a) aa).Note)] 36, tk (slice U ax.length V) 8 36, bO S aq ai [] (List.zip (List.set b (Int.toNat (aj ((b.length : Int) - 1))) (⟨((b.getD (Int.toNat (aj ((b.length : Int) - 1))) ab).Slices) ++ [(a1.getD (Int.toNat a) aa)], (b.getD (Int.toNat (aj ((b.length : Int) - 1))) ab).Notes, (b.getD (Int.toNat (aj ((b.length : Int) - 1))) ab).End, (b.getD (Int.toNat (aj ((b.length : Int) - 1))) ab).Kept⟩ : ao)) (List.set q (Int.toNat (aj ((b.length : Int) - 1))) (au, av, (q.getD (Int.toNat (aj ((b.length : Int) - 1))) ae).2.2.1, (q.getD (Int.toNat (aj ((b.length : Int) - 1))) ae).2.2.2))) [] ak 42]) (tf := ay) (x' := ((⟨((b.getD (Int.toNat (aj ((b.length : Int) - 1))) ab).Slices) ++ [(a1.getD (Int.toNat a) aa)], (b.getD (Int.toNat (aj ((b.length : Int) - 1))) ab).Notes, (b.getD (Int.toNat (aj ((b.length : Int) - 1))) ab).End, (b.getD (Int.toNat (aj ((b.length : Int) - 1))) ab).Kept⟩ : ao), (au, av, (q.getD (Int.toNat (aj ((b.length : Int) - 1))) ae).2.2.1, (q.getD (Int.toNat (aj ((b.length : Int) - 1))) ae).2.2.2))) (A := []) (B := [tk (slice ((q.getD (Int.toNat (aj ((b.length : Int) - 1))) ae).2.2.1) ((b.getD (Int.toNat (aj ((b.length : Int) - 1))) ab).Notes).length ((q.getD (Int.toNat (aj ((b.length : Int) - 1))) ae).2.2.2)) 8 36]) eu (gH aV had36 ab ae (ez cK cL)) z;?_
 rw [← d9] at ev
 exact nl ⟨z, (.inr (.inr (.inr ⟨z, O, au, av, _, s, aO, aQ, aS, (ag.stepN m z z), ev⟩)))⟩
 cases g.symm.trans c
 intro D r bi bf hR
 rcases hR with ⟨d, S, s, m, E⟩ | ⟨c, d, O, S, s, m, E⟩ | ⟨c, d, O, au, av, S, s, aO, aQ, aS, m, E⟩ | ⟨c, O, au, av, S, s, aO, aQ, aS, m, E⟩
 cases (bf 10 (Nat.le_of_ble_eq_true rfl)).symm.trans d
 cases (bf 11 (Nat.le_of_ble_eq_true rfl)).symm.trans d
 cases (bf 14 (Nat.le_of_ble_eq_true rfl)).symm.trans d
 obtain ⟨p, rfl⟩ := Has.ex (cC (m.ins.get 0 rfl) (cC (m.ins.get 1 rfl) (cC (m.ins.get 2 rfl) (cC (m.ins.get 3 rfl) (cC (m.ins.get 4 rfl) (cC (m.ins.get 5 rfl) (cC (m.ins.get 6 rfl) cN)))))))
 refine bK H fun aX db H=>?_
 replace db := Option.some.inj db
 obtain ⟨bl, ha694⟩ : ∃ x, List.set q (Int.toNat (aj ((b.length : Int) - 1))) (au, av, (q.getD (Int.toNat (aj ((b.length : Int) - 1))) ae).2.2.1, (q.getD (Int.toNat (aj ((b.length : Int) - 1))) ae).2.2.2) = x := ⟨_, rfl⟩
 have bX : aX.length = aB := db ▸ (ef aV)
 have cM : bl.length = aB := ha694 ▸ (ef had36)
 refine have ew:=E;?_
 rw [db, ha694] at ew
 refine gb _ _ _<|sQ fun h5 gm=>iK H fun⟨dG, gn⟩H=>have dH:=iy bX gn;?_
 obtain ⟨dc, ey⟩ := Mw.ad a2 dG dH
 refine iK H fun⟨cO, go⟩H=>have cQ:=iy bX go;?_
 obtain ⟨dd, eA⟩ := Mw.ad a2 cO cQ
 refine aM [0, 0, 2, 0, 0, 16, 56, 120, 248, 0, 512, 0, 2048, 7680, 16376, 32767, 65535, 131071] (fun D r w => (D 17 = false ∧ ∃ (G' : Gh), S ≤ G' ∧ ag [(0, slice A2 a1.length c3), (1, slice A7 a6.length c8), (6, slice ai aB ak), (7, slice U ax.length V), (8, int .i64 a), (9, pointer (some ⟨az, 0, none⟩)), (10, int .i64 (b.length : Int))] [] [(0, 97, slice ai aB ak), (1, 98, int .i64 (b.length : Int)), (2, 99, int .i64 (aj ((b.length : Int) - 1))), (3, 100, slice ai aB ak), (4, 101, int .i64 (b.length : Int)), (5, 102, int .i64 (aj ((b.length : Int) - 1))), (6, 103, pointer (some (dc.add (Int.toNat (aj ((b.length : Int) - 1)) * 4)))), (7, 104, pointer (some ((dc.add (Int.toNat (aj ((b.length : Int) - 1)) * 4)).add 2))), (8, 105, int .i64 ((aX.getD (Int.toNat (aj ((b.length : Int) - 1))) ab).End)), (9, 106, pointer (some ⟨az, 3, none⟩)), (10, 107, int .i64 ((a1.getD (Int.toNat a) aa).Y)), (11, 108, pointer (some ⟨az, 4, none⟩)), (12, 109, int .i64 ((a1.getD (Int.toNat a) aa).H)), (13, 110, int .i64 (aj (((a1.getD (Int.toNat a) aa).Y) + ((a1.getD (Int.toNat a) aa).H)))), (14, 111, int .i64 (max ((aX.getD (Int.toNat (aj ((b.length : Int) - 1))) ab).End) (aj (((a1.getD (Int.toNat a) aa).Y) + ((a1.getD (Int.toNat a) aa).H))))), (15, 112, pointer (some (dd.add (Int.toNat (aj ((b.length : Int) - 1)) * 4)))), (16, 113, pointer (some ((dd.add (Int.toNat (aj ((b.length : Int) - 1)) * 4)).add 2)))] D r ∧ Hp G' (bx O [int .i64 ((a1.getD (Int.toNat a) aa).Node), int .i64 ((a1.getD (Int.toNat a) aa).Table), int .i64 ((a1.getD (Int.toNat a) aa).X), int .i64 ((a1.getD (Int.toNat a) aa).Y), int .i64 ((a1.getD (Int.toNat a) aa).H), string ((a1.getD (Int.toNat a) aa).Text), bool ((a1.getD (Int.toNat a) aa).Head), bool ((a1.getD (Int.toNat a) aa).Note)] 36 :: bx az [int .i64 ((a1.getD (Int.toNat a) aa).Node), int .i64 ((a1.getD (Int.toNat a) aa).Table), int .i64 ((a1.getD (Int.toNat a) aa).X), int .i64 ((a1.getD (Int.toNat a) aa).Y), int .i64 ((a1.getD (Int.toNat a) aa).H), string ((a1.getD (Int.toNat a) aa).Text), bool ((a1.getD (Int.toNat a) aa).Head), bool ((a1.getD (Int.toNat a) aa).Note)] 36 :: tk (slice U ax.length V) 8 36 :: bO S aq ai [] (List.zip aX bl) [] ak 42 :: (List.flatMap ay (List.zip aX bl) ++ L)) w) ∨ (D 17 = true ∧ ∃ (G' : Gh), S ≤ G' ∧ ag [(0, slice A2 a1.length c3), (1, slice A7 a6.length c8), (6, slice ai aB ak), (7, slice U ax.length V), (8, int .i64 a), (9, pointer (some ⟨az, 0, none⟩)), (10, int .i64 (b.length : Int))] [] [(0, 97, slice ai aB ak), (1, 98, int .i64 (b.length : Int)), (2, 99, int .i64 (aj ((b.length : Int) - 1))), (3, 100, slice ai aB ak), (4, 101, int .i64 (b.length : Int)), (5, 102, int .i64 (aj ((b.length : Int) - 1))), (6, 103, pointer (some (dc.add (Int.toNat (aj ((b.length : Int) - 1)) * 4)))), (7, 104, pointer (some ((dc.add (Int.toNat (aj ((b.length : Int) - 1)) * 4)).add 2))), (8, 105, int .i64 ((aX.getD (Int.toNat (aj ((b.length : Int) - 1))) ab).End)), (9, 106, pointer (some ⟨az, 3, none⟩)), (10, 107, int .i64 ((a1.getD (Int.toNat a) aa).Y)), (11, 108, pointer (some ⟨az, 4, none⟩)), (12, 109, int .i64 ((a1.getD (Int.toNat a) aa).H)), (13, 110, int .i64 (aj (((a1.getD (Int.toNat a) aa).Y) + ((a1.getD (Int.toNat a) aa).H)))), (14, 111, int .i64 (max ((aX.getD (Int.toNat (aj ((b.length : Int) - 1))) ab).End) (aj (((a1.getD (Int.toNat a) aa).Y) + ((a1.getD (Int.toNat a) aa).H))))), (15, 112, pointer (some (dd.add (Int.toNat (aj ((b.length : Int) - 1)) * 4)))), (16, 113, pointer (some ((dd.add (Int.toNat (aj ((b.length : Int) - 1)) * 4)).add 2)))] D r ∧ Hp G' (bx O [int .i64 ((a1.getD (Int.toNat a) aa).Node), int .i64 ((a1.getD (Int.toNat a) aa).Table), int .i64 ((a1.getD (Int.toNat a) aa).X), int .i64 ((a1.getD (Int.toNat a) aa).Y), int .i64 ((a1.getD (Int.toNat a) aa).H), string ((a1.getD (Int.toNat a) aa).Text), bool ((a1.getD (Int.toNat a) aa).Head), bool ((a1.getD (Int.toNat a) aa).Note)] 36 :: bx az [int .i64 ((a1.getD (Int.toNat a) aa).Node), int .i64 ((a1.getD (Int.toNat a) aa).Table), int .i64 ((a1.getD (Int.toNat a) aa).X), int .i64 ((a1.getD (Int.toNat a) aa).Y), int .i64 ((a1.getD (Int.toNat a) aa).H), string ((a1.getD (Int.toNat a) aa).Text), bool ((a1.getD (Int.toNat a) aa).Head), bool ((a1.getD (Int.toNat a) aa).Note)] 36 :: tk (slice U ax.length V) 8 36 :: bO S aq ai [] (List.zip (List.set aX (Int.toNat (aj ((b.length : Int) - 1))) (⟨(aX.getD (Int.toNat (aj ((b.length : Int) - 1))) ab).Slices, (aX.getD (Int.toNat (aj ((b.length : Int) - 1))) ab).Notes, max ((aX.getD (Int.toNat (aj ((b.length : Int) - 1))) ab).End) (aj (((a1.getD (Int.toNat a) aa).Y) + ((a1.getD (Int.toNat a) aa).H))), (aX.getD (Int.toNat (aj ((b.length : Int) - 1))) ab).Kept⟩ : ao)) (List.set bl (Int.toNat (aj ((b.length : Int) - 1))) (bl.getD (Int.toNat (aj ((b.length : Int) - 1))) ae))) [] ak 42 :: (List.flatMap ay (List.zip (List.set aX (Int.toNat (aj ((b.length : Int) - 1))) (⟨(aX.getD (Int.toNat (aj ((b.length : Int) - 1))) ab).Slices, (aX.getD (Int.toNat (aj ((b.length : Int) - 1))) ab).Notes, max ((aX.getD (Int.toNat (aj ((b.length : Int) - 1))) ab).End) (aj (((a1.getD (Int.toNat a) aa).Y) + ((a1.getD (Int.toNat a) aa).H))), (aX.getD (Int.toNat (aj ((b.length : Int) - 1))) ab).Kept⟩ : ao)) (List.set bl (Int.toNat (aj ((b.length : Int) - 1))) (bl.getD (Int.toNat (aj ((b.length : Int) - 1))) ae))) ++ L)) w)) dJ z z ?_ ?_ ?_
 exact (.inl ⟨z, _, Gh.le_refl _, ag.start ⟨z, z, z, z, z, z, z, tv⟩ trivial, ew.drew⟩)
 refine ⟨?_, ?_, ?_, ?_, ?_, ?_, ?_, ?_, ?_, ?_, ?_, ?_, ?_, ?_, ?_, ?_, ?_, ?_, tv⟩
 rintro D r be (⟨d, aU, Z, J, af⟩ | ⟨c, aU, Z, J, af⟩) g i k
 obtain ⟨p, rfl⟩ := Has.ex (cC (J.ins.get 2 rfl) cN)
 exact mv z<|nl ⟨z, (.inl ⟨d, _, Z, (ag.step J g z z z z), af⟩)⟩
 cases (k 17 rfl).symm.trans c
 rintro D r be (⟨d, aU, Z, J, af⟩ | ⟨c, aU, Z, J, af⟩) g i k
 obtain ⟨p, rfl⟩ := Has.ex (cC (J.ins.get 6 rfl) cN)
 exact mv z<|nl ⟨z, (.inl ⟨d, _, Z, (ag.step J g z z z z), af⟩)⟩
 cases (k 17 rfl).symm.trans c
 rintro D r be (⟨d, aU, Z, J, af⟩ | ⟨c, aU, Z, J, af⟩) g i k
 obtain ⟨p, rfl⟩ := Has.ex (cC (J.get 1 rfl (i 1 rfl)) cN)
 exact b6 z z<|nl ⟨z, (.inl ⟨d, _, Z, (ag.step J g z z z z), af⟩)⟩
 cases (k 17 rfl).symm.trans c
 rintro D r be (⟨d, aU, Z, J, af⟩ | ⟨c, aU, Z, J, af⟩) g i k
 obtain ⟨p, rfl⟩ := Has.ex (cC (J.ins.get 2 rfl) cN)
 exact mv z<|nl ⟨z, (.inl ⟨d, _, Z, (ag.step J g z z z z), af⟩)⟩
 cases (k 17 rfl).symm.trans c
 rintro D r be (⟨d, aU, Z, J, af⟩ | ⟨c, aU, Z, J, af⟩) g i k
 obtain ⟨p, rfl⟩ := Has.ex (cC (J.ins.get 6 rfl) cN)
 exact mv z<|nl ⟨z, (.inl ⟨d, _, Z, (ag.step J g z z z z), af⟩)⟩
 cases (k 17 rfl).symm.trans c
 rintro D r be (⟨d, aU, Z, J, af⟩ | ⟨c, aU, Z, J, af⟩) g i k
 obtain ⟨p, rfl⟩ := Has.ex (cC (J.get 4 rfl (i 4 rfl)) cN)
 exact b6 z z<|nl ⟨z, (.inl ⟨d, _, Z, (ag.step J g z z z z), af⟩)⟩
 cases (k 17 rfl).symm.trans c
 rintro D r be (⟨d, aU, Z, J, af⟩ | ⟨c, aU, Z, J, af⟩) g i k
 obtain ⟨p, rfl⟩ := Has.ex (cC (J.get 3 rfl (i 3 rfl)) (cC (J.get 5 rfl (i 5 rfl)) cN))
 exact bL iu z ey z dG dH<|nl ⟨z, (.inl ⟨d, _, Z, (ag.step J g z z z z), af⟩)⟩
 cases (k 17 rfl).symm.trans c
 rintro D r be (⟨d, aU, Z, J, af⟩ | ⟨c, aU, Z, J, af⟩) g i k
 obtain ⟨p, rfl⟩ := Has.ex (cC (J.get 6 rfl (i 6 rfl)) cN)
 exact eS kf z z<|nl ⟨z, (.inl ⟨d, _, Z, (ag.step J g z z z z), af⟩)⟩
 cases (k 17 rfl).symm.trans c
 rintro D r be (⟨d, aU, Z, J, af⟩ | ⟨c, aU, Z, J, af⟩) g i k
 obtain ⟨p, rfl⟩ := Has.ex (cC (J.get 7 rfl (i 7 rfl)) cN)
 obtain ⟨_, gp, _, gq⟩ := Hp.opGet af 3 rfl a2 bX cM ey ab ae dG dH
 obtain ⟨rfl, _⟩ := gp
 exact eg (v := int .i64 ((aX.getD (Int.toNat (aj ((b.length : Int) - 1))) ab).End)) bb z (gq 2 _ z)<|nl ⟨z, (.inl ⟨d, _, Z, (ag.step J g z z z z), af⟩)⟩
 cases (k 17 rfl).symm.trans c
 rintro D r be (⟨d, aU, Z, J, af⟩ | ⟨c, aU, Z, J, af⟩) g i k
 obtain ⟨p, rfl⟩ := Has.ex (cC (J.ins.get 5 rfl) cN)
 exact fa bn z<|nl ⟨z, (.inl ⟨d, _, Z, (ag.step J g z z z z), af⟩)⟩
 cases (k 17 rfl).symm.trans c
 rintro D r be (⟨d, aU, Z, J, af⟩ | ⟨c, aU, Z, J, af⟩) g i k
 obtain ⟨p, rfl⟩ := Has.ex (cC (J.get 9 rfl (i 9 rfl)) cN)
 exact ld af 1 bb z z z<|nl ⟨z, (.inl ⟨d, _, Z, (ag.step J g z z z z), af⟩)⟩
 cases (k 17 rfl).symm.trans c
 rintro D r be (⟨d, aU, Z, J, af⟩ | ⟨c, aU, Z, J, af⟩) g i k
 obtain ⟨p, rfl⟩ := Has.ex (cC (J.ins.get 5 rfl) cN)
 exact fa cm z<|nl ⟨z, (.inl ⟨d, _, Z, (ag.step J g z z z z), af⟩)⟩
 cases (k 17 rfl).symm.trans c
 rintro D r be (⟨d, aU, Z, J, af⟩ | ⟨c, aU, Z, J, af⟩) g i k
 obtain ⟨p, rfl⟩ := Has.ex (cC (J.get 11 rfl (i 11 rfl)) cN)
 exact ld af 1 bb z z z<|nl ⟨z, (.inl ⟨d, _, Z, (ag.step J g z z z z), af⟩)⟩
 cases (k 17 rfl).symm.trans c
 rintro D r be (⟨d, aU, Z, J, af⟩ | ⟨c, aU, Z, J, af⟩) g i k
 obtain ⟨p, rfl⟩ := Has.ex (cC (J.get 10 rfl (i 10 rfl)) (cC (J.get 12 rfl (i 12 rfl)) cN))
 exact bm z z<|nl ⟨z, (.inl ⟨d, _, Z, (ag.step J g z z z z), af⟩)⟩
 cases (k 17 rfl).symm.trans c
 rintro D r be (⟨d, aU, Z, J, af⟩ | ⟨c, aU, Z, J, af⟩) g i k
 obtain ⟨p, rfl⟩ := Has.ex (cC (J.get 8 rfl (i 8 rfl)) (cC (J.get 13 rfl (i 13 rfl)) cN))
 exact dR z z<|nl ⟨z, (.inl ⟨d, _, Z, (ag.step J g z z z z), af⟩)⟩
 cases (k 17 rfl).symm.trans c
 rintro D r be (⟨d, aU, Z, J, af⟩ | ⟨c, aU, Z, J, af⟩) g i k
 obtain ⟨p, rfl⟩ := Has.ex (cC (J.get 0 rfl (i 0 rfl)) (cC (J.get 2 rfl (i 2 rfl)) cN))
 exact bL iu z eA z cO cQ<|nl ⟨z, (.inl ⟨d, _, Z, (ag.step J g z z z z), af⟩)⟩
 cases (k 17 rfl).symm.trans c
 rintro D r be (⟨d, aU, Z, J, af⟩ | ⟨c, aU, Z, J, af⟩) g i k
 obtain ⟨p, rfl⟩ := Has.ex (cC (J.get 15 rfl (i 15 rfl)) cN)
 exact eS kf z z<|nl ⟨z, (.inl ⟨d, _, Z, (ag.step J g z z z z), af⟩)⟩
 cases (k 17 rfl).symm.trans c
 rintro D r be (⟨d, aU, Z, J, af⟩ | ⟨c, aU, Z, J, af⟩) g i k
 obtain ⟨p, rfl⟩ := Has.ex (cC (J.get 14 rfl (i 14 rfl)) (cC (J.get 16 rfl (i 16 rfl)) cN))
 refine kp (kd := aq) af 3 (v := int .i64 (max ((aX.getD (Int.toNat (aj ((b.length : Int) - 1))) ab).End) (aj (((a1.getD (Int.toNat a) aa).Y) + ((a1.getD (Int.toNat a) aa).H))))) (news := [int .i64 (max ((aX.getD (Int.toNat (aj ((b.length : Int) - 1))) ab).End) (aj (((a1.getD (Int.toNat a) aa).Y) + ((a1.getD (Int.toNat a) aa).H))))]) (ab, ae) ((⟨(aX.getD (Int.toNat (aj ((b.length : Int) - 1))) ab).Slices, (aX.getD (Int.toNat (aj ((b.length : Int) - 1))) ab).Notes, max ((aX.getD (Int.toNat (aj ((b.length : Int) - 1))) ab).End) (aj (((a1.getD (Int.toNat a) aa).Y) + ((a1.getD (Int.toNat a) aa).H))), (aX.getD (Int.toNat (aj ((b.length : Int) - 1))) ab).Kept⟩ : ao), bl.getD (Int.toNat (aj ((b.length : Int) - 1))) ae) bb rfl a2 (eE bX cM) eA cO cQ rfl rfl rfl rfl rfl rfl (Nat.le_of_ble_eq_true rfl) gR (fun _ ho => by rw [(gc bX cM ab ae (ez cO cQ))] at ho; obtain ⟨rfl, l0, l1, l2, l3, l4, l5⟩ := ho; exact ⟨rfl, l0, l1, l2, l3, l4, l5⟩) (fun h6 eB => ?_)
 rw [← d9] at eB
 refine have eC:=Hp.segSame (K := [bx O [int .i64 ((a1.getD (Int.toNat a) aa).Node), int .i64 ((a1.getD (Int.toNat a) aa).Table), int .i64 ((a1.getD (Int.toNat a) aa).X), int .i64 ((a1.getD (Int.toNat a) aa).Y), int .i64 ((a1.getD (Int.toNat a) aa).H), string ((a1.getD (Int.toNat a) aa).Text), bool ((a1.getD (Int.toNat a) aa).Head), bool ((a1.getD (Int.toNat a) aa).Note)] 36, bx az [int .i64 ((a1.getD (Int.toNat a) aa).Node), int .i64 ((a1.getD (Int.toNat a) aa).Table), int .i64 ((a1.getD (Int.toNat a) aa).X), int .i64 ((a1.getD (Int.toNat a) aa).Y), int .i64 ((a1.getD (Int.toNat a) aa).H), string ((a1.getD (Int.toNat a) aa).Text), bool ((a1.getD (Int.toNat a) aa).Head), bool ((a1.getD (Int.toNat a) aa).Note)] 36, tk (slice U ax.length V) 8 36, bO S aq ai [] (List.zip (List.set aX (Int.toNat (aj ((b.length : Int) - 1))) (⟨(aX.getD (Int.toNat (aj ((b.length : Int) - 1))) ab).Slices, (aX.getD (Int.toNat (aj ((b.length : Int) - 1))) ab).Notes, max ((aX.getD (Int.toNat (aj ((b.length : Int) - 1))) ab).End) (aj (((a1.getD (Int.toNat a) aa).Y) + ((a1.getD (Int.toNat a) aa).H))), (aX.getD (Int.toNat (aj ((b.length : Int) - 1))) ab).Kept⟩ : ao)) (List.set bl (Int.toNat (aj ((b.length : Int) - 1))) (bl.getD (Int.toNat (aj ((b.length : Int) - 1))) ae))) [] ak 42]) (tf := ay) (x' := ((⟨(aX.getD (Int.toNat (aj ((b.length : Int) - 1))) ab).Slices, (aX.getD (Int.toNat (aj ((b.length : Int) - 1))) ab).Notes, max ((aX.getD (Int.toNat (aj ((b.length : Int) - 1))) ab).End) (aj (((a1.getD (Int.toNat a) aa).Y) + ((a1.getD (Int.toNat a) aa).H))), (aX.getD (Int.toNat (aj ((b.length : Int) - 1))) ab).Kept⟩ : ao), bl.getD (Int.toNat (aj ((b.length : Int) - 1))) ae)) eB (gH bX cM ab ae (ez cO cQ)) z;?_
 rw [← d9] at eC
 exact nl ⟨z, (.inr ⟨z, _, Z, (ag.stepN J z z), eC⟩)⟩
 cases g.symm.trans c
 intro D r be bf hR
 rcases hR with ⟨d, aU, Z, J, af⟩ | ⟨c, aU, Z, J, af⟩
 cases (bf 17 (Nat.le_of_ble_eq_true rfl)).symm.trans d
 obtain ⟨p, rfl⟩ := Has.ex (cC (J.ins.get 0 rfl) (cC (J.ins.get 1 rfl) (cC (J.ins.get 2 rfl) (cC (J.ins.get 3 rfl) (cC (J.ins.get 4 rfl) (cC (J.ins.get 6 rfl) cN))))))
 refine bK H fun bs de H=>?_
 replace de := Option.some.inj de
 obtain ⟨bZ, ha785⟩ : ∃ x, List.set bl (Int.toNat (aj ((b.length : Int) - 1))) (bl.getD (Int.toNat (aj ((b.length : Int) - 1))) ae) = x := ⟨_, rfl⟩
 have cR : bs.length = aB := de ▸ (ef bX)
 have df : bZ.length = aB := ha785 ▸ (ef cM)
 refine have dI:=af;?_
 rw [de, ha785] at dI
 refine gm _ _ _<|aA<|mv z<|mv z<|b6 z z<|mv z<|mv z<|iK H fun⟨eD, eF⟩H=>?_
 obtain ⟨h7, h8, gr, gs, h9, gt⟩ := Dat.get (Dat.mono (gT (gT ci s) Z) dK) false (a) eD eF
 obtain rfl := gs
 refine bL fV z gr z eD eF<|et dI jK z (gR.cel _ _ (gt 0 _ z))<|iK H fun⟨cS, gu⟩H=>have cT:=iy cR gu;?_
 obtain ⟨ia, eG⟩ := Mw.ad a2 cS cT
 refine bL iu z eG z cS cT<|eS mW z z<|?_
 refine kp (kd := aq) dI 3 (v := bool (a6.getD (Int.toNat a) false)) (news := [bool (a6.getD (Int.toNat a) false)]) (ab, ae) ((⟨(bs.getD (Int.toNat (aj ((b.length : Int) - 1))) ab).Slices, (bs.getD (Int.toNat (aj ((b.length : Int) - 1))) ab).Notes, (bs.getD (Int.toNat (aj ((b.length : Int) - 1))) ab).End, a6.getD (Int.toNat a) false⟩ : ao), bZ.getD (Int.toNat (aj ((b.length : Int) - 1))) ae) jK rfl a2 (eE cR df) eG cS cT rfl rfl rfl rfl rfl rfl (Nat.le_of_ble_eq_true rfl) gR (fun _ ho => by rw [(gc cR df ab ae (ez cS cT))] at ho; obtain ⟨rfl, l0, l1, l2, l3, l4, l5⟩ := ho; exact ⟨rfl, l0, l1, l2, l3, l4, l5⟩) (fun ib eH => ?_)
 rw [← d9] at eH
 refine have eI:=Hp.segSame (K := [bx O [int .i64 ((a1.getD (Int.toNat a) aa).Node), int .i64 ((a1.getD (Int.toNat a) aa).Table), int .i64 ((a1.getD (Int.toNat a) aa).X), int .i64 ((a1.getD (Int.toNat a) aa).Y), int .i64 ((a1.getD (Int.toNat a) aa).H), string ((a1.getD (Int.toNat a) aa).Text), bool ((a1.getD (Int.toNat a) aa).Head), bool ((a1.getD (Int.toNat a) aa).Note)] 36, bx az [int .i64 ((a1.getD (Int.toNat a) aa).Node), int .i64 ((a1.getD (Int.toNat a) aa).Table), int .i64 ((a1.getD (Int.toNat a) aa).X), int .i64 ((a1.getD (Int.toNat a) aa).Y), int .i64 ((a1.getD (Int.toNat a) aa).H), string ((a1.getD (Int.toNat a) aa).Text), bool ((a1.getD (Int.toNat a) aa).Head), bool ((a1.getD (Int.toNat a) aa).Note)] 36, tk (slice U ax.length V) 8 36, bO S aq ai [] (List.zip (List.set bs (Int.toNat (aj ((b.length : Int) - 1))) (⟨(bs.getD (Int.toNat (aj ((b.length : Int) - 1))) ab).Slices, (bs.getD (Int.toNat (aj ((b.length : Int) - 1))) ab).Notes, (bs.getD (Int.toNat (aj ((b.length : Int) - 1))) ab).End, a6.getD (Int.toNat a) false⟩ : ao)) (List.set bZ (Int.toNat (aj ((b.length : Int) - 1))) (bZ.getD (Int.toNat (aj ((b.length : Int) - 1))) ae))) [] ak 42]) (tf := ay) (x' := ((⟨(bs.getD (Int.toNat (aj ((b.length : Int) - 1))) ab).Slices, (bs.getD (Int.toNat (aj ((b.length : Int) - 1))) ab).Notes, (bs.getD (Int.toNat (aj ((b.length : Int) - 1))) ab).End, a6.getD (Int.toNat a) false⟩ : ao), bZ.getD (Int.toNat (aj ((b.length : Int) - 1))) ae)) eH (gH cR df ab ae (ez cS cT)) z;?_
 rw [← d9] at eI
 refine nl<|have gv:=Hp.rwUp eI 3 z Z;have gw:=Hp.pick 4 [3, 2] gv z;?_
 cases H
 exact ⟨z, U, V, ai, aB, ak, List.set bZ (Int.toNat (aj ((b.length : Int) - 1))) (bZ.getD (Int.toNat (aj ((b.length : Int) - 1))) ae), aU, _, z, (gT s Z), ⟨z, z, z, z, z, tv⟩, gw, cj, (Dat.mono (gT s Z) ck), cl, (ef cR), a2, (ef df), gR, tv⟩
 rintro e r ds ic ⟨rfl, b2, b3, b4, b5, b7, co, dk, b8, rfl, gx, bu, gy, gz, gA, gB, gD, gE, had113, gF, _⟩
 rw [bu.eq]; clear bu
 exact eY _ _ _<|aA<|mv z<|bm z z<|aK z<|nl<|have gG:=Hp.rwUp gy 0 z gF;ih _ _ _ _ H b2 b3 b4 b5 b7 co b8 _ _ _ (gT ci gx) ⟨z, z, z, z, z, tv⟩ gG gz gA gB gD gE had113 gR z
 refine nK cn H fun H=>wf (bN cn)<|wx<|have gI:=Hp.rwUp di 0 z bt;?_
 cases H
 exact ⟨z, U, V, ai, aB, ak, q, a4, _, z, ci, ⟨z, z, tv⟩, gI, cj, ck, cl, aV, a2, had36, gR, tv⟩
 rintro e r ds id ⟨rfl, bC, bD, bE, b1, bG, cg, c0, ch, rfl, gJ, bu, gK, gL, gM, gN, eJ, gO, had79, gP, _⟩
 rw [bu.eq]; clear bu
 refine eR _ _ _<|sr fun ig gQ=>mv z<|mv z<|aK z<|aK z<|nl<|gQ _ _ _<|wr<|have gU:=Hp.segDrop (K := [bO c0 aq bE [] (List.zip ce cg) [] bG 42, tk (slice bC b0.length bD) 8 36]) gK;have gV:=Hp.opWeak (fun _ _ _ => jm) z gU 0 z eJ had79;have gW:=Hp.rwUp gV 0 z gP;?_
 cases H
 exact ⟨.inr z, z, _, ⟨_, _, z, z, ⟨_, _, z, z, z⟩⟩, bE, b1, bG, bC, bD, _, gJ, gW, eJ, gO, gL, gM, gN, z⟩
end Go.Proofs.Ytlcfemplcaejgaa.LG
