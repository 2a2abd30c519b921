/-
  The walks: each function computes its plain function: printed by a program out of the translation.
-/
import Derived.Test.YtaemgcpcfnbmdaaGreatDoorSd
set_option linter.unusedVariables false
set_option linter.unusedSimpArgs false
set_option maxRecDepth 100000
namespace Go.Proofs.YtaemgcpcfnbmdaaGreatDoor.LG
open Go Go.LG Go.RowKit Go.Value
set_option maxHeartbeats 1000000
open Go.Lib Go.Shelf Go.Proofs
theorem o4 {a1 a2 E ab G L w} (H : iu a1 a2 = some (E, ab)) (hI : Hp G L w) :
    Calls Tryz.prog 126 [string a1, int .i64 a2].toArray w fun e w' => ∃ (y : Option Addr) (F : Nat) (A : Nat) (G' : Gh), G ≤ G' ∧ Hp G' (gn G' (Kd.int .i64) y [] E [] A 3 :: L) w' ∧ E.length = F ∧ Mw y y ([] : List Int).length F A A 1 ∧ e = .returned (tuple [slice y F A, int .i64 ab].toArray) := by
 refine ac (N := 55) Tryz.func126 z z (Nat.le_of_ble_eq_true z)<|?_
 unfold iu at H
 refine sr fun K3 ax=>aj z<|aj z<|nl<|ax _ _ _<|sQ fun K5 ay=>sr fun K7 az=>mv z<|mv z<|bK H fun aA aC H=>cv D8 (p8 aC hI) z z fun bs af=>be z<|nl<|az _ _ _<|?_
 refine dC ((!aA) = true) (fun n=>?_) fun n=>?_
 refine yK n H fun H=>wt (vY n)<|sr fun bt aD=>aj z<|aj z<|nl<|aD _ _ _<|wr<|have aE:=Hp.emp af;?_
 cases H
 exact ⟨.inr z, z, _, ⟨_, _, z, z, ⟨_, _, z, z, z⟩⟩, none, 0, 0, _, gR, aE, z, ⟨.inl z, Nat.le_refl _⟩, z⟩
 refine nK n H fun H=>wf (vN n)<|ws<|ay _ _ _<|sr fun bu aF=>mv z<|mv z<|bK H fun ag aG H=>fU (vs := [string a1, int .i64 a2]) E2 z z (nv aG af)<|?_
 rintro _ bw ⟨c, d, f, J, aH, aI, l, a, rfl⟩
 refine ⟨_, rfl, ?_⟩
 refine aj z<|nl<|aF _ _ _<|sQ fun bx aJ=>sr fun bz aK=>aj z<|nl<|aK _ _ _<|wb<|bK H fun K hC H=>aq (Q := fun e r ds w => e = .exit 0 ∧ ∃ (M : Gh) (B : Gh), ds = [] ∧ J ≤ B ∧ Has [(6, slice c d f)] r ∧ Hp B (gn M (Kd.int .i64) c [] K [] f 3 :: L) w ∧ K.length = d ∧ M ≤ B ∧ True) ?_ ?_
 refine aB fun I aw=>?_
 refine cI.partial_correctness a1 a2 ag (fun m g o => ∀ (O : Gh) (h : Gh) (r : Rg) (w : World), J ≤ h → Has [(0, string a1), (1, int .i64 a2), (6, slice c d f), (7, int .i64 g)] r → Hp h (gn O (Kd.int .i64) c [] m [] f 3 :: L) w → m.length = d → O ≤ h → o = K → I r [] w) ?_ ag 0 _ hC J _ _ _ gR ⟨rfl, rfl, rfl, rfl, tv⟩ aI l gR rfl
 intro _ ih m g o H O h r bB ah j ai i C ho
 rw [ho] at H; clear ho
 rw [j.eq]; clear j
 refine aw _ _ _<|sQ fun bC aL=>sr fun bD aM=>mv z<|mv z<|cX fA z<|aN z z<|nl<|aM _ _ _<|dC (g < (a1.size : Int)) (fun q=>?_) fun q=>?_
 refine yK q H fun H=>wt (bY q)<|ws<|aL _ _ _<|sQ fun bE aO=>bK H fun ak hC H=>aq (Q := fun e r ds w => e = .normal ∧ ∃ (P : Gh) (s : Gh), ds = [] ∧ h ≤ s ∧ Has [(0, string a1), (1, int .i64 a2), (6, slice c d f), (7, int .i64 g)] r ∧ Hp s (gn P (Kd.int .i64) c [] ak [] f 3 :: L) w ∧ ak.length = d ∧ P ≤ s ∧ True) ?_ ?_
 refine have H:=hC;wb<|sr fun bF aP=>mv z<|mv z<|iK H fun⟨aQ, aR⟩H=>gc fA z z aQ aR z<|bK H fun aS aT H=>cv yZ (dS aT ai) z z fun bG D=>bA z z<|aj z<|nl<|aP _ _ _<|sr fun bH aU=>?_
 refine mv z<|mv z<|iK H fun⟨R, aV⟩H=>have S:=jK l aV;?_
 obtain ⟨bI, al⟩ := Mw.ad a R S
 refine bP dI z al z R S<|?_
 obtain ⟨_, rfl, _, aW⟩ := Hp.rwGet D 0 rfl a i al (0 : Int) R S
 refine jH (v := int .i64 (m.getD (Int.toNat g) (0 : Int))) bv z (cell0 (aW 0 _ z))<|bA z z<|mv z<|bK H fun am hC H=>js 3 D [(0, string a1), (1, int .i64 a2), (6, slice c d f), (7, int .i64 g), (35, bool am)] ?_ fun _ bJ t=>?_
 refine have H:=hC;dC ((m.getD (Int.toNat g) (0 : Int)) = 1) (fun k=>?_) fun k=>?_
 refine yK k H fun H=>mv (hw:=gY z z z (bY k)) z<|Dz (hw:=gY z z z (bY k)) (p := aS = 3) z<|bR (bY k) z<|nl<|?_
 cases H
 exact je ⟨z, z, z, z, z, tv⟩ D
 refine nK k H fun H=>Sk 2 z z (bN k) z<|b7 (bN k) z<|nl<|?_
 cases H
 exact je ⟨z, z, z, z, z, tv⟩ D
 refine nl<|aU _ _ _<|dC (am = true) (fun u=>?_) fun u=>?_
 refine yK u H fun H=>wt (vY u)<|ae<|mv z<|mv z<|iK H fun⟨T, aX⟩H=>have U:=jK l aX;?_
 obtain ⟨bL, an⟩ := Mw.ad a T U
 refine bP dI z an z T U<|jI (kd := (Kd.int .i64)) t 0 (v := int .i64 1) (news := [int .i64 1]) (0 : Int) 1 bv z a i an T U (add_zero' _) z z z z z (Nat.le_of_ble_eq_true z) gR (fun _ ho => dm ho z z) fun bM aY=>nl<|have aZ:=Hp.rwUp aY 0 z C;?_
 cases H
 exact ⟨z, h, _, z, gR, ⟨z, z, z, z, tv⟩, aZ, (cB i), gR, tv⟩
 refine nK u H fun H=>wf (vN u)<|sr fun bO a0=>mv z<|bA z z<|mv z<|bK H fun ao hC H=>js 6 t [(0, string a1), (1, int .i64 a2), (6, slice c d f), (7, int .i64 g), (47, bool ao)] ?_ fun _ bQ ap=>?_
 refine have H:=hC;dC (a2 = 0) (fun b=>?_) fun b=>?_
 refine yK b H fun H=>mv (hw:=gY z z z (bY b)) z<|mv (hw:=gY z z z (bY b)) z<|iK H fun⟨V, a3⟩H=>have W:=jK l a3;?_
 obtain ⟨bS, ar⟩ := Mw.ad a V W
 refine bP (hw:=gY z z z (bY b)) dI z ar z V W<|?_
 obtain ⟨_, rfl, _, a4⟩ := Hp.rwGet t 0 rfl a i ar (0 : Int) V W
 refine jH (hw:=gY z z z (bY b)) (v := int .i64 (m.getD (Int.toNat g) (0 : Int))) bv z (cell0 (a4 0 _ z))<|bA (hw:=gY z z z (bY b)) z z<|bR (bY b) z<|nl<|?_
 cases H
 exact je ⟨z, z, z, z, z, tv⟩ t
 refine nK b H fun H=>Sk 5 z z (bN b) z<|b7 (bN b) z<|nl<|?_
 cases H
 exact je ⟨z, z, z, z, z, tv⟩ t
 refine nl<|a0 _ _ _<|dC (ao = true) (fun x=>?_) fun x=>?_
 refine yK x H fun H=>wt (vY x)<|ae<|mv z<|mv z<|iK H fun⟨X, a5⟩H=>have Y:=jK l a5;?_
 obtain ⟨bT, au⟩ := Mw.ad a X Y
 refine bP dI z au z X Y<|jI (kd := (Kd.int .i64)) ap 0 (v := int .i64 0) (news := [int .i64 0]) (0 : Int) 0 bv z a i au X Y (add_zero' _) z z z z z (Nat.le_of_ble_eq_true z) gR (fun _ ho => dm ho z z) fun bU a6=>nl<|have a7:=Hp.rwUp a6 0 z C;?_
 cases H
 exact ⟨z, h, _, z, gR, ⟨z, z, z, z, tv⟩, a7, (cB i), gR, tv⟩
 refine nK x H fun H=>wf (vN x)<|ae<|mv z<|mv z<|iK H fun⟨Z, a8⟩H=>have aa:=jK l a8;?_
 obtain ⟨bV, av⟩ := Mw.ad a Z aa
 refine bP dI z av z Z aa<|jI (kd := (Kd.int .i64)) ap 0 (v := int .i64 2) (news := [int .i64 2]) (0 : Int) 2 bv z a i av Z aa (add_zero' _) z z z z z (Nat.le_of_ble_eq_true z) gR (fun _ ho => dm ho z z) fun bW a9=>nl<|have bb:=Hp.rwUp a9 0 z C;?_
 cases H
 exact ⟨z, h, _, z, gR, ⟨z, z, z, z, tv⟩, bb, (cB i), gR, tv⟩
 rintro e r ds bX ⟨rfl, P, s, rfl, bc, j, bd, bf, bg, _⟩
 rw [j.eq]; clear j
 exact aO _ _ _<|ae<|mv z<|ba z z<|aj z<|nl<|have bh:=Hp.rwUp bd 0 z bg;ih _ _ _ H s _ _ _ (gT ah bc) ⟨z, z, z, z, tv⟩ bh bf gR z
 refine nK q H fun H=>wf (bN q)<|wx<|have bi:=Hp.rwUp ai 0 z C;?_
 cases H
 exact ⟨z, h, _, z, ah, ⟨z, tv⟩, bi, i, gR, tv⟩
 rintro e r ds bZ ⟨rfl, M, B, rfl, bj, j, bk, bl, bm, _⟩
 rw [j.eq]; clear j
 refine aJ _ _ _<|sr fun b0 bn=>mv z<|aj z<|aj z<|nl<|bn _ _ _<|wr<|have bo:=Hp.rwUp bk 0 z bm;?_
 cases H
 exact ⟨.inr z, z, _, ⟨_, _, z, z, ⟨_, _, z, z, z⟩⟩, c, d, f, _, (gT aH bj), bo, bl, a, z⟩
theorem k8 {a1 a6 a17 l m h i n p j q k P G L w} (H : dx a1 a6 a17 = some P) (hI : Hp G (gn G (Kd.int .i64) h i a6 n k 3 :: L) w) (ci : a1.length ≤ m) (Z : Dat (Kd.int .i64) G l a1) (aa : a6.length = j) (ab : Mw h p i.length j q k 1) :
    Calls Tryz.prog 127 [slice l a1.length m, slice p j q, int .i64 a17].toArray w fun e w' => ∃ (af : Option Addr) (ag : Nat) (G' : Gh), G ≤ G' ∧ Hp G' (tk (slice af P.length ag) 1 3 :: gn G' (Kd.int .i64) h i a6 n k 3 :: L) w' ∧ P.length ≤ ag ∧ Dat (Kd.int .i64) G' af P ∧ Own af ag ∧ e = .returned (slice af P.length ag) := by
 refine ac (N := 68) Tryz.func127 z z (Nat.le_of_ble_eq_true z)<|?_
 unfold dx at H
 refine sr fun cj aU=>aj z<|nl<|aU _ _ _<|sr fun ck aV=>aj z<|nl<|aV _ _ _<|sQ fun cl aW=>sr fun cm aX=>aj z<|nl<|aX _ _ _<|wb<|?_
 refine bK H fun R hC H=>?_
 refine aq (Q := fun e r ds w => e = .exit 0 ∧ ∃ (u : Option Addr) (x : Nat) (ah : Gh), ds = [] ∧ G ≤ ah ∧ Has [(7, slice u R.length x)] r ∧ Hp ah (gn G (Kd.int .i64) h i a6 n k 3 :: tk (slice u R.length x) 1 3 :: L) w ∧ R.length ≤ x ∧ Dat (Kd.int .i64) ah u R ∧ Own u x ∧ True) ?_ ?_
 refine have aY:=Hp.emp hI;have aZ:=Hp.pick 2 [1, 0] aY z;aB fun I O=>?_
 refine bB.partial_correctness a1 a6 a17 (fun d b o => ∀ (f : Option Addr) (g : Nat) (s : Gh) (r : Rg) (w : World), G ≤ s → Has [(0, slice l a1.length m), (1, slice p j q), (2, int .i64 a17), (7, slice f d.length g), (8, int .i64 b)] r → Hp s (gn G (Kd.int .i64) h i a6 n k 3 :: tk (slice f d.length g) 1 3 :: L) w → d.length ≤ g → Dat (Kd.int .i64) s f d → Own f g → o = R → I r [] w) ?_ ([] : List Int) 0 _ hC none 0 _ _ _ gR ⟨rfl, rfl, rfl, rfl, rfl, tv⟩ aZ (show ([] : List Int).length ≤ 0 from Nat.le_refl 0) (Dat.nil _ _ _) Own.nil rfl
 intro _ ih d b o H f g s r cn y a A an ao ap ho
 rw [ho] at H; clear ho
 rw [a.eq]; clear a
 refine O _ _ _<|sQ fun co a0=>sr fun cp a2=>mv z<|mv z<|q_len lg z<|aN z z<|nl<|a2 _ _ _<|dC (b < (a1.length : Int)) (fun S=>?_) fun S=>?_
 refine yK S H fun H=>wt (bY S)<|ws<|a0 _ _ _<|sQ fun cq a3=>iJ H fun ai a4 hC H=>?_
 refine aq (Q := fun e r ds w => e = .normal ∧ ∃ (B : Option Addr) (C : Nat) (ak : Gh), ds = [] ∧ s ≤ ak ∧ Has [(0, slice l a1.length m), (1, slice p j q), (2, int .i64 a17), (7, slice B ai.length C), (8, int .i64 a4)] r ∧ Hp ak (gn G (Kd.int .i64) h i a6 n k 3 :: tk (slice B ai.length C) 1 3 :: L) w ∧ ai.length ≤ C ∧ Dat (Kd.int .i64) ak B ai ∧ Own B C ∧ True) ?_ ?_
 refine have H:=hC;wb<|sQ fun cr a5=>sr fun ct a7=>mv z<|mv z<|mv z<|iK H fun⟨aA, aC⟩H=>?_
 obtain ⟨cu, cv, a8, a9, cw, bb⟩ := Dat.get (Dat.mono y Z) (0 : Int) (b) aA aC
 obtain rfl := a9
 refine bP dI z a8 z aA aC<|fO A bv z (gR.cel _ _ (bb 0 _ z))<|iK H fun⟨ar, bc⟩H=>have au:=jK aa bc;?_
 obtain ⟨cx, aD⟩ := Mw.ad ab ar au
 refine bP dI z aD z ar au<|?_
 obtain ⟨_, rfl, _, bd⟩ := Hp.rwGet A 0 rfl ab aa aD (0 : Int) ar au
 refine jH (v := int .i64 (a6.getD (Int.toNat (a1.getD (Int.toNat b) (0 : Int))) (0 : Int))) bv z (cell0 (bd 0 _ z))<|mv z<|aN z z<|nl<|a7 _ _ _<|dC ((a6.getD (Int.toNat (a1.getD (Int.toNat b) (0 : Int))) (0 : Int)) < a17) (fun T=>?_) fun T=>?_
 refine yK T H fun H=>wt (bY T)<|sr fun cy be=>mv z<|mv z<|mv z<|iK H fun⟨aE, aF⟩H=>?_
 obtain ⟨cz, cA, bf, bg, cB, bh⟩ := Dat.get (Dat.mono y Z) (0 : Int) (b) aE aF
 obtain rfl := bg
 refine bP dI z bf z aE aF<|fO A bv z (gR.cel _ _ (bh 0 _ z))<|?_
 refine mm A (vs := [(0, int .i64 (a1.getD (Int.toNat b) (0 : Int)))]) (cs := [int .i64 (a1.getD (Int.toNat b) (0 : Int))]) dI vI rfl (by decide) rfl rfl (fun cC cD aG => ?_)
 refine iK H fun cE H=>?_
 refine lu (xs := d) (ys := [a1.getD (Int.toNat b) (0 : Int)]) (Kd.int .i64) aG 2 dI vI rfl rfl rfl rfl ap an ao (jF aG 0 lg rfl rfl) ⟨[int .i64 (a1.getD (Int.toNat b) (0 : Int))], _, rfl, rfl, rfl⟩ rfl (by simp only [List.length_cons, List.length_nil]; omega) (by simp only [List.length_cons, List.length_nil]; omega) (fun bi bj cF cG bk bl bm bn bo => ?_)
 refine aj z<|nl<|be _ _ _<|wx<|have bp:=Hp.pick 3 [1, 2] bo z;?_
 cases H
 exact ⟨z, bi, bj, _, z, bk, ⟨z, z, z, z, z, tv⟩, bp, bm, bn, bl, tv⟩
 refine nK T H fun H=>wf (bN T)<|ws<|a5 _ _ _<|sr fun cH bq=>mv z<|aj z<|nl<|bq _ _ _<|sQ fun cI br=>wb<|bK H fun U hC H=>?_
 refine aq (Q := fun e r ds w => e = .exit 2 ∧ ds = [] ∧ Has [(0, slice l a1.length m), (1, slice p j q), (2, int .i64 a17), (7, slice f d.length g), (8, int .i64 b), (9, int .i64 U)] r ∧ Hp s (tk (slice f d.length g) 1 3 :: gn G (Kd.int .i64) h i a6 n k 3 :: L) w ∧ True) ?_ ?_
 refine have bs:=Hp.pick 2 [1, 0] A z;aB fun I O=>?_
 refine dp.partial_correctness a1 a6 a17 (fun D o => ∀ (r : Rg) (w : World), Has [(0, slice l a1.length m), (1, slice p j q), (2, int .i64 a17), (7, slice f d.length g), (8, int .i64 b), (9, int .i64 D)] r → Hp s (tk (slice f d.length g) 1 3 :: gn G (Kd.int .i64) h i a6 n k 3 :: L) w → o = U → I r [] w) ?_ b _ hC _ _ ⟨rfl, rfl, rfl, rfl, rfl, rfl, tv⟩ bs rfl
 intro _ ih D o H r cJ a V ho
 rw [ho] at H; clear ho
 rw [a.eq]; clear a
 refine O _ _ _<|sQ fun cK bt=>sr fun cL bu=>mv z<|mv z<|q_len lg z<|aN z z<|mv z<|bK H fun aH hC H=>js 10 V [(0, slice l a1.length m), (1, slice p j q), (2, int .i64 a17), (7, slice f d.length g), (8, int .i64 b), (9, int .i64 D), (48, bool aH)] ?_ fun _ cM aI=>?_
 refine have H:=hC;dC (D < (a1.length : Int)) (fun c=>?_) fun c=>?_
 refine yK c H fun H=>mv (hw:=gY z z z (bY c)) z<|mv (hw:=gY z z z (bY c)) z<|mv (hw:=gY z z z (bY c)) z<|iK H fun⟨aJ, aK⟩H=>?_
 obtain ⟨cN, cO, bw, bx, cP, bz⟩ := Dat.get (Dat.mono y Z) (0 : Int) (D) aJ aK
 obtain rfl := bx
 refine bP (hw:=gY z z z (bY c)) dI z bw z aJ aK<|fO (hw:=gY z z z (bY c)) V bv z (gR.cel _ _ (bz 0 _ z))<|iK H fun⟨av, bA⟩H=>have aw:=jK aa bA;?_
 obtain ⟨cQ, aL⟩ := Mw.ad ab av aw
 refine bP (hw:=gY z z z (bY c)) dI z aL z av aw<|?_
 obtain ⟨_, rfl, _, bC⟩ := Hp.rwGet V 1 rfl ab aa aL (0 : Int) av aw
 refine jH (hw:=gY z z z (bY c)) (v := int .i64 (a6.getD (Int.toNat (a1.getD (Int.toNat D) (0 : Int))) (0 : Int))) bv z (cell0 (bC 0 _ z))<|mv (hw:=gY z z z (bY c)) z<|gM (hw:=gY z z z (bY c)) z z<|bR (bY c) z<|nl<|?_
 cases H
 exact je ⟨z, z, z, z, z, z, z, tv⟩ V
 refine nK c H fun H=>Sk 9 z z (bN c) z<|b7 (bN c) z<|nl<|?_
 cases H
 exact je ⟨z, z, z, z, z, z, z, tv⟩ V
 refine nl<|bu _ _ _<|dC (aH = true) (fun W=>?_) fun W=>?_
 exact yK W H fun H=>wt (vY W)<|ws<|bt _ _ _<|wb<|ae<|mv z<|ba z z<|aj z<|nl<|ih _ _ H _ _ ⟨z, z, z, z, z, z, tv⟩ aI z
 refine nK W H fun H=>wf (vN W)<|wx<|?_
 cases H
 exact ⟨z, z, ⟨z, z, z, z, z, z, tv⟩, aI, tv⟩
 rintro e r ds cR ⟨rfl, rfl, a, bD, _⟩
 rw [a.eq]; clear a
 refine br _ _ _<|sQ fun cS bE=>sr fun cT bF=>mv z<|dl z z<|aj z<|nl<|bF _ _ _<|wb<|bK H fun X hC H=>?_
 refine aq (Q := fun e r ds w => e = .exit 4 ∧ ∃ (E : Option Addr) (F : Nat) (al : Gh), ds = [] ∧ s ≤ al ∧ Has [(0, slice l a1.length m), (1, slice p j q), (2, int .i64 a17), (7, slice E X.length F), (9, int .i64 U)] r ∧ Hp al (gn G (Kd.int .i64) h i a6 n k 3 :: tk (slice E X.length F) 1 3 :: L) w ∧ X.length ≤ F ∧ Dat (Kd.int .i64) al E X ∧ Own E F ∧ True) ?_ ?_
 refine have bG:=Hp.pick 2 [1, 0] bD z;aB fun I O=>?_
 refine dn.partial_correctness a1 b (fun J t o => ∀ (K : Option Addr) (M : Nat) (am : Gh) (r : Rg) (w : World), s ≤ am → Has [(0, slice l a1.length m), (1, slice p j q), (2, int .i64 a17), (7, slice K J.length M), (8, int .i64 b), (9, int .i64 U), (10, int .i64 t)] r → Hp am (gn G (Kd.int .i64) h i a6 n k 3 :: tk (slice K J.length M) 1 3 :: L) w → J.length ≤ M → Dat (Kd.int .i64) am K J → Own K M → o = X → I r [] w) ?_ d (ax (U - 1)) _ hC f g _ _ _ gR ⟨rfl, rfl, rfl, rfl, rfl, rfl, rfl, tv⟩ bG an ao ap rfl
 intro _ ih J t o H K M am r cU ay a az aM aO aP ho
 rw [ho] at H; clear ho
 rw [a.eq]; clear a
 refine O _ _ _<|sQ fun cV bH=>sr fun cW bI=>mv z<|mv z<|gM z z<|nl<|bI _ _ _<|dC (b ≤ t) (fun Y=>?_) fun Y=>?_
 refine yK Y H fun H=>wt (bY Y)<|ws<|bH _ _ _<|sQ fun cX bJ=>wb<|ae<|mv z<|mv z<|mv z<|iK H fun⟨aQ, aR⟩H=>?_
 obtain ⟨cY, cZ, bL, bM, c0, bO⟩ := Dat.get (Dat.mono (gT y ay) Z) (0 : Int) (t) aQ aR
 obtain rfl := bM
 refine bP dI z bL z aQ aR<|fO az bv z (gR.cel _ _ (bO 0 _ z))<|?_
 refine mm az (vs := [(0, int .i64 (a1.getD (Int.toNat t) (0 : Int)))]) (cs := [int .i64 (a1.getD (Int.toNat t) (0 : Int))]) dI vI rfl (by decide) rfl rfl (fun c1 c2 aS => ?_)
 refine iK H fun c4 H=>?_
 refine lu (xs := J) (ys := [a1.getD (Int.toNat t) (0 : Int)]) (Kd.int .i64) aS 2 dI vI rfl rfl rfl rfl aP aM aO (jF aS 0 lg rfl rfl) ⟨[int .i64 (a1.getD (Int.toNat t) (0 : Int))], _, rfl, rfl, rfl⟩ rfl (by simp only [List.length_cons, List.length_nil]; omega) (by simp only [List.length_cons, List.length_nil]; omega) (fun bQ bS c5 c6 bT bU bV bW bX => ?_)
 exact aj z<|nl<|bJ _ _ _<|ae<|mv z<|dl z z<|aj z<|nl<|have bZ:=Hp.pick 3 [1, 2] bX z;ih _ _ _ H bQ bS _ _ _ (gT ay bT) ⟨z, z, z, z, z, z, z, tv⟩ bZ bV bW bU z
 refine nK Y H fun H=>wf (bN Y)<|wx<|?_
 cases H
 exact ⟨z, K, M, _, z, ay, ⟨z, z, z, z, z, tv⟩, az, aM, aO, aP, tv⟩
 rintro e r ds c7 ⟨rfl, E, F, al, rfl, b0, a, b1, b2, b3, b4, _⟩
 rw [a.eq]; clear a
 refine bE _ _ _<|ae<|mv z<|dl z z<|aj z<|nl<|?_
 cases H
 exact ⟨z, E, F, _, z, b0, ⟨z, z, z, z, z, tv⟩, b1, b2, b3, b4, tv⟩
 rintro e r ds c8 ⟨rfl, B, C, ak, rfl, b5, a, b6, b8, b9, ca, _⟩
 rw [a.eq]; clear a
 exact a3 _ _ _<|ae<|mv z<|ba z z<|aj z<|nl<|ih _ _ _ H B C _ _ _ (gT y b5) ⟨z, z, z, z, z, tv⟩ b6 b8 b9 ca z
 refine nK S H fun H=>wf (bN S)<|wx<|?_
 cases H
 exact ⟨z, f, g, _, z, y, ⟨z, tv⟩, A, an, ao, ap, tv⟩
 rintro e r ds c9 ⟨rfl, u, x, ah, rfl, aT, a, cb, cc, cd, ce, _⟩
 rw [a.eq]; clear a
 refine aW _ _ _<|sr fun da cf=>mv z<|aj z<|nl<|cf _ _ _<|wr<|have cg:=Hp.rwUp cb 0 z aT;have ch:=Hp.pick 2 [1, 0] cg z;?_
 cases H
 exact ⟨.inr z, z, _, ⟨_, _, z, z, z⟩, u, x, _, aT, ch, cc, cd, ce, z⟩
theorem pB {a1 a2 l x G L w} (H : iO a1 a2 = some (l, x)) (hI : Hp G L w) :
    Calls Tryz.prog 94 [string a1, int .i64 a2].toArray w fun e w' => ∃ (p : Option Addr) (q : Nat) (G' : Gh), G ≤ G' ∧ Hp G' (tk (slice p l.length q) 1 3 :: L) w' ∧ l.length ≤ q ∧ Dat (Kd.int .i64) G' p l ∧ Own p q ∧ e = .returned (tuple [slice p l.length q, int .i64 x].toArray) := by
 refine ac (N := 34) Tryz.func94 z z (Nat.le_of_ble_eq_true z)<|?_
 unfold iO at H
 refine sr fun K3 S=>aj z<|aj z<|nl<|S _ _ _<|sr fun K5 T=>mv z<|mv z<|iJ H fun y U V H=>fU (vs := [string a1, int .i64 a2]) DP z z (o4 V hI)<|?_
 rintro _ aY ⟨b, s, c, t, A, B, C, D, rfl⟩
 refine ⟨_, rfl, ?_⟩
 refine mv z<|cK z z<|cK z z<|aj z<|aj z<|nl<|T _ _ _<|sQ fun aZ W=>sr fun a0 X=>mv z<|dW z z<|nl<|X _ _ _<|dC (¬ U = 0) (fun m=>?_) fun m=>?_
 refine yK m H fun H=>wt (bY m)<|sr fun a3 Y=>mv z<|aj z<|aj z<|nl<|Y _ _ _<|wr<|have Z:=Hp.emp B;have aa:=Hp.pick 2 [0] Z z;?_
 cases H
 exact ⟨.inr z, z, _, ⟨_, _, z, z, ⟨_, _, z, z, z⟩⟩, none, 0, _, A, aa, (show ([] : List Int).length ≤ 0 from Nat.le_refl 0), (Dat.nil _ _ _), Own.nil, z⟩
 refine nK m H fun H=>wf (bN m)<|ws<|W _ _ _<|sr fun a4 ab=>aj z<|nl<|ab _ _ _<|sQ fun a5 ad=>sr fun a6 af=>aj z<|nl<|af _ _ _<|wb<|?_
 refine bK H fun d hC H=>?_
 refine aq (Q := fun e r ds w => e = .exit 0 ∧ ∃ (f : Option Addr) (g : Nat) (u : Gh), ds = [] ∧ t ≤ u ∧ Has [(6, slice b s c), (8, slice f d.length g)] r ∧ Hp u (gn t (Kd.int .i64) b [] y [] c 3 :: tk (slice f d.length g) 1 3 :: L) w ∧ d.length ≤ g ∧ Dat (Kd.int .i64) u f d ∧ Own f g ∧ True) ?_ ?_
 refine have ag:=Hp.emp B;have ah:=Hp.pick 2 [1, 0] ag z;aB fun I R=>?_
 refine dz.partial_correctness a1 (fun h a o => ∀ (i : Option Addr) (j : Nat) (v : Gh) (r : Rg) (w : World), t ≤ v → Has [(0, string a1), (6, slice b s c), (8, slice i h.length j), (9, int .i64 a)] r → Hp v (gn t (Kd.int .i64) b [] y [] c 3 :: tk (slice i h.length j) 1 3 :: L) w → h.length ≤ j → Dat (Kd.int .i64) v i h → Own i j → o = d → I r [] w) ?_ ([] : List Int) 0 _ hC none 0 _ _ _ gR ⟨rfl, rfl, rfl, rfl, tv⟩ ah (show ([] : List Int).length ≤ 0 from Nat.le_refl 0) (Dat.nil _ _ _) Own.nil rfl
 intro _ ih h a o H i j v r a7 E k F J K M ho
 rw [ho] at H; clear ho
 rw [k.eq]; clear k
 refine R _ _ _<|sQ fun a8 ai=>sr fun a9 ak=>mv z<|mv z<|cX fA z<|aN z z<|nl<|ak _ _ _<|dC (a < (a1.size : Int)) (fun n=>?_) fun n=>?_
 refine yK n H fun H=>wt (bY n)<|ws<|ai _ _ _<|sQ fun bb al=>wb<|ae<|mv z<|mv z<|?_
 refine mm F (vs := [(0, int .i64 a)]) (cs := [int .i64 a]) dI vI rfl (by decide) rfl rfl (fun bc bd O => ?_)
 refine iK H fun be H=>?_
 refine lu (xs := h) (ys := [a]) (Kd.int .i64) O 2 dI vI rfl rfl rfl rfl M J K (jF O 0 lg rfl rfl) ⟨[int .i64 a], _, rfl, rfl, rfl⟩ rfl (by simp only [List.length_cons, List.length_nil]; omega) (by simp only [List.length_cons, List.length_nil]; omega) (fun am an bf bg ao ap ar au av => ?_)
 exact aj z<|nl<|al _ _ _<|ae<|mv z<|ba z z<|aj z<|nl<|have aw:=Hp.pick 3 [1, 2] av z;ih _ _ _ H am an _ _ _ (gT E ao) ⟨z, z, z, z, tv⟩ aw ar au ap z
 refine nK n H fun H=>wf (bN n)<|wx<|?_
 cases H
 exact ⟨z, i, j, _, z, E, ⟨z, z, tv⟩, F, J, K, M, tv⟩
 rintro e r ds bh ⟨rfl, f, g, u, rfl, P, k, ax, ay, az, bi, _⟩
 rw [k.eq]; clear k
 refine ad _ _ _<|sr fun bj aA=>mv z<|mv z<|have aC:=Hp.rwUp ax 0 z P;bK H fun aD aE H=>fU (vs := [slice f d.length g, slice b s c, int .i64 2]) C7 z z (k8 aE aC ay az C D)<|?_
 rintro _ bk ⟨aF, aG, bl, aH, aI, aJ, aK, bm, rfl⟩
 refine ⟨_, rfl, ?_⟩
 refine mv z<|have aL:=Hp.pick 3 [1, 0, 2] aI z;bK H fun bn aM H=>fU (vs := [slice aF aD.length aG, slice b s c, int .i64 1]) C7 z z (k8 aM aL aJ aK C D)<|?_
 rintro _ bo ⟨aO, aP, bp, aQ, aR, aS, aT, aU, rfl⟩
 refine ⟨_, rfl, ?_⟩
 refine aj z<|aj z<|nl<|aA _ _ _<|wr<|have aV:=Hp.pick 4 [0] aR z;?_
 cases H
 exact ⟨.inr z, z, _, ⟨_, _, z, z, ⟨_, _, z, z, z⟩⟩, aO, aP, _, (gT (gT (gT A P) aH) aQ), aV, aS, aT, aU, z⟩
theorem o7 {a1 a2 t u G L w} (H : ir a1 a2 = some (t, u)) (hI : Hp G L w) :
    Calls Tryz.prog 62 [string a1, int .i64 a2].toArray w fun e w' => Hp G L w' ∧ e = .returned (tuple [string t, int .i64 u].toArray) := by
 refine ac (N := 36) Tryz.func62 z z (Nat.le_of_ble_eq_true z)<|?_
 unfold ir at H
 refine sr fun K3 M=>aj z<|aj z<|nl<|M _ _ _<|sr fun K5 O=>mv z<|mv z<|iJ H fun a P R H=>fU (vs := [string a1, int .i64 a2]) bo94 z z (pB R hI)<|?_
 rintro _ aF ⟨n, p, v, x, y, aG, S, aH, rfl⟩
 refine ⟨_, rfl, ?_⟩
 refine mv z<|cK z z<|cK z z<|aj z<|aj z<|nl<|O _ _ _<|sQ fun aI T=>sr fun aJ U=>mv z<|dW z z<|nl<|U _ _ _<|dC (¬ P = 0) (fun g=>?_) fun g=>?_
 refine yK g H fun H=>wt (bY g)<|sr fun aK V=>mv z<|aj z<|aj z<|nl<|V _ _ _<|wr<|have W:=Hp.pick 1 [] y z;?_
 cases H
 exact rt ⟨_, _, z, z, ⟨_, _, z, z, z⟩⟩ (Hp.low x W)
 refine nK g H fun H=>wf (bN g)<|ws<|T _ _ _<|sr fun aL X=>aj z<|nl<|X _ _ _<|sQ fun aM Y=>sr fun aO Z=>aj z<|nl<|Z _ _ _<|wb<|?_
 refine bK H fun h hC H=>?_
 refine aq (Q := fun e r ds w => e = .exit 0 ∧ ∃ (i : Option Addr) (j : Nat) (l : Gh), ds = [] ∧ v ≤ l ∧ Has [(8, slice i h.length j)] r ∧ Hp l (tk (slice n a.length p) 1 3 :: tk (slice i h.length j) 1 5 :: L) w ∧ h.length ≤ j ∧ Dat (Kd.int .u8) l i h ∧ Own i j ∧ True) ?_ ?_
 refine have aa:=Hp.emp y;have ab:=Hp.pick 2 [1, 0] aa z;aB fun I K=>?_
 refine dh.partial_correctness a1 a (fun b qs o => ∀ (c : Option Addr) (d : Nat) (m : Gh) (r : Rg) (w : World), v ≤ m → Has [(0, string a1), (6, slice n a.length p), (8, slice c b.length d), (9, int .i64 qs)] r → Hp m (tk (slice n a.length p) 1 3 :: tk (slice c b.length d) 1 5 :: L) w → b.length ≤ d → Dat (Kd.int .u8) m c b → Own c d → o = h → I r [] w) ?_ ([] : List Int) 0 _ hC none 0 _ _ _ gR ⟨rfl, rfl, rfl, rfl, tv⟩ ab (show ([] : List Int).length ≤ 0 from Nat.le_refl 0) (Dat.nil _ _ _) Own.nil rfl
 intro _ ih b qs o H c d m r aP q f s A B C ho
 rw [ho] at H; clear ho
 rw [f.eq]; clear f
 refine K _ _ _<|sQ fun aQ ad=>sr fun aR af=>mv z<|mv z<|q_len lg z<|aN z z<|nl<|af _ _ _<|dC (qs < (a.length : Int)) (fun k=>?_) fun k=>?_
 refine yK k H fun H=>wt (bY k)<|ws<|ad _ _ _<|sQ fun aS ag=>wb<|ae<|mv z<|mv z<|mv z<|mv z<|iK H fun⟨D, E⟩H=>?_
 obtain ⟨aT, aU, ah, ai, aV, ak⟩ := Dat.get (Dat.mono q S) (0 : Int) (qs) D E
 obtain rfl := ai
 refine bP dI z ah z D E<|fO s bv z (gR.cel _ _ (ak 0 _ z))<|iK H fun⟨al, am⟩H=>gc fA z z al am z<|?_
 refine mm s (vs := [(0, int .u8 (bt a1 (a.getD (Int.toNat qs) (0 : Int))))]) (cs := [int .u8 (bt a1 (a.getD (Int.toNat qs) (0 : Int)))]) jM Ad rfl (by decide) rfl rfl (fun aW aX F => ?_)
 refine iK H fun aY H=>?_
 refine lu (xs := b) (ys := [bt a1 (a.getD (Int.toNat qs) (0 : Int))]) (Kd.int .u8) F 2 jM Ad rfl rfl rfl rfl C A B (jF F 0 sd rfl rfl) ⟨[int .u8 (bt a1 (a.getD (Int.toNat qs) (0 : Int)))], _, rfl, rfl, rfl⟩ rfl (by simp only [List.length_cons, List.length_nil]; omega) (by simp only [List.length_cons, List.length_nil]; omega) (fun an ao aZ a0 ap ar au av aw => ?_)
 exact aj z<|nl<|ag _ _ _<|ae<|mv z<|ba z z<|aj z<|nl<|have ax:=Hp.pick 3 [1, 2] aw z;ih _ _ _ H an ao _ _ _ (gT q ap) ⟨z, z, z, z, tv⟩ ax au av ar z
 refine nK k H fun H=>wf (bN k)<|wx<|?_
 cases H
 exact ⟨z, c, d, _, z, q, ⟨z, tv⟩, s, A, B, C, tv⟩
 rintro e r ds a3 ⟨rfl, i, j, l, rfl, ay, f, J, a4, az, a5, _⟩
 rw [f.eq]; clear f
 refine Y _ _ _<|sr fun a6 aA=>mv z<|wa J jM Az fA z z az<|aj z<|aj z<|nl<|aA _ _ _<|wr<|have aC:=Hp.pick 2 [] J z;?_
 cases H
 exact rt ⟨_, _, z, z, ⟨_, _, z, z, z⟩⟩ (Hp.low (gT x ay) aC)
theorem pA {a1 a2 b G L w} (H : iR a1 a2 = some b) (hI : Hp G L w) :
    Calls Tryz.prog 63 [int .i64 a1, int .i64 a2].toArray w fun e w' => Hp G L w' ∧ e = .returned (int .i64 b) := by
 refine ac (N := 16) Tryz.func63 z z (Nat.le_of_ble_eq_true z)<|?_
 unfold iR at H
 refine sr fun l d=>aj z<|nl<|d _ _ _<|sr fun m f=>mv z<|mv z<|iK H fun g H=>AX z z g<|aj z<|nl<|f _ _ _<|sQ fun n c=>sr fun o h=>?_
 refine mv z<|mv z<|iK H fun i H=>Eb z z i<|aN z z<|nl<|h _ _ _<|dC ((Int.tmod a1 a2) < 0) (fun a=>?_) fun a=>?_
 refine yK a H fun H=>wt (bY a)<|ae<|mv z<|dl z z<|aj z<|nl<|c _ _ _<|sr fun p j=>mv z<|aj z<|nl<|j _ _ _<|wr<|?_
 cases H
 exact rt ⟨_, _, z, z, z⟩ hI
 refine nK a H fun H=>wf (bN a)<|ws<|c _ _ _<|sr fun q k=>mv z<|aj z<|nl<|k _ _ _<|wr<|?_
 cases H
 exact rt ⟨_, _, z, z, z⟩ hI
theorem lX {a1 a10 r c d a b Q R S T U V W G L w} (H : eE a1 a10 r c d a b = some (U, V, W)) (hI : Hp G L w) (X : a1.Glyphs.length ≤ R) (Y : Dat au G Q a1.Glyphs) (Z : a1.Kerns.length ≤ T) (aa : Dat ay G S a1.Kerns) :
    Calls Tryz.prog 31 [agg [slice Q a1.Glyphs.length R, slice S a1.Kerns.length T].toArray, string a10, agg [int .i64 r.From, int .i64 r.Until, int .i64 r.Width, bool r.Hyphen].toArray, int .i64 c, int .i64 d, int .i64 a, int .i64 b].toArray w fun e w' => Hp G L w' ∧ e = .returned (tuple [string U, int .i64 V, int .i64 W].toArray) := by
 refine ac (N := 126) Tryz.func31 z z (Nat.le_of_ble_eq_true z)<|?_
 unfold eE at H
 refine sr fun bi aq=>io hI z z fun h bj ar=>io ar z z fun i bk ab=>aj z<|aj z<|aj z<|nl<|aq _ _ _<|sr fun bl av=>d9 ab 1 fw z z z z<|bK H fun aw ax H=>cv BR (gW ax ab X Y Z aa) z z fun bm az=>aj z<|nl<|?_
 refine av _ _ _<|sr fun bn aA=>mv z<|bK H fun bo aB H=>cv xh (cH aB az) z z fun bp aC=>aj z<|nl<|aA _ _ _<|sr fun bq aD=>mv z<|bK H fun aE aF H=>cv DN (lA aF aC) z z fun br aG=>aj z<|nl<|?_
 refine aD _ _ _<|sr fun bs aH=>mv z<|bK H fun ad aI H=>cv ES (mG aI aG) z z fun bt E=>aj z<|nl<|aH _ _ _<|sQ fun bu aJ=>sr fun bw aK=>mv z<|be z<|mv z<|bK H fun ae hC H=>?_
 refine js 3 E [(1, string a10), (3, int .i64 c), (4, int .i64 d), (5, int .i64 a), (6, int .i64 b), (7, pointer (some ⟨h, 0, none⟩)), (9, pointer (some ⟨i, 0, none⟩)), (19, bool aE), (20, bool ad), (39, bool ae)] ?_ fun _ bx F=>?_
 refine have H:=hC;dC ((!aw) = true) (fun k=>?_) fun k=>?_
 refine yK k H fun H=>Sk 2 z z (vY k) z<|bR (vY k) z<|nl<|?_
 cases H
 exact je ⟨z, z, z, z, z, z, z, z, z, z, tv⟩ E
 refine nK k H fun H=>mv (hw:=gY z z z (vN k)) z<|be (hw:=gY z z z (vN k)) z<|b7 (vN k) z<|nl<|?_
 cases H
 exact je ⟨z, z, z, z, z, z, z, z, z, z, tv⟩ E
 refine mv z<|bK H fun af hC H=>js 3 F [(1, string a10), (3, int .i64 c), (4, int .i64 d), (5, int .i64 a), (6, int .i64 b), (7, pointer (some ⟨h, 0, none⟩)), (9, pointer (some ⟨i, 0, none⟩)), (20, bool ad), (43, bool af)] ?_ fun _ bz I=>?_
 refine have H:=hC;dC (ae = true) (fun l=>?_) fun l=>?_
 refine yK l H fun H=>Sk 2 z z (vY l) z<|bR (vY l) z<|nl<|?_
 cases H
 exact je ⟨z, z, z, z, z, z, z, z, z, tv⟩ F
 refine nK l H fun H=>mv (hw:=gY z z z (vN l)) z<|be (hw:=gY z z z (vN l)) z<|b7 (vN l) z<|nl<|?_
 cases H
 exact je ⟨z, z, z, z, z, z, z, z, z, tv⟩ F
 refine mv z<|bK H fun ag hC H=>js 3 I [(1, string a10), (3, int .i64 c), (4, int .i64 d), (5, int .i64 a), (6, int .i64 b), (7, pointer (some ⟨h, 0, none⟩)), (9, pointer (some ⟨i, 0, none⟩)), (47, bool ag)] ?_ fun _ bB J=>?_
 refine have H:=hC;dC (af = true) (fun m=>?_) fun m=>?_
 refine yK m H fun H=>Sk 2 z z (vY m) z<|bR (vY m) z<|nl<|?_
 cases H
 exact je ⟨z, z, z, z, z, z, z, z, tv⟩ I
 refine nK m H fun H=>mv (hw:=gY z z z (vN m)) z<|be (hw:=gY z z z (vN m)) z<|b7 (vN m) z<|nl<|?_
 cases H
 exact je ⟨z, z, z, z, z, z, z, z, tv⟩ I
 refine mv z<|bK H fun ah hC H=>js 3 J [(1, string a10), (3, int .i64 c), (4, int .i64 d), (5, int .i64 a), (6, int .i64 b), (7, pointer (some ⟨h, 0, none⟩)), (9, pointer (some ⟨i, 0, none⟩)), (51, bool ah)] ?_ fun _ bC K=>?_
 refine have H:=hC;dC (ag = true) (fun n=>?_) fun n=>?_
 refine yK n H fun H=>Sk 2 z z (vY n) z<|bR (vY n) z<|nl<|?_
 cases H
 exact je ⟨z, z, z, z, z, z, z, z, tv⟩ J
 refine nK n H fun H=>mv (hw:=gY z z z (vN n)) z<|aN (hw:=gY z z z (vN n)) z z<|b7 (vN n) z<|nl<|?_
 cases H
 exact je ⟨z, z, z, z, z, z, z, z, tv⟩ J
 refine mv z<|bK H fun ai hC H=>js 3 K [(1, string a10), (3, int .i64 c), (4, int .i64 d), (5, int .i64 a), (6, int .i64 b), (7, pointer (some ⟨h, 0, none⟩)), (9, pointer (some ⟨i, 0, none⟩)), (55, bool ai)] ?_ fun _ bD M=>?_
 refine have H:=hC;dC (ah = true) (fun o=>?_) fun o=>?_
 refine yK o H fun H=>Sk 2 z z (vY o) z<|bR (vY o) z<|nl<|?_
 cases H
 exact je ⟨z, z, z, z, z, z, z, z, tv⟩ K
 refine nK o H fun H=>mv (hw:=gY z z z (vN o)) z<|cc (hw:=gY z z z (vN o)) z z<|b7 (vN o) z<|nl<|?_
 cases H
 exact je ⟨z, z, z, z, z, z, z, z, tv⟩ K
 refine mv z<|bK H fun ak hC H=>js 3 M [(1, string a10), (3, int .i64 c), (4, int .i64 d), (5, int .i64 a), (6, int .i64 b), (7, pointer (some ⟨h, 0, none⟩)), (9, pointer (some ⟨i, 0, none⟩)), (59, bool ak)] ?_ fun _ bE O=>?_
 refine have H:=hC;dC (ai = true) (fun p=>?_) fun p=>?_
 refine yK p H fun H=>Sk 2 z z (vY p) z<|bR (vY p) z<|nl<|?_
 cases H
 exact je ⟨z, z, z, z, z, z, z, z, tv⟩ M
 refine nK p H fun H=>mv (hw:=gY z z z (vN p)) z<|aN (hw:=gY z z z (vN p)) z z<|b7 (vN p) z<|nl<|?_
 cases H
 exact je ⟨z, z, z, z, z, z, z, z, tv⟩ M
 refine mv z<|bK H fun al hC H=>js 3 O [(1, string a10), (3, int .i64 c), (4, int .i64 d), (5, int .i64 a), (6, int .i64 b), (7, pointer (some ⟨h, 0, none⟩)), (9, pointer (some ⟨i, 0, none⟩)), (63, bool al)] ?_ fun _ bF B=>?_
 refine have H:=hC;dC (ak = true) (fun q=>?_) fun q=>?_
 refine yK q H fun H=>Sk 2 z z (vY q) z<|bR (vY q) z<|nl<|?_
 cases H
 exact je ⟨z, z, z, z, z, z, z, z, tv⟩ O
 refine nK q H fun H=>mv (hw:=gY z z z (vN q)) z<|cc (hw:=gY z z z (vN q)) z z<|b7 (vN q) z<|nl<|?_
 cases H
 exact je ⟨z, z, z, z, z, z, z, z, tv⟩ O
 refine mv z<|bK H fun am hC H=>js 4 B [(1, string a10), (3, int .i64 c), (4, int .i64 d), (5, int .i64 a), (6, int .i64 b), (7, pointer (some ⟨h, 0, none⟩)), (9, pointer (some ⟨i, 0, none⟩)), (68, bool am)] ?_ fun _ bG s=>?_
 refine have H:=hC;dC (al = true) (fun j=>?_) fun j=>?_
 refine yK j H fun H=>Sk 3 z z (vY j) z<|bR (vY j) z<|nl<|?_
 cases H
 exact je ⟨z, z, z, z, z, z, z, z, tv⟩ B
 refine nK j H fun H=>fa (hw:=gY z z z (vN j)) sG z<|ld (hw:=gY z z z (vN j)) B 0 bv z z z<|aN (hw:=gY z z z (vN j)) z z<|b7 (vN j) z<|nl<|?_
 cases H
 exact je ⟨z, z, z, z, z, z, z, z, tv⟩ B
 refine mv z<|bK H fun an hC H=>js 6 s [(1, string a10), (3, int .i64 c), (4, int .i64 d), (5, int .i64 a), (6, int .i64 b), (7, pointer (some ⟨h, 0, none⟩)), (9, pointer (some ⟨i, 0, none⟩)), (75, bool an)] ?_ fun _ bH C=>?_
 refine have H:=hC;dC (am = true) (fun f=>?_) fun f=>?_
 refine yK f H fun H=>Sk 5 z z (vY f) z<|bR (vY f) z<|nl<|?_
 cases H
 exact je ⟨z, z, z, z, z, z, z, z, tv⟩ s
 refine nK f H fun H=>fa (hw:=gY z z z (vN f)) sG z<|ld (hw:=gY z z z (vN f)) s 0 bv z z z<|fa (hw:=gY z z z (vN f)) nG z<|ld (hw:=gY z z z (vN f)) s 0 bv z z z<|gM (hw:=gY z z z (vN f)) z z<|b7 (vN f) z<|nl<|?_
 cases H
 exact je ⟨z, z, z, z, z, z, z, z, tv⟩ s
 refine mv z<|bK H fun ao hC H=>js 6 C [(1, string a10), (3, int .i64 c), (4, int .i64 d), (5, int .i64 a), (6, int .i64 b), (7, pointer (some ⟨h, 0, none⟩)), (9, pointer (some ⟨i, 0, none⟩)), (82, bool ao)] ?_ fun _ bI t=>?_
 refine have H:=hC;dC (an = true) (fun g=>?_) fun g=>?_
 refine yK g H fun H=>Sk 5 z z (vY g) z<|bR (vY g) z<|nl<|?_
 cases H
 exact je ⟨z, z, z, z, z, z, z, z, tv⟩ C
 refine nK g H fun H=>fa (hw:=gY z z z (vN g)) nG z<|ld (hw:=gY z z z (vN g)) C 0 bv z z z<|mv (hw:=gY z z z (vN g)) z<|cX (hw:=gY z z z (vN g)) fA z<|cc (hw:=gY z z z (vN g)) z z<|b7 (vN g) z<|nl<|?_
 cases H
 exact je ⟨z, z, z, z, z, z, z, z, tv⟩ C
 refine nl<|aK _ _ _<|dC (ao = true) (fun u=>?_) fun u=>?_
 refine yK u H fun H=>wt (vY u)<|sr fun bJ aL=>aj z<|aj z<|aj z<|nl<|aL _ _ _<|wr<|have aM:=Hp.pick 2 [] t z;?_
 cases H
 exact rt ⟨_, _, z, z, ⟨_, _, z, z, ⟨_, _, z, z, z⟩⟩⟩ aM
 refine nK u H fun H=>wf (vN u)<|ws<|aJ _ _ _<|sr fun bL aO=>mv z<|fa sG z<|ld t 0 bv z z z<|fa nG z<|ld t 0 bv z z z<|fa Al z<|ld t 0 zU z z z<|bK H fun bM aP H=>cv D4 (mB aP t) z z fun bO ap=>?_
 refine aj z<|nl<|aO _ _ _<|sr fun bP aQ=>d9 ap 1 fw z z z z<|mv z<|mv z<|iJ H fun aR aS aT H=>cv DO (lW aT ap X Y Z aa) z z fun bQ D=>mv z<|cK z z<|cK z z<|aj z<|aj z<|?_
 refine nl<|aQ _ _ _<|sQ fun bS aU=>sr fun bT aV=>mv z<|dW z z<|nl<|aV _ _ _<|dC (¬ aS = 0) (fun v=>?_) fun v=>?_
 refine yK v H fun H=>wt (bY v)<|sr fun bU aW=>mv z<|aj z<|aj z<|aj z<|nl<|aW _ _ _<|wr<|have aX:=Hp.pick 2 [] D z;?_
 cases H
 exact rt ⟨_, _, z, z, ⟨_, _, z, z, ⟨_, _, z, z, z⟩⟩⟩ aX
 refine nK v H fun H=>wf (bN v)<|ws<|aU _ _ _<|sQ fun bV aY=>sr fun bW aZ=>mv z<|fa ng z<|ld D 0 bv z z z<|dW z z<|nl<|aZ _ _ _<|dC (¬ aR = r.Width) (fun x=>?_) fun x=>?_
 refine yK x H fun H=>wt (bY x)<|sr fun bX a0=>aj z<|aj z<|aj z<|nl<|a0 _ _ _<|wr<|have a2:=Hp.pick 2 [] D z;?_
 cases H
 exact rt ⟨_, _, z, z, ⟨_, _, z, z, ⟨_, _, z, z, z⟩⟩⟩ a2
 refine nK x H fun H=>wf (bN x)<|ws<|aY _ _ _<|sr fun bZ a3=>mv z<|mv z<|iJ H fun b0 b1 a4 H=>cv bo62 (o7 a4 D) z z fun b2 P=>mv z<|cK z z<|cK z z<|aj z<|aj z<|?_
 refine nl<|a3 _ _ _<|sQ fun b3 a5=>sr fun b4 a6=>mv z<|bA z z<|nl<|a6 _ _ _<|dC (a = 2) (fun y=>?_) fun y=>?_
 refine yK y H fun H=>wt (bY y)<|sr fun b5 a7=>mv z<|mv z<|mv z<|dl z z<|bK H fun b6 a8 H=>cv bo63 (pA a8 P) z z fun b8 a9=>aj z<|aj z<|aj z<|nl<|a7 _ _ _<|?_
 refine wr<|have ba:=Hp.pick 2 [] a9 z;?_
 cases H
 exact rt ⟨_, _, z, z, ⟨_, _, z, z, ⟨_, _, z, z, z⟩⟩⟩ ba
 refine nK y H fun H=>wf (bN y)<|ws<|a5 _ _ _<|sQ fun b9 bb=>sr fun ca bc=>mv z<|mv z<|bA z z<|nl<|bc _ _ _<|dC (a = b) (fun A=>?_) fun A=>?_
 refine yK A H fun H=>wt (bY A)<|sr fun cb bd=>mv z<|aj z<|aj z<|aj z<|nl<|bd _ _ _<|wr<|have bf:=Hp.pick 2 [] P z;?_
 cases H
 exact rt ⟨_, _, z, z, ⟨_, _, z, z, ⟨_, _, z, z, z⟩⟩⟩ bf
 refine nK A H fun H=>wf (bN A)<|ws<|bb _ _ _<|sr fun cd bg=>mv z<|mv z<|mv z<|dl z z<|aj z<|aj z<|aj z<|nl<|bg _ _ _<|?_
 refine wr<|have bh:=Hp.pick 2 [] P z;?_
 cases H
 exact rt ⟨_, _, z, z, ⟨_, _, z, z, ⟨_, _, z, z, z⟩⟩⟩ bh
theorem pz {a1 a10 c s a17 t u v aQ a22 y A B C D E X Y ap bo bp G L w} (H : gv a1 a10 c s a17 t u v aQ a22 = some (ap, bo, bp)) (hI : Hp G L w) (Z : a1.Glyphs.length ≤ A) (aa : Dat au G y a1.Glyphs) (ab : a1.Kerns.length ≤ C) (ad : Dat ay G B a1.Kerns) (aR : a10.Keep.length ≤ E) (aS : Dat Kd.str G D a10.Keep) (ar : a22.length ≤ Y) (av : Dat bm G X a22) :
    Calls Tryz.prog 13 [agg [slice y a1.Glyphs.length A, slice B a1.Kerns.length C].toArray, agg [int .i64 a10.Before, int .i64 a10.Behind, slice D a10.Keep.length E].toArray, string c, int .i64 s, int .i64 a17, int .i64 t, int .i64 u, int .i64 v, int .i64 aQ, slice X a22.length Y].toArray w fun e w' => ∃ (aT : Option Addr) (aU : Nat) (G' : Gh), G ≤ G' ∧ Hp G' (tk (slice aT ap.length aU) 5 50 :: L) w' ∧ ap.length ≤ aU ∧ Dat b6 G' aT ap ∧ Own aT aU ∧ e = .returned (tuple [slice aT ap.length aU, int .i64 bo, int .i64 bp].toArray) := by
 refine ac (N := 159) Tryz.func13 z z (Nat.le_of_ble_eq_true z)<|?_
 unfold gv at H
 refine sr fun em bF=>io hI z z fun j en bG=>io bG z z fun k eo a3=>aj z<|aj z<|aj z<|nl<|bF _ _ _<|sQ fun ep bH=>sr fun er bI=>d9 a3 1 fw z z z z<|d9 a3 0 jT z z z z<|mv z<|mv z<|?_
 refine mv z<|mv z<|mv z<|mv z<|mv z<|mv z<|bK H fun bJ bL H=>cv bo27 (qc bL a3 Z aa ab ad aR aS ar av) z z fun es aw=>be z<|nl<|bI _ _ _<|dC ((!bJ) = true) (fun az=>?_) fun az=>?_
 refine yK az H fun H=>wt (vY az)<|sr fun et bM=>aj z<|aj z<|aj z<|nl<|bM _ _ _<|wr<|have bP:=Hp.emp aw;have bQ:=Hp.pick 3 [0] bP z;?_
 cases H
 exact ⟨.inr z, z, _, ⟨_, _, z, z, ⟨_, _, z, z, ⟨_, _, z, z, z⟩⟩⟩, none, 0, _, gR, bQ, (show ([] : List an).length ≤ 0 from Nat.le_refl 0), (Dat.nil _ _ _), Own.nil, z⟩
 refine nK az H fun H=>wf (vN az)<|ws<|bH _ _ _<|sQ fun eu bq=>sr fun ev bS=>mv z<|cX fA z<|cc z z<|nl<|bS _ _ _<|dC (0 < (c.size : Int)) (fun aA=>?_) fun aA=>?_
 refine yK aA H fun H=>wt (bY aA)<|sr fun ew bT=>d9 aw 1 fw z z z z<|d9 aw 0 jT z z z z<|mv z<|mv z<|mv z<|iJ H fun b bU bV H=>cv Do (j4 bV aw Z aa ab ad aR aS) z z fun ex bW=>mv z<|cK z z<|cK z z<|aM bW mO fun a4 ey bX=>?_
 refine fX bX 0 gy z z z z z z z fun ez br=>aj z<|nl<|bT _ _ _<|sr fun eA bZ=>mv z<|dW z z<|nl<|bZ _ _ _<|dC (¬ bU = 0) (fun aC=>?_) fun aC=>?_
 refine yK aC H fun H=>wt (bY aC)<|sr fun eB b0=>mv z<|aj z<|aj z<|aj z<|nl<|b0 _ _ _<|wr<|have b1:=Hp.emp br;have b2:=Hp.pick 4 [0] b1 z;?_
 cases H
 exact ⟨.inr z, z, _, ⟨_, _, z, z, ⟨_, _, z, z, ⟨_, _, z, z, z⟩⟩⟩, none, 0, _, gR, b2, (show ([] : List an).length ≤ 0 from Nat.le_refl 0), (Dat.nil _ _ _), Own.nil, z⟩
 refine nK aC H fun H=>wf (bN aC)<|ws<|bq _ _ _<|sr fun eC b3=>aj z<|nl<|b3 _ _ _<|sr fun eD b4=>aj z<|nl<|b4 _ _ _<|sr fun eE b5=>mv z<|?_
 refine iJ H fun b8 eF b9 H=>cv Ch (gV b9 br) z z fun eG ca=>mv z<|cK z z<|cK z z<|aj z<|aj z<|nl<|b5 _ _ _<|sr fun eH cb=>mv z<|aj z<|nl<|cb _ _ _<|?_
 refine sQ fun eI cd=>wb<|bK H fun a5 hC H=>?_
 refine aq (Q := fun e r ds w => match (generalizing := false) a5 with | (Sum.inl _) => e = .ret ∧ ds = [] ∧ Has [(20, slice none 0 0), (21, int .i64 0), (22, int .i64 3)] r ∧ Hp G (bx a4 [int .i64 b.From, int .i64 b.Until, int .i64 b.Width, bool b.Hyphen] 46 :: bx k [int .i64 a10.Before, int .i64 a10.Behind, slice D a10.Keep.length E] 28 :: bx j [slice y a1.Glyphs.length A, slice B a1.Kerns.length C] 25 :: L) w ∧ True | (Sum.inr (aD, a6)) => e = .exit 0 ∧ ∃ (af : Option Addr) (ag : Nat) (aV : Gh), ds = [] ∧ G ≤ aV ∧ Has [(25, slice af aD.length ag), (29, int .i64 a6)] r ∧ Hp aV (bx a4 [int .i64 b.From, int .i64 b.Until, int .i64 b.Width, bool b.Hyphen] 46 :: bx k [int .i64 a10.Before, int .i64 a10.Behind, slice D a10.Keep.length E] 28 :: bx j [slice y a1.Glyphs.length A, slice B a1.Kerns.length C] 25 :: tk (slice af aD.length ag) 5 50 :: L) w ∧ aD.length ≤ ag ∧ Dat b6 aV af aD ∧ Own af ag ∧ True) ?_ ?_
 refine have ce:=Hp.emp ca;have cf:=Hp.pick 4 [1, 2, 3, 0] ce z;aB fun I a2=>?_
 refine cp.partial_correctness a1 a10 c s a17 t u v a22 (fun R a7 aW d o => ∀ (F : Option Addr) (J : Nat) (aX : Gh) (r : Rg) (w : World), G ≤ aX → Has [(2, string c), (3, int .i64 s), (4, int .i64 a17), (5, int .i64 t), (6, int .i64 u), (7, int .i64 v), (9, slice X a22.length Y), (10, pointer (some ⟨j, 0, none⟩)), (11, pointer (some ⟨k, 0, none⟩)), (25, slice F R.length J), (26, int .i64 a7), (27, int .i64 aW), (29, int .i64 d)] r → Hp aX (bx a4 [int .i64 b.From, int .i64 b.Until, int .i64 b.Width, bool b.Hyphen] 46 :: bx k [int .i64 a10.Before, int .i64 a10.Behind, slice D a10.Keep.length E] 28 :: bx j [slice y a1.Glyphs.length A, slice B a1.Kerns.length C] 25 :: tk (slice F R.length J) 5 50 :: L) w → R.length ≤ J → Dat b6 aX F R → Own F J → o = a5 → I r [] w) ?_ ([] : List an) 0 b8 aQ _ hC none 0 _ _ _ gR ⟨rfl, rfl, rfl, rfl, rfl, rfl, rfl, rfl, rfl, rfl, rfl, rfl, rfl, tv⟩ cf (show ([] : List an).length ≤ 0 from Nat.le_refl 0) (Dat.nil _ _ _) Own.nil rfl
 intro _ ih R a7 aW d o H F J aX r eJ f a a8 a9 bb bc ho
 rw [ho] at H; clear ho
 rw [a.eq]; clear a
 refine a2 _ _ _<|sQ fun eK cg=>sr fun eL ch=>mv z<|cc z z<|nl<|ch _ _ _<|dC (0 < aW) (fun aE=>?_) fun aE=>?_
 refine yK aE H fun H=>wt (bY aE)<|ws<|cg _ _ _<|wb<|sQ fun eM ci=>sr fun eN cj=>mv z<|cc z z<|nl<|cj _ _ _<|dC (1000000000 < d) (fun aF=>?_) fun aF=>?_
 refine yK aF H fun H=>wt (bY aF)<|sr fun eO ck=>aj z<|aj z<|aj z<|nl<|ck _ _ _<|wr<|have cl:=Hp.pick 4 [0, 1, 2] a8 z;?_
 cases H
 exact ⟨z, z, ⟨z, z, z, tv⟩, (Hp.low f cl), tv⟩
 refine nK aF H fun H=>wf (bN aF)<|ws<|ci _ _ _<|sr fun eP cm=>mv z<|mv z<|mv z<|mv z<|iJ H fun m eQ cn H=>cv DY (mD cn a8 ar (Dat.mono f av)) z z fun eR co=>mv z<|cK z z<|cK z z<|?_
 refine aM co rp fun cq eS cr=>fX cr 0 oF z z z z z z z fun eT aG=>aj z<|nl<|cm _ _ _<|sr fun eU ct=>d9 aG 3 fw z z z z<|d9 aG 2 jT z z z z<|mv z<|mv z<|mv z<|fa kN z<|ld aG 0 bv z z z<|fa kn z<|?_
 refine ld aG 0 bv z z z<|dl z z<|iJ H fun n eV cu H=>cv Do (j4 cu aG Z (Dat.mono f aa) ab (Dat.mono f ad) aR (Dat.mono f aS)) z z fun eW cw=>mv z<|cK z z<|cK z z<|aM cw mO fun cx eX cy=>fX cy 0 gy z z z z z z z fun eY cz=>aj z<|nl<|ct _ _ _<|sr fun eZ cA=>mv z<|?_
 refine mv z<|mv z<|bK H fun cB cC H=>cv DR (lx cC cz ar (Dat.mono f av)) z z fun e0 ah=>aj z<|nl<|cA _ _ _<|sQ fun e1 cD=>sr fun e2 cE=>fa ng z<|ld ah 0 bv z z z<|fa kN z<|ld ah 1 bv z z z<|fa kn z<|?_
 refine ld ah 1 bv z z z<|dl z z<|cc z z<|mv z<|bK H fun bs hC H=>?_
 refine js 3 ah [(2, string c), (3, int .i64 s), (4, int .i64 a17), (5, int .i64 t), (6, int .i64 u), (7, int .i64 v), (9, slice X a22.length Y), (10, pointer (some ⟨j, 0, none⟩)), (11, pointer (some ⟨k, 0, none⟩)), (25, slice F R.length J), (26, int .i64 a7), (27, int .i64 aW), (29, int .i64 d), (30, pointer (some ⟨cq, 0, none⟩)), (32, pointer (some ⟨cx, 0, none⟩)), (34, int .i64 cB), (112, bool bs)] ?_ fun _ e3 ai=>?_
 refine have H:=hC;dC ((ax (m.Hi - m.Lo)) < n.Width) (fun K=>?_) fun K=>?_
 refine yK K H fun H=>mv (hw:=gY z z z (bY K)) z<|gM (hw:=gY z z z (bY K)) z z<|bR (bY K) z<|nl<|?_
 cases H
 exact je ⟨z, z, z, z, z, z, z, z, z, z, z, z, z, z, z, z, z, tv⟩ ah
 refine nK K H fun H=>Sk 2 z z (bN K) z<|b7 (bN K) z<|nl<|?_
 cases H
 exact je ⟨z, z, z, z, z, z, z, z, z, z, z, z, z, z, z, z, z, tv⟩ ah
 refine nl<|cE _ _ _<|dC (bs = true) (fun aH=>?_) fun aH=>?_
 exact yK aH H fun H=>wt (vY aH)<|sr fun e4 cF=>mv z<|aj z<|nl<|cF _ _ _<|wx<|have cG:=Hp.pick 6 [2, 3, 4, 5] ai z;ih _ _ _ _ _ H F J _ _ _ f ⟨z, z, z, z, z, z, z, z, z, z, z, z, z, tv⟩ cG a9 bb bc z
 refine nK aH H fun H=>wf (vN aH)<|ws<|cD _ _ _<|sr fun e5 cH=>d9 ai 4 fw z z z z<|mv z<|d9 ai 0 gy z z z z<|mv z<|fa kN z<|ld ai 1 bv z z z<|fa kn z<|ld ai 1 bv z z z<|dl z z<|?_
 refine mv z<|mv z<|xr H fun S T e6 cI H=>cv DG (lX cI ai Z (Dat.mono f aa) ab (Dat.mono f ad)) z z fun e7 bd=>mv z<|cK z z<|cK z z<|cK z z<|aj z<|aj z<|aj z<|nl<|cH _ _ _<|sr fun e8 cJ=>?_
 refine mv z<|mv z<|fa kn z<|ld bd 1 bv z z z<|mv z<|ba z z<|mv z<|fa ng z<|ld bd 0 bv z z z<|mv z<|bO (vs := [(0, string S), (1, int .i64 (ax (m.Lo + T))), (2, int .i64 d), (3, int .i64 n.Width), (4, int .i64 a17)]) (cs := [string S, int .i64 (ax (m.Lo + T)), int .i64 d, int .i64 n.Width, int .i64 a17]) oX uv z z<|?_
 refine mm bd (vs := [(0, agg [string S, int .i64 (ax (m.Lo + T)), int .i64 d, int .i64 n.Width, int .i64 a17].toArray)]) (cs := [string S, int .i64 (ax (m.Lo + T)), int .i64 d, int .i64 n.Width, int .i64 a17]) ut oX rfl (by decide) rfl rfl (fun e9 fb bt => ?_)
 refine iK H fun fc H=>?_
 refine lu (xs := R) (ys := [(⟨S, ax (m.Lo + T), d, n.Width, a17⟩ : an)]) b6 bt 6 ut oX rfl rfl rfl rfl bc a9 bb (jF bt 0 yh rfl rfl) ⟨[string S, int .i64 (ax (m.Lo + T)), int .i64 d, int .i64 n.Width, int .i64 a17], _, rfl, (iZ (x := (⟨S, ax (m.Lo + T), d, n.Width, a17⟩ : an))), rfl⟩ rfl (by simp only [List.length_cons, List.length_nil]; omega) (by simp only [List.length_cons, List.length_nil]; omega) (fun cL cM fd fe cN cO cP cQ bu => ?_)
 refine aj z<|nl<|cJ _ _ _<|sr fun ff cR=>mv z<|mv z<|ba z z<|aj z<|nl<|cR _ _ _<|sr fun fg cS=>fa nG z<|ld bu 1 bv z z z<|aj z<|?_
 refine nl<|cS _ _ _<|ae<|mv z<|mv z<|iK H fun⟨cT, cU⟩H=>ug (l := n.Until) (h := (c.size : Int)) fA z (.inr ⟨_, z, z⟩) (.inl ⟨z, z⟩) cT cU (Int.le_refl _)<|iJ H fun fh fi cV H=>cv Ch (gV cV bu) z z fun fj cW=>mv z<|cK z z<|cK z z<|aj z<|nl<|?_
 exact have cY:=Hp.pick 7 [3, 4, 5, 6] cW z;ih _ _ _ _ _ H cL cM _ _ _ (gT f cN) ⟨z, z, z, z, z, z, z, z, z, z, z, z, z, tv⟩ cY cP cQ cO z
 refine nK aE H fun H=>wf (bN aE)<|wx<|?_
 cases H
 exact ⟨z, F, J, _, z, f, ⟨z, z, tv⟩, a8, a9, bb, bc, tv⟩
 rcases a5 with _ | ⟨aD, a6⟩
 rintro e r ds fk ⟨rfl, rfl, a, cZ, _⟩
 rw [a.eq]; clear a
 refine have c0:=Hp.emp cZ;have c1:=Hp.pick 4 [0] c0 z;?_
 cases H
 exact ⟨.inr z, z, _, ⟨_, _, z, z, ⟨_, _, z, z, ⟨_, _, z, z, z⟩⟩⟩, none, 0, _, gR, c1, (show ([] : List an).length ≤ 0 from Nat.le_refl 0), (Dat.nil _ _ _), Own.nil, z⟩
 rintro e r ds fl ⟨rfl, af, ag, aV, rfl, bw, a, bz, c2, c4, c5, _⟩
 rw [a.eq]; clear a
 refine cd _ _ _<|sQ fun fm c6=>sr fun fn c8=>mv z<|cc z z<|nl<|c8 _ _ _<|dC (1000000000 < a6) (fun aI=>?_) fun aI=>?_
 refine yK aI H fun H=>wt (bY aI)<|sr fun fo c9=>aj z<|aj z<|aj z<|nl<|c9 _ _ _<|wr<|have da:=Hp.emp bz;have db:=Hp.pick 5 [0] da z;?_
 cases H
 exact ⟨.inr z, z, _, ⟨_, _, z, z, ⟨_, _, z, z, ⟨_, _, z, z, z⟩⟩⟩, none, 0, _, bw, db, (show ([] : List an).length ≤ 0 from Nat.le_refl 0), (Dat.nil _ _ _), Own.nil, z⟩
 refine nK aI H fun H=>wf (bN aI)<|ws<|c6 _ _ _<|sr fun fp dc=>mv z<|mv z<|aj z<|aj z<|aj z<|nl<|dc _ _ _<|wr<|have dd:=Hp.pick 4 [3] bz z;?_
 cases H
 exact ⟨.inr z, z, _, ⟨_, _, z, z, ⟨_, _, z, z, ⟨_, _, z, z, z⟩⟩⟩, af, ag, _, bw, dd, c2, c4, c5, z⟩
 refine nK aA H fun H=>wf (bN aA)<|ws<|bq _ _ _<|sr fun fq de=>aj z<|nl<|de _ _ _<|sr fun fr df=>aj z<|nl<|df _ _ _<|sr fun fs dh=>mv z<|?_
 refine iJ H fun di ft dj H=>cv Ch (gV dj aw) z z fun fu dk=>mv z<|cK z z<|cK z z<|aj z<|aj z<|nl<|dh _ _ _<|sr fun fv dm=>mv z<|aj z<|nl<|dm _ _ _<|?_
 refine sQ fun fx dn=>wb<|bK H fun bf hC H=>?_
 refine aq (Q := fun e r ds w => match (generalizing := false) bf with | (Sum.inl _) => e = .ret ∧ ds = [] ∧ Has [(20, slice none 0 0), (21, int .i64 0), (22, int .i64 3)] r ∧ Hp G (bx k [int .i64 a10.Before, int .i64 a10.Behind, slice D a10.Keep.length E] 28 :: bx j [slice y a1.Glyphs.length A, slice B a1.Kerns.length C] 25 :: L) w ∧ True | (Sum.inr (aJ, bg)) => e = .exit 0 ∧ ∃ (ak : Option Addr) (al : Nat) (aY : Gh), ds = [] ∧ G ≤ aY ∧ Has [(25, slice ak aJ.length al), (29, int .i64 bg)] r ∧ Hp aY (bx k [int .i64 a10.Before, int .i64 a10.Behind, slice D a10.Keep.length E] 28 :: bx j [slice y a1.Glyphs.length A, slice B a1.Kerns.length C] 25 :: tk (slice ak aJ.length al) 5 50 :: L) w ∧ aJ.length ≤ al ∧ Dat b6 aY ak aJ ∧ Own ak al ∧ True) ?_ ?_
 refine have dp:=Hp.emp dk;have dq:=Hp.pick 3 [1, 2, 0] dp z;aB fun I a2=>?_
 refine dg.partial_correctness a1 a10 c s a17 t u v a22 (fun U bh aZ g o => ∀ (M : Option Addr) (O : Nat) (a0 : Gh) (r : Rg) (w : World), G ≤ a0 → Has [(2, string c), (3, int .i64 s), (4, int .i64 a17), (5, int .i64 t), (6, int .i64 u), (7, int .i64 v), (9, slice X a22.length Y), (10, pointer (some ⟨j, 0, none⟩)), (11, pointer (some ⟨k, 0, none⟩)), (25, slice M U.length O), (26, int .i64 bh), (27, int .i64 aZ), (29, int .i64 g)] r → Hp a0 (bx k [int .i64 a10.Before, int .i64 a10.Behind, slice D a10.Keep.length E] 28 :: bx j [slice y a1.Glyphs.length A, slice B a1.Kerns.length C] 25 :: tk (slice M U.length O) 5 50 :: L) w → U.length ≤ O → Dat b6 a0 M U → Own M O → o = bf → I r [] w) ?_ ([] : List an) 0 di aQ _ hC none 0 _ _ _ gR ⟨rfl, rfl, rfl, rfl, rfl, rfl, rfl, rfl, rfl, rfl, rfl, rfl, rfl, tv⟩ dq (show ([] : List an).length ≤ 0 from Nat.le_refl 0) (Dat.nil _ _ _) Own.nil rfl
 intro _ ih U bh aZ g o H M O a0 r fy i a bi bj bk bl ho
 rw [ho] at H; clear ho
 rw [a.eq]; clear a
 refine a2 _ _ _<|sQ fun fz dr=>sr fun fB dt=>mv z<|cc z z<|nl<|dt _ _ _<|dC (0 < aZ) (fun aK=>?_) fun aK=>?_
 refine yK aK H fun H=>wt (bY aK)<|ws<|dr _ _ _<|wb<|sQ fun fC du=>sr fun fD dv=>mv z<|cc z z<|nl<|dv _ _ _<|dC (1000000000 < g) (fun aL=>?_) fun aL=>?_
 refine yK aL H fun H=>wt (bY aL)<|sr fun fE dw=>aj z<|aj z<|aj z<|nl<|dw _ _ _<|wr<|have dx:=Hp.pick 3 [0, 1] bi z;?_
 cases H
 exact ⟨z, z, ⟨z, z, z, tv⟩, (Hp.low i dx), tv⟩
 refine nK aL H fun H=>wf (bN aL)<|ws<|du _ _ _<|sr fun fF dy=>mv z<|mv z<|mv z<|mv z<|iJ H fun p fG dz H=>cv DY (mD dz bi ar (Dat.mono i av)) z z fun fH dA=>mv z<|cK z z<|cK z z<|?_
 refine aM dA rp fun dB fI dD=>fX dD 0 oF z z z z z z z fun fJ aN=>aj z<|nl<|dy _ _ _<|sr fun fK dE=>d9 aN 2 fw z z z z<|d9 aN 1 jT z z z z<|mv z<|mv z<|mv z<|fa kN z<|ld aN 0 bv z z z<|fa kn z<|?_
 refine ld aN 0 bv z z z<|dl z z<|iJ H fun q fL dF H=>cv Do (j4 dF aN Z (Dat.mono i aa) ab (Dat.mono i ad) aR (Dat.mono i aS)) z z fun fM dG=>mv z<|cK z z<|cK z z<|aM dG mO fun dH fN dI=>fX dI 0 gy z z z z z z z fun fO dJ=>aj z<|nl<|dE _ _ _<|sr fun fP dK=>mv z<|?_
 refine mv z<|mv z<|bK H fun dL dM H=>cv DR (lx dM dJ ar (Dat.mono i av)) z z fun fQ am=>aj z<|nl<|dK _ _ _<|sQ fun fR dN=>sr fun fS dO=>fa ng z<|ld am 0 bv z z z<|fa kN z<|ld am 1 bv z z z<|fa kn z<|?_
 refine ld am 1 bv z z z<|dl z z<|cc z z<|mv z<|bK H fun bA hC H=>?_
 refine js 3 am [(2, string c), (3, int .i64 s), (4, int .i64 a17), (5, int .i64 t), (6, int .i64 u), (7, int .i64 v), (9, slice X a22.length Y), (10, pointer (some ⟨j, 0, none⟩)), (11, pointer (some ⟨k, 0, none⟩)), (25, slice M U.length O), (26, int .i64 bh), (27, int .i64 aZ), (29, int .i64 g), (30, pointer (some ⟨dB, 0, none⟩)), (32, pointer (some ⟨dH, 0, none⟩)), (34, int .i64 dL), (112, bool bA)] ?_ fun _ fT ao=>?_
 refine have H:=hC;dC ((ax (p.Hi - p.Lo)) < q.Width) (fun P=>?_) fun P=>?_
 refine yK P H fun H=>mv (hw:=gY z z z (bY P)) z<|gM (hw:=gY z z z (bY P)) z z<|bR (bY P) z<|nl<|?_
 cases H
 exact je ⟨z, z, z, z, z, z, z, z, z, z, z, z, z, z, z, z, z, tv⟩ am
 refine nK P H fun H=>Sk 2 z z (bN P) z<|b7 (bN P) z<|nl<|?_
 cases H
 exact je ⟨z, z, z, z, z, z, z, z, z, z, z, z, z, z, z, z, z, tv⟩ am
 refine nl<|dO _ _ _<|dC (bA = true) (fun aO=>?_) fun aO=>?_
 exact yK aO H fun H=>wt (vY aO)<|sr fun fU dP=>mv z<|aj z<|nl<|dP _ _ _<|wx<|have dQ:=Hp.pick 5 [2, 3, 4] ao z;ih _ _ _ _ _ H M O _ _ _ i ⟨z, z, z, z, z, z, z, z, z, z, z, z, z, tv⟩ dQ bj bk bl z
 refine nK aO H fun H=>wf (vN aO)<|ws<|dN _ _ _<|sr fun fV dR=>d9 ao 3 fw z z z z<|mv z<|d9 ao 0 gy z z z z<|mv z<|fa kN z<|ld ao 1 bv z z z<|fa kn z<|ld ao 1 bv z z z<|dl z z<|?_
 refine mv z<|mv z<|xr H fun V W fW dS H=>cv DG (lX dS ao Z (Dat.mono i aa) ab (Dat.mono i ad)) z z fun fY bn=>mv z<|cK z z<|cK z z<|cK z z<|aj z<|aj z<|aj z<|nl<|dR _ _ _<|sr fun fZ dT=>?_
 refine mv z<|mv z<|fa kn z<|ld bn 1 bv z z z<|mv z<|ba z z<|mv z<|fa ng z<|ld bn 0 bv z z z<|mv z<|bO (vs := [(0, string V), (1, int .i64 (ax (p.Lo + W))), (2, int .i64 g), (3, int .i64 q.Width), (4, int .i64 a17)]) (cs := [string V, int .i64 (ax (p.Lo + W)), int .i64 g, int .i64 q.Width, int .i64 a17]) oX uv z z<|?_
 refine mm bn (vs := [(0, agg [string V, int .i64 (ax (p.Lo + W)), int .i64 g, int .i64 q.Width, int .i64 a17].toArray)]) (cs := [string V, int .i64 (ax (p.Lo + W)), int .i64 g, int .i64 q.Width, int .i64 a17]) ut oX rfl (by decide) rfl rfl (fun f0 f1 bB => ?_)
 refine iK H fun f2 H=>?_
 refine lu (xs := U) (ys := [(⟨V, ax (p.Lo + W), g, q.Width, a17⟩ : an)]) b6 bB 5 ut oX rfl rfl rfl rfl bl bj bk (jF bB 0 yh rfl rfl) ⟨[string V, int .i64 (ax (p.Lo + W)), int .i64 g, int .i64 q.Width, int .i64 a17], _, rfl, (iZ (x := (⟨V, ax (p.Lo + W), g, q.Width, a17⟩ : an))), rfl⟩ rfl (by simp only [List.length_cons, List.length_nil]; omega) (by simp only [List.length_cons, List.length_nil]; omega) (fun dU dV f3 f4 dX dY dZ d0 bC => ?_)
 refine aj z<|nl<|dT _ _ _<|sr fun f5 d1=>mv z<|mv z<|ba z z<|aj z<|nl<|d1 _ _ _<|sr fun f6 d2=>fa nG z<|ld bC 1 bv z z z<|aj z<|?_
 refine nl<|d2 _ _ _<|ae<|mv z<|mv z<|iK H fun⟨d3, d4⟩H=>ug (l := q.Until) (h := (c.size : Int)) fA z (.inr ⟨_, z, z⟩) (.inl ⟨z, z⟩) d3 d4 (Int.le_refl _)<|iJ H fun f7 f8 d5 H=>cv Ch (gV d5 bC) z z fun f9 d6=>mv z<|cK z z<|cK z z<|aj z<|nl<|?_
 exact have d7:=Hp.pick 6 [3, 4, 5] d6 z;ih _ _ _ _ _ H dU dV _ _ _ (gT i dX) ⟨z, z, z, z, z, z, z, z, z, z, z, z, z, tv⟩ d7 dZ d0 dY z
 refine nK aK H fun H=>wf (bN aK)<|wx<|?_
 cases H
 exact ⟨z, M, O, _, z, i, ⟨z, z, tv⟩, bi, bj, bk, bl, tv⟩
 rcases bf with _ | ⟨aJ, bg⟩
 rintro e r ds ga ⟨rfl, rfl, a, d8, _⟩
 rw [a.eq]; clear a
 refine have ea:=Hp.emp d8;have eb:=Hp.pick 3 [0] ea z;?_
 cases H
 exact ⟨.inr z, z, _, ⟨_, _, z, z, ⟨_, _, z, z, ⟨_, _, z, z, z⟩⟩⟩, none, 0, _, gR, eb, (show ([] : List an).length ≤ 0 from Nat.le_refl 0), (Dat.nil _ _ _), Own.nil, z⟩
 rintro e r ds gb ⟨rfl, ak, al, aY, rfl, bD, a, bE, ec, ed, ee, _⟩
 rw [a.eq]; clear a
 refine dn _ _ _<|sQ fun gc ef=>sr fun gd eg=>mv z<|cc z z<|nl<|eg _ _ _<|dC (1000000000 < bg) (fun aP=>?_) fun aP=>?_
 refine yK aP H fun H=>wt (bY aP)<|sr fun ge eh=>aj z<|aj z<|aj z<|nl<|eh _ _ _<|wr<|have ei:=Hp.emp bE;have ej:=Hp.pick 4 [0] ei z;?_
 cases H
 exact ⟨.inr z, z, _, ⟨_, _, z, z, ⟨_, _, z, z, ⟨_, _, z, z, z⟩⟩⟩, none, 0, _, bD, ej, (show ([] : List an).length ≤ 0 from Nat.le_refl 0), (Dat.nil _ _ _), Own.nil, z⟩
 refine nK aP H fun H=>wf (bN aP)<|ws<|ef _ _ _<|sr fun gf ek=>mv z<|mv z<|aj z<|aj z<|aj z<|nl<|ek _ _ _<|wr<|have el:=Hp.pick 3 [2] bE z;?_
 cases H
 exact ⟨.inr z, z, _, ⟨_, _, z, z, ⟨_, _, z, z, ⟨_, _, z, z, z⟩⟩⟩, ak, al, _, bD, el, ec, ed, ee, z⟩
end Go.Proofs.YtaemgcpcfnbmdaaGreatDoor.LG
