/-
  The walks: each function computes its plain function: printed by a program out of the translation.
-/
import Derived.Test.YtlcfemplcaejgaaSc
set_option linter.unusedVariables false
set_option linter.unusedSimpArgs false
set_option maxRecDepth 100000
namespace Go.Proofs.Ytlcfemplcaejgaa.LG
open Go Go.LG Go.RowKit Go.Value
set_option maxHeartbeats 20000000
theorem iV {σ : Type} {St : σ → Gh → List dv → Prop} {yl} {φ : σ → ak → Option (σ × Bool)} {sy : σ} {a3} {ay : List Bool} {g2 A4 c5 g9 aE aG} {ry : σ} {G T w} (H : dl φ sy a3 ay = some ry) (hI : Hp G (bx g2 [slice A4 a3.length c5] 24 :: bx g9 [slice aE ay.length aG] 25 :: T) w) (eR : a3.length ≤ c5) (c3 : Dat ah G A4 a3) (eS : ay.length ≤ aG) (ch : Dat Kd.bool G aE ay) (hy : Yl Try.prog φ (encS dL) St yl) (hS : St sy G T) :
    Calls Try.prog 43 [func (.yield yl) #[] #[], pointer (some ⟨g2, 0, none⟩), pointer (some ⟨g9, 0, none⟩)].toArray w fun e w' => ∃ (T' : List dv) (G' : Gh), G ≤ G' ∧ Hp G' (bx g2 [slice A4 a3.length c5] 24 :: bx g9 [slice aE ay.length aG] 25 :: T') w' ∧ St ry G' T' ∧ e = .returned (tuple [].toArray) := by
 refine aw (N := 81) Try.func43 z z (Nat.le_of_ble_eq_true z)<|?_
 unfold dl at H
 refine sr fun eT c4=>bQ hI nm fun K eU cy=>nl<|c4 _ _ _<|sr fun eV c6=>aK z<|nl<|c6 _ _ _<|sQ fun eW c7=>sr fun eX c8=>ld cy 1 cB z z z<|q_len dA z<|mv z<|nl<|?_
 refine c8 _ _ _<|wb<|bK H fun cq hC H=>?_
 refine aP (Q := fun e r ds w => match (generalizing := false) cq with | (Sum.inl (bD, bE, cz, cD)) => e = .ret ∧ ∃ (ci : List dv) (bF : Option Addr) (bG : Nat) (bI : Option Addr) (bJ : Nat) (be : Gh), ds = [] ∧ G ≤ be ∧ Has [] r ∧ Hp be (bx K [slice bF bD.length bG, slice bI bE.length bJ, int .i64 cz] 64 :: bx g2 [slice A4 a3.length c5] 24 :: bx g9 [slice aE ay.length aG] 25 :: tk (slice bF bD.length bG) 8 36 :: tk (slice bI bE.length bJ) 8 36 :: ci) w ∧ bD.length ≤ bG ∧ Dat ah be bF bD ∧ Own bF bG ∧ bE.length ≤ bJ ∧ Dat ah be bI bE ∧ Own bI bJ ∧ St cD be ci ∧ True | (Sum.inr (a5, a6, cj, cE)) => e = .exit 0 ∧ ∃ (ck : List dv) (a9 : Option Addr) (ba : Nat) (bc : Option Addr) (bd : Nat) (bf : Gh), ds = [] ∧ G ≤ bf ∧ Has [(0, func (.yield yl) #[] #[]), (4, pointer (some ⟨K, 0, none⟩))] r ∧ Hp bf (bx K [slice a9 a5.length ba, slice bc a6.length bd, int .i64 cj] 64 :: bx g2 [slice A4 a3.length c5] 24 :: bx g9 [slice aE ay.length aG] 25 :: tk (slice a9 a5.length ba) 8 36 :: tk (slice bc a6.length bd) 8 36 :: ck) w ∧ a5.length ≤ ba ∧ Dat ah bf a9 a5 ∧ Own a9 ba ∧ a6.length ≤ bd ∧ Dat ah bf bc a6 ∧ Own bc bd ∧ St cE bf ck ∧ True) ?_ ?_
 refine have c9:=Hp.emp cy;have da:=Hp.emp c9;have db:=Hp.pick 5 [2, 3, 4, 1, 0] da z;bH fun I c2=>?_
 refine bB.partial_correctness φ a3 ay (fun cr a az aO aW cF o => ∀ (aY : List dv) (aL : Option Addr) (aN : Nat) (aI : Option Addr) (aJ : Nat) (aX : Gh) (r : Rg) (w : World), G ≤ aX → Has [(0, func (.yield yl) #[] #[]), (2, pointer (some ⟨g9, 0, none⟩)), (4, pointer (some ⟨K, 0, none⟩)), (5, bool cr), (8, slice A4 a3.length c5), (9, int .i64 (a3.length : Int)), (10, int .i64 a)] r → Hp aX (bx K [slice aL az.length aN, slice aI aO.length aJ, int .i64 aW] 64 :: bx g2 [slice A4 a3.length c5] 24 :: bx g9 [slice aE ay.length aG] 25 :: tk (slice aL az.length aN) 8 36 :: tk (slice aI aO.length aJ) 8 36 :: aY) w → az.length ≤ aN → Dat ah aX aL az → Own aL aN → aO.length ≤ aJ → Dat ah aX aI aO → Own aI aJ → St cF aX aY → o = cq → I r [] w) ?_ false 0 ([] : List ac) ([] : List ac) 0 sy _ hC T none 0 none 0 _ _ _ gR ⟨rfl, rfl, rfl, rfl, rfl, rfl, rfl, tv⟩ db (show ([] : List ac).length ≤ 0 from Nat.le_refl 0) (Dat.nil _ _ _) Own.nil (show ([] : List ac).length ≤ 0 from Nat.le_refl 0) (Dat.nil _ _ _) Own.nil hS rfl
 intro _ ih cr a az aO aW cF o H aY aL aN aI aJ aX r eY a7 aZ ct bg bh bM bi bj bO bP ho
 rw [ho] at H; clear ho
 rw [aZ.eq]; clear aZ
 refine c2 _ _ _<|sr fun eZ dc=>cZ z z<|nl<|dc _ _ _<|sQ fun e0 dd=>dC (a < (a3.length : Int)) (fun bR=>?_) fun bR=>?_
 refine yK bR H fun H=>wt (bY bR)<|ws<|dd _ _ _<|sQ fun e1 de=>bK H fun cG hC H=>?_
 refine aP (Q := fun e r ds w => match (generalizing := false) cG with | (Sum.inl cH) => e = .ret ∧ ∃ (cl : List dv) (cn : Gh), ds = [] ∧ aX ≤ cn ∧ Has [] r ∧ Hp cn (bx K [slice aL az.length aN, slice aI aO.length aJ, int .i64 aW] 64 :: bx g2 [slice A4 a3.length c5] 24 :: bx g9 [slice aE ay.length aG] 25 :: tk (slice aL az.length aN) 8 36 :: tk (slice aI aO.length aJ) 8 36 :: cl) w ∧ St cH cn cl ∧ True | (Sum.inr (cI, bS, bT, cJ, cK)) => e = .normal ∧ ∃ (co : List dv) (bk : Option Addr) (bl : Nat) (bo : Option Addr) (bp : Nat) (bq : Gh), ds = [] ∧ aX ≤ bq ∧ Has [(0, func (.yield yl) #[] #[]), (2, pointer (some ⟨g9, 0, none⟩)), (4, pointer (some ⟨K, 0, none⟩)), (5, bool cI), (8, slice A4 a3.length c5), (9, int .i64 (a3.length : Int)), (10, int .i64 a)] r ∧ Hp bq (bx K [slice bk bS.length bl, slice bo bT.length bp, int .i64 cJ] 64 :: bx g2 [slice A4 a3.length c5] 24 :: bx g9 [slice aE ay.length aG] 25 :: tk (slice bk bS.length bl) 8 36 :: tk (slice bo bT.length bp) 8 36 :: co) w ∧ bS.length ≤ bl ∧ Dat ah bq bk bS ∧ Own bk bl ∧ bT.length ≤ bp ∧ Dat ah bq bo bT ∧ Own bo bp ∧ St cK bq co ∧ True) ?_ ?_
 refine have H:=hC;wb<|sr fun e2 df=>mv z<|iK H fun⟨cL, cM⟩H=>?_
 obtain ⟨e3, e4, dg, dh, e5, di⟩ := Dat.get (Dat.mono a7 c3) aa (a) cL cM
 obtain ⟨rfl⟩ := aF dh
 refine bL cA z dg z cL cM<|fq ct dx z (cs := [int .i64 ((a3.getD (Int.toNat a) aa).Node), int .i64 ((a3.getD (Int.toNat a) aa).Table), int .i64 ((a3.getD (Int.toNat a) aa).X), int .i64 ((a3.getD (Int.toNat a) aa).Y), int .i64 ((a3.getD (Int.toNat a) aa).H), string ((a3.getD (Int.toNat a) aa).Text), bool ((a3.getD (Int.toNat a) aa).Head), bool ((a3.getD (Int.toNat a) aa).Note)]) z (fun j v hv => gR.cel _ _ (di j v hv))<|bQ ct cP fun ax e6 dj=>aK z<|f5 dj 0 dx z z z z z z z fun e7 a2=>nl<|df _ _ _<|sQ fun e8 dk=>sr fun e9 dn=>fa nd z<|ld a2 0 jK z z z<|nl<|dn _ _ _<|dC (((a3.getD (Int.toNat a) aa).Note) = true) (fun bU=>?_) fun bU=>?_
 refine yK bU H fun H=>wt (vY bU)<|sr fun fb dp=>fa jV z<|ld a2 1 cB z z z<|gg a2 0 dx z z z z<|?_
 refine eh a2 (vs := [(0, agg [int .i64 ((a3.getD (Int.toNat a) aa).Node), int .i64 ((a3.getD (Int.toNat a) aa).Table), int .i64 ((a3.getD (Int.toNat a) aa).X), int .i64 ((a3.getD (Int.toNat a) aa).Y), int .i64 ((a3.getD (Int.toNat a) aa).H), string ((a3.getD (Int.toNat a) aa).Text), bool ((a3.getD (Int.toNat a) aa).Head), bool ((a3.getD (Int.toNat a) aa).Note)].toArray)]) (cs := [int .i64 ((a3.getD (Int.toNat a) aa).Node), int .i64 ((a3.getD (Int.toNat a) aa).Table), int .i64 ((a3.getD (Int.toNat a) aa).X), int .i64 ((a3.getD (Int.toNat a) aa).Y), int .i64 ((a3.getD (Int.toNat a) aa).H), string ((a3.getD (Int.toNat a) aa).Text), bool ((a3.getD (Int.toNat a) aa).Head), bool ((a3.getD (Int.toNat a) aa).Note)]) cA cP rfl (by decide) rfl (by kernel_rfl) (fun fc fd cO => ?_)
 refine iK H fun fe H=>?_
 refine fx (xs := aO) (ys := [(a3.getD (Int.toNat a) aa)]) ah cO 6 cA cP rfl rfl rfl rfl bO bi bj (dU cO 0 dA rfl rfl) ⟨[int .i64 ((a3.getD (Int.toNat a) aa).Node), int .i64 ((a3.getD (Int.toNat a) aa).Table), int .i64 ((a3.getD (Int.toNat a) aa).X), int .i64 ((a3.getD (Int.toNat a) aa).Y), int .i64 ((a3.getD (Int.toNat a) aa).H), string ((a3.getD (Int.toNat a) aa).Text), bool ((a3.getD (Int.toNat a) aa).Head), bool ((a3.getD (Int.toNat a) aa).Note)], _, rfl, (aH (x := (a3.getD (Int.toNat a) aa))), rfl⟩ rfl (by simp only [List.length_cons, List.length_nil]; omega) (by simp only [List.length_cons, List.length_nil]; omega) (fun dq dr ff fg cu dt du dy dz => ?_)
 refine fa jV z<|f5 dz 2 cB z z z z z z z fun fh dB=>nl<|dp _ _ _<|wx<|have dD:=Hp.pick 7 [2, 3, 4, 5, 6] dB z;?_
 cases H
 exact ⟨z, aY, aL, aN, dq, dr, _, z, cu, ⟨z, z, z, z, z, z, z, tv⟩, dD, bg, (Dat.mono cu bh), bM, du, dy, dt, (hy.mono cu bP), tv⟩
 refine nK bU H fun H=>wf (vN bU)<|ws<|dk _ _ _<|sQ fun fi cQ=>sr fun fj dE=>fa dw z<|ld a2 1 cB z z z<|q_len dA z<|gq z z<|mv z<|bK H fun cR hC H=>?_
 refine js 6 a2 [(0, func (.yield yl) #[] #[]), (2, pointer (some ⟨g9, 0, none⟩)), (4, pointer (some ⟨K, 0, none⟩)), (5, bool cr), (6, int .i64 a), (7, pointer (some ⟨ax, 0, none⟩)), (8, slice A4 a3.length c5), (9, int .i64 (a3.length : Int)), (10, int .i64 a), (33, bool cR)] ?_ fun _ fk cv=>?_
 refine have H:=hC;dC (0 < (az.length : Int)) (fun a1=>?_) fun a1=>?_
 refine yK a1 H fun H=>fa (hw:=gY z z z (bY a1)) bn z<|ld (hw:=gY z z z (bY a1)) a2 0 bb z z z<|fa (hw:=gY z z z (bY a1)) dO z<|ld (hw:=gY z z z (bY a1)) a2 1 bb z z z<|gS (hw:=gY z z z (bY a1)) z z<|cY (bY a1) z<|nl<|?_
 cases H
 exact je ⟨z, z, z, z, z, z, z, z, z, z, tv⟩ a2
 refine nK a1 H fun H=>Sk 5 z z (bN a1) z<|dm (bN a1) z<|nl<|?_
 cases H
 exact je ⟨z, z, z, z, z, z, z, z, z, z, tv⟩ a2
 refine mv z<|bK H fun cS hC H=>js 3 cv [(0, func (.yield yl) #[] #[]), (2, pointer (some ⟨g9, 0, none⟩)), (4, pointer (some ⟨K, 0, none⟩)), (6, int .i64 a), (7, pointer (some ⟨ax, 0, none⟩)), (8, slice A4 a3.length c5), (9, int .i64 (a3.length : Int)), (10, int .i64 a), (37, bool cS)] ?_ fun _ fl br=>?_
 refine have H:=hC;dC (cR = true) (fun a8=>?_) fun a8=>?_
 refine yK a8 H fun H=>mv (hw:=gY z z z (vY a8)) z<|bV (hw:=gY z z z (vY a8)) z<|cY (vY a8) z<|nl<|?_
 cases H
 exact je ⟨z, z, z, z, z, z, z, z, z, tv⟩ cv
 refine nK a8 H fun H=>Sk 2 z z (vN a8) z<|dm (vN a8) z<|nl<|?_
 cases H
 exact je ⟨z, z, z, z, z, z, z, z, z, tv⟩ cv
 refine nl<|dE _ _ _<|dC (cS = true) (fun bW=>?_) fun bW=>?_
 refine yK bW H fun H=>wt (vY bW)<|sQ fun fm dF=>sr fun fn dG=>mv z<|gg br 1 iD z z z z<|ms H fun fo dH hx232 H=>qH hy [bx ax [int .i64 ((a3.getD (Int.toNat a) aa).Node), int .i64 ((a3.getD (Int.toNat a) aa).Table), int .i64 ((a3.getD (Int.toNat a) aa).X), int .i64 ((a3.getD (Int.toNat a) aa).Y), int .i64 ((a3.getD (Int.toNat a) aa).H), string ((a3.getD (Int.toNat a) aa).Text), bool ((a3.getD (Int.toNat a) aa).Head), bool ((a3.getD (Int.toNat a) aa).Note)] 36, bx K [slice aL az.length aN, slice aI aO.length aJ, int .i64 aW] 64, bx g2 [slice A4 a3.length c5] 24, bx g9 [slice aE ay.length aG] 25, tk (slice aL az.length aN) 8 36, tk (slice aI aO.length aJ) 8 36] br bP z z ⟨_, z, (f6 (x := (⟨az, aO, aW⟩ : ak)) bg bh bi bj)⟩ hx232 fun fp a4 a0 bX cw cT=>bV z<|nl<|dG _ _ _<|dC ((!dH) = true) (fun bZ=>?_) fun bZ=>?_
 refine yK bZ H fun H=>wt (vY bZ)<|wr<|have dI:=Hp.pick 6 [1, 2, 3, 4, 5] cT z;?_
 cases H
 exact ⟨z, a0, _, z, bX, trivial, dI, cw, tv⟩
 refine nK bZ H fun H=>wf (vN bZ)<|ws<|dF _ _ _<|aA<|cf (vs := []) (cs := [slice none 0 0, slice none 0 0, int .i64 0]) nm pl64 z z<|f5 cT 1 iD z z z z z z z fun fr cp=>nl<|cQ _ _ _<|sQ fun fs cU=>sr fun ft dK=>fa dw z<|ld cp 1 cB z z z<|q_len dA z<|?_
 refine ei z z<|nl<|dK _ _ _<|dC ((([] : List ac).length : Int) = 0) (fun b0=>?_) fun b0=>?_
 refine yK b0 H fun H=>wt (bY b0)<|aA<|fa bn z<|ld cp 0 bb z z z<|fa dO z<|f5 cp 1 bb z z z z z z z fun fu dM=>nl<|cU _ _ _<|iK H fun fv H=>iK H fun⟨bs, bt⟩H=>?_
 obtain ⟨b1, fw, b2, dN, fy, b3⟩ := Dat.get (Dat.mono (gT a7 bX) ch) false (a) bs bt
 obtain rfl := dN
 refine aM [0, 1, 0, 4, 15, 0, 32, 0, 128, 0, 512, 1920, 4064, 0, 0, 24576, 57344, 127, 131199, 401407, 925695, 2097151] (fun D r w => (D 3 = false ∧ ∃ (G' : Gh), a4 ≤ G' ∧ ag [(0, func (.yield yl) #[] #[]), (2, pointer (some ⟨g9, 0, none⟩)), (4, pointer (some ⟨K, 0, none⟩)), (6, int .i64 a), (7, pointer (some ⟨ax, 0, none⟩)), (8, slice A4 a3.length c5), (9, int .i64 (a3.length : Int)), (10, int .i64 a)] [] [(0, 50, pointer (some ⟨K, 0, none⟩)), (1, 51, slice none 0 0), (2, 52, agg [int .i64 ((a3.getD (Int.toNat a) aa).Node), int .i64 ((a3.getD (Int.toNat a) aa).Table), int .i64 ((a3.getD (Int.toNat a) aa).X), int .i64 ((a3.getD (Int.toNat a) aa).Y), int .i64 ((a3.getD (Int.toNat a) aa).H), string ((a3.getD (Int.toNat a) aa).Text), bool ((a3.getD (Int.toNat a) aa).Head), bool ((a3.getD (Int.toNat a) aa).Note)].toArray), (5, 55, pointer (some ⟨K, 2, none⟩)), (6, 56, int .i64 ((a3.getD (Int.toNat a) aa).Y)), (7, 57, pointer (some ⟨ax, 3, none⟩)), (8, 58, int .i64 ((a3.getD (Int.toNat a) aa).Y)), (9, 59, pointer (some ⟨ax, 4, none⟩)), (10, 60, int .i64 ((a3.getD (Int.toNat a) aa).H)), (11, 61, int .i64 (aj (((a3.getD (Int.toNat a) aa).Y) + ((a3.getD (Int.toNat a) aa).H)))), (12, 62, int .i64 (max ((a3.getD (Int.toNat a) aa).Y) (aj (((a3.getD (Int.toNat a) aa).Y) + ((a3.getD (Int.toNat a) aa).H))))), (13, 63, slice aE ay.length aG), (14, 64, int .i64 a), (15, 65, pointer (some (b1.add (Int.toNat a * 1)))), (16, 66, bool (ay.getD (Int.toNat a) false))] D r ∧ Hp G' (bx ax [int .i64 ((a3.getD (Int.toNat a) aa).Node), int .i64 ((a3.getD (Int.toNat a) aa).Table), int .i64 ((a3.getD (Int.toNat a) aa).X), int .i64 ((a3.getD (Int.toNat a) aa).Y), int .i64 ((a3.getD (Int.toNat a) aa).H), string ((a3.getD (Int.toNat a) aa).Text), bool ((a3.getD (Int.toNat a) aa).Head), bool ((a3.getD (Int.toNat a) aa).Note)] 36 :: bx K [slice none 0 0, slice none 0 0, int .i64 ((a3.getD (Int.toNat a) aa).Y)] 64 :: bx g2 [slice A4 a3.length c5] 24 :: bx g9 [slice aE ay.length aG] 25 :: tk (slice aL az.length aN) 8 36 :: tk (slice aI aO.length aJ) 8 36 :: a0) w) ∨ (D 3 = true ∧ D 4 = false ∧ ∃ (C : Nat) (G' : Gh), a4 ≤ G' ∧ ag [(0, func (.yield yl) #[] #[]), (2, pointer (some ⟨g9, 0, none⟩)), (4, pointer (some ⟨K, 0, none⟩)), (6, int .i64 a), (7, pointer (some ⟨ax, 0, none⟩)), (8, slice A4 a3.length c5), (9, int .i64 (a3.length : Int)), (10, int .i64 a)] [] [(0, 50, pointer (some ⟨K, 0, none⟩)), (1, 51, slice none 0 0), (2, 52, agg [int .i64 ((a3.getD (Int.toNat a) aa).Node), int .i64 ((a3.getD (Int.toNat a) aa).Table), int .i64 ((a3.getD (Int.toNat a) aa).X), int .i64 ((a3.getD (Int.toNat a) aa).Y), int .i64 ((a3.getD (Int.toNat a) aa).H), string ((a3.getD (Int.toNat a) aa).Text), bool ((a3.getD (Int.toNat a) aa).Head), bool ((a3.getD (Int.toNat a) aa).Note)].toArray), (5, 55, pointer (some ⟨K, 2, none⟩)), (6, 56, int .i64 ((a3.getD (Int.toNat a) aa).Y)), (7, 57, pointer (some ⟨ax, 3, none⟩)), (8, 58, int .i64 ((a3.getD (Int.toNat a) aa).Y)), (9, 59, pointer (some ⟨ax, 4, none⟩)), (10, 60, int .i64 ((a3.getD (Int.toNat a) aa).H)), (11, 61, int .i64 (aj (((a3.getD (Int.toNat a) aa).Y) + ((a3.getD (Int.toNat a) aa).H)))), (12, 62, int .i64 (max ((a3.getD (Int.toNat a) aa).Y) (aj (((a3.getD (Int.toNat a) aa).Y) + ((a3.getD (Int.toNat a) aa).H))))), (13, 63, slice aE ay.length aG), (14, 64, int .i64 a), (15, 65, pointer (some (b1.add (Int.toNat a * 1)))), (16, 66, bool (ay.getD (Int.toNat a) false)), (3, 53, slice (some ⟨C, 0, none⟩) 1 1)] D r ∧ Hp G' (bx C [int .i64 ((a3.getD (Int.toNat a) aa).Node), int .i64 ((a3.getD (Int.toNat a) aa).Table), int .i64 ((a3.getD (Int.toNat a) aa).X), int .i64 ((a3.getD (Int.toNat a) aa).Y), int .i64 ((a3.getD (Int.toNat a) aa).H), string ((a3.getD (Int.toNat a) aa).Text), bool ((a3.getD (Int.toNat a) aa).Head), bool ((a3.getD (Int.toNat a) aa).Note)] 36 :: bx ax [int .i64 ((a3.getD (Int.toNat a) aa).Node), int .i64 ((a3.getD (Int.toNat a) aa).Table), int .i64 ((a3.getD (Int.toNat a) aa).X), int .i64 ((a3.getD (Int.toNat a) aa).Y), int .i64 ((a3.getD (Int.toNat a) aa).H), string ((a3.getD (Int.toNat a) aa).Text), bool ((a3.getD (Int.toNat a) aa).Head), bool ((a3.getD (Int.toNat a) aa).Note)] 36 :: bx K [slice none 0 0, slice none 0 0, int .i64 ((a3.getD (Int.toNat a) aa).Y)] 64 :: bx g2 [slice A4 a3.length c5] 24 :: bx g9 [slice aE ay.length aG] 25 :: tk (slice aL az.length aN) 8 36 :: tk (slice aI aO.length aJ) 8 36 :: a0) w) ∨ (D 4 = true ∧ D 18 = false ∧ ∃ (C : Nat) (L : Option Addr) (M : Nat) (G' : Gh), a4 ≤ G' ∧ (([] : List ac) ++ [(a3.getD (Int.toNat a) aa)]).length ≤ M ∧ Dat ah G' L (([] : List ac) ++ [(a3.getD (Int.toNat a) aa)]) ∧ Own L M ∧ ag [(0, func (.yield yl) #[] #[]), (2, pointer (some ⟨g9, 0, none⟩)), (4, pointer (some ⟨K, 0, none⟩)), (6, int .i64 a), (7, pointer (some ⟨ax, 0, none⟩)), (8, slice A4 a3.length c5), (9, int .i64 (a3.length : Int)), (10, int .i64 a)] [] [(0, 50, pointer (some ⟨K, 0, none⟩)), (1, 51, slice none 0 0), (2, 52, agg [int .i64 ((a3.getD (Int.toNat a) aa).Node), int .i64 ((a3.getD (Int.toNat a) aa).Table), int .i64 ((a3.getD (Int.toNat a) aa).X), int .i64 ((a3.getD (Int.toNat a) aa).Y), int .i64 ((a3.getD (Int.toNat a) aa).H), string ((a3.getD (Int.toNat a) aa).Text), bool ((a3.getD (Int.toNat a) aa).Head), bool ((a3.getD (Int.toNat a) aa).Note)].toArray), (5, 55, pointer (some ⟨K, 2, none⟩)), (6, 56, int .i64 ((a3.getD (Int.toNat a) aa).Y)), (7, 57, pointer (some ⟨ax, 3, none⟩)), (8, 58, int .i64 ((a3.getD (Int.toNat a) aa).Y)), (9, 59, pointer (some ⟨ax, 4, none⟩)), (10, 60, int .i64 ((a3.getD (Int.toNat a) aa).H)), (11, 61, int .i64 (aj (((a3.getD (Int.toNat a) aa).Y) + ((a3.getD (Int.toNat a) aa).H)))), (12, 62, int .i64 (max ((a3.getD (Int.toNat a) aa).Y) (aj (((a3.getD (Int.toNat a) aa).Y) + ((a3.getD (Int.toNat a) aa).H))))), (13, 63, slice aE ay.length aG), (14, 64, int .i64 a), (15, 65, pointer (some (b1.add (Int.toNat a * 1)))), (16, 66, bool (ay.getD (Int.toNat a) false)), (3, 53, slice (some ⟨C, 0, none⟩) 1 1), (4, 54, slice L (([] : List ac) ++ [(a3.getD (Int.toNat a) aa)]).length M), (17, 67, pointer (some ⟨K, 0, none⟩))] D r ∧ Hp G' (tk (slice L (([] : List ac) ++ [(a3.getD (Int.toNat a) aa)]).length M) 8 36 :: bx C [int .i64 ((a3.getD (Int.toNat a) aa).Node), int .i64 ((a3.getD (Int.toNat a) aa).Table), int .i64 ((a3.getD (Int.toNat a) aa).X), int .i64 ((a3.getD (Int.toNat a) aa).Y), int .i64 ((a3.getD (Int.toNat a) aa).H), string ((a3.getD (Int.toNat a) aa).Text), bool ((a3.getD (Int.toNat a) aa).Head), bool ((a3.getD (Int.toNat a) aa).Note)] 36 :: bx ax [int .i64 ((a3.getD (Int.toNat a) aa).Node), int .i64 ((a3.getD (Int.toNat a) aa).Table), int .i64 ((a3.getD (Int.toNat a) aa).X), int .i64 ((a3.getD (Int.toNat a) aa).Y), int .i64 ((a3.getD (Int.toNat a) aa).H), string ((a3.getD (Int.toNat a) aa).Text), bool ((a3.getD (Int.toNat a) aa).Head), bool ((a3.getD (Int.toNat a) aa).Note)] 36 :: bx K [slice none 0 0, slice none 0 0, int .i64 ((a3.getD (Int.toNat a) aa).Y)] 64 :: bx g2 [slice A4 a3.length c5] 24 :: bx g9 [slice aE ay.length aG] 25 :: tk (slice aL az.length aN) 8 36 :: tk (slice aI aO.length aJ) 8 36 :: a0) w) ∨ (D 18 = true ∧ D 20 = false ∧ ∃ (C : Nat) (L : Option Addr) (M : Nat) (G' : Gh), a4 ≤ G' ∧ (([] : List ac) ++ [(a3.getD (Int.toNat a) aa)]).length ≤ M ∧ Dat ah G' L (([] : List ac) ++ [(a3.getD (Int.toNat a) aa)]) ∧ Own L M ∧ ag [(0, func (.yield yl) #[] #[]), (2, pointer (some ⟨g9, 0, none⟩)), (4, pointer (some ⟨K, 0, none⟩)), (6, int .i64 a), (7, pointer (some ⟨ax, 0, none⟩)), (8, slice A4 a3.length c5), (9, int .i64 (a3.length : Int)), (10, int .i64 a)] [] [(0, 50, pointer (some ⟨K, 0, none⟩)), (1, 51, slice none 0 0), (2, 52, agg [int .i64 ((a3.getD (Int.toNat a) aa).Node), int .i64 ((a3.getD (Int.toNat a) aa).Table), int .i64 ((a3.getD (Int.toNat a) aa).X), int .i64 ((a3.getD (Int.toNat a) aa).Y), int .i64 ((a3.getD (Int.toNat a) aa).H), string ((a3.getD (Int.toNat a) aa).Text), bool ((a3.getD (Int.toNat a) aa).Head), bool ((a3.getD (Int.toNat a) aa).Note)].toArray), (5, 55, pointer (some ⟨K, 2, none⟩)), (6, 56, int .i64 ((a3.getD (Int.toNat a) aa).Y)), (7, 57, pointer (some ⟨ax, 3, none⟩)), (8, 58, int .i64 ((a3.getD (Int.toNat a) aa).Y)), (9, 59, pointer (some ⟨ax, 4, none⟩)), (10, 60, int .i64 ((a3.getD (Int.toNat a) aa).H)), (11, 61, int .i64 (aj (((a3.getD (Int.toNat a) aa).Y) + ((a3.getD (Int.toNat a) aa).H)))), (12, 62, int .i64 (max ((a3.getD (Int.toNat a) aa).Y) (aj (((a3.getD (Int.toNat a) aa).Y) + ((a3.getD (Int.toNat a) aa).H))))), (13, 63, slice aE ay.length aG), (14, 64, int .i64 a), (15, 65, pointer (some (b1.add (Int.toNat a * 1)))), (16, 66, bool (ay.getD (Int.toNat a) false)), (3, 53, slice (some ⟨C, 0, none⟩) 1 1), (4, 54, slice L (([] : List ac) ++ [(a3.getD (Int.toNat a) aa)]).length M), (17, 67, pointer (some ⟨K, 0, none⟩)), (19, 68, pointer (some ⟨K, 2, none⟩))] D r ∧ Hp G' (tk (slice L (([] : List ac) ++ [(a3.getD (Int.toNat a) aa)]).length M) 8 36 :: bx C [int .i64 ((a3.getD (Int.toNat a) aa).Node), int .i64 ((a3.getD (Int.toNat a) aa).Table), int .i64 ((a3.getD (Int.toNat a) aa).X), int .i64 ((a3.getD (Int.toNat a) aa).Y), int .i64 ((a3.getD (Int.toNat a) aa).H), string ((a3.getD (Int.toNat a) aa).Text), bool ((a3.getD (Int.toNat a) aa).Head), bool ((a3.getD (Int.toNat a) aa).Note)] 36 :: bx ax [int .i64 ((a3.getD (Int.toNat a) aa).Node), int .i64 ((a3.getD (Int.toNat a) aa).Table), int .i64 ((a3.getD (Int.toNat a) aa).X), int .i64 ((a3.getD (Int.toNat a) aa).Y), int .i64 ((a3.getD (Int.toNat a) aa).H), string ((a3.getD (Int.toNat a) aa).Text), bool ((a3.getD (Int.toNat a) aa).Head), bool ((a3.getD (Int.toNat a) aa).Note)] 36 :: bx K [slice L (([] : List ac) ++ [(a3.getD (Int.toNat a) aa)]).length M, slice none 0 0, int .i64 ((a3.getD (Int.toNat a) aa).Y)] 64 :: bx g2 [slice A4 a3.length c5] 24 :: bx g9 [slice aE ay.length aG] 25 :: tk (slice aL az.length aN) 8 36 :: tk (slice aI aO.length aJ) 8 36 :: a0) w) ∨ (D 20 = true ∧ ∃ (C : Nat) (L : Option Addr) (M : Nat) (G' : Gh), a4 ≤ G' ∧ (([] : List ac) ++ [(a3.getD (Int.toNat a) aa)]).length ≤ M ∧ Dat ah G' L (([] : List ac) ++ [(a3.getD (Int.toNat a) aa)]) ∧ Own L M ∧ ag [(0, func (.yield yl) #[] #[]), (2, pointer (some ⟨g9, 0, none⟩)), (4, pointer (some ⟨K, 0, none⟩)), (6, int .i64 a), (7, pointer (some ⟨ax, 0, none⟩)), (8, slice A4 a3.length c5), (9, int .i64 (a3.length : Int)), (10, int .i64 a)] [] [(0, 50, pointer (some ⟨K, 0, none⟩)), (1, 51, slice none 0 0), (2, 52, agg [int .i64 ((a3.getD (Int.toNat a) aa).Node), int .i64 ((a3.getD (Int.toNat a) aa).Table), int .i64 ((a3.getD (Int.toNat a) aa).X), int .i64 ((a3.getD (Int.toNat a) aa).Y), int .i64 ((a3.getD (Int.toNat a) aa).H), string ((a3.getD (Int.toNat a) aa).Text), bool ((a3.getD (Int.toNat a) aa).Head), bool ((a3.getD (Int.toNat a) aa).Note)].toArray), (5, 55, pointer (some ⟨K, 2, none⟩)), (6, 56, int .i64 ((a3.getD (Int.toNat a) aa).Y)), (7, 57, pointer (some ⟨ax, 3, none⟩)), (8, 58, int .i64 ((a3.getD (Int.toNat a) aa).Y)), (9, 59, pointer (some ⟨ax, 4, none⟩)), (10, 60, int .i64 ((a3.getD (Int.toNat a) aa).H)), (11, 61, int .i64 (aj (((a3.getD (Int.toNat a) aa).Y) + ((a3.getD (Int.toNat a) aa).H)))), (12, 62, int .i64 (max ((a3.getD (Int.toNat a) aa).Y) (aj (((a3.getD (Int.toNat a) aa).Y) + ((a3.getD (Int.toNat a) aa).H))))), (13, 63, slice aE ay.length aG), (14, 64, int .i64 a), (15, 65, pointer (some (b1.add (Int.toNat a * 1)))), (16, 66, bool (ay.getD (Int.toNat a) false)), (3, 53, slice (some ⟨C, 0, none⟩) 1 1), (4, 54, slice L (([] : List ac) ++ [(a3.getD (Int.toNat a) aa)]).length M), (17, 67, pointer (some ⟨K, 0, none⟩)), (19, 68, pointer (some ⟨K, 2, none⟩)), (21, 5, bool (ay.getD (Int.toNat a) false))] D r ∧ Hp G' (tk (slice L (([] : List ac) ++ [(a3.getD (Int.toNat a) aa)]).length M) 8 36 :: bx C [int .i64 ((a3.getD (Int.toNat a) aa).Node), int .i64 ((a3.getD (Int.toNat a) aa).Table), int .i64 ((a3.getD (Int.toNat a) aa).X), int .i64 ((a3.getD (Int.toNat a) aa).Y), int .i64 ((a3.getD (Int.toNat a) aa).H), string ((a3.getD (Int.toNat a) aa).Text), bool ((a3.getD (Int.toNat a) aa).Head), bool ((a3.getD (Int.toNat a) aa).Note)] 36 :: bx ax [int .i64 ((a3.getD (Int.toNat a) aa).Node), int .i64 ((a3.getD (Int.toNat a) aa).Table), int .i64 ((a3.getD (Int.toNat a) aa).X), int .i64 ((a3.getD (Int.toNat a) aa).Y), int .i64 ((a3.getD (Int.toNat a) aa).H), string ((a3.getD (Int.toNat a) aa).Text), bool ((a3.getD (Int.toNat a) aa).Head), bool ((a3.getD (Int.toNat a) aa).Note)] 36 :: bx K [slice L (([] : List ac) ++ [(a3.getD (Int.toNat a) aa)]).length M, slice none 0 0, int .i64 (max ((a3.getD (Int.toNat a) aa).Y) (aj (((a3.getD (Int.toNat a) aa).Y) + ((a3.getD (Int.toNat a) aa).H))))] 64 :: bx g2 [slice A4 a3.length c5] 24 :: bx g9 [slice aE ay.length aG] 25 :: tk (slice aL az.length aN) 8 36 :: tk (slice aI aO.length aJ) 8 36 :: a0) w)) dJ z z ?_ ?_ ?_
 exact (.inl ⟨z, _, Gh.le_refl _, ag.start ⟨z, z, z, z, z, z, z, z, tv⟩ trivial, dM.drew⟩)
 refine ⟨?_, ?_, ?_, ?_, ?_, ?_, ?_, ?_, ?_, ?_, ?_, ?_, ?_, ?_, ?_, ?_, ?_, ?_, ?_, ?_, ?_, ?_, tv⟩
 rintro D r aS (⟨c, W, A, g, s⟩ | ⟨b, c, C, W, A, g, s⟩ | ⟨b, c, C, L, M, W, A, ae, af, ai, g, s⟩ | ⟨b, c, C, L, M, W, A, ae, af, ai, g, s⟩ | ⟨b, C, L, M, W, A, ae, af, ai, g, s⟩) f d n
 obtain ⟨m, rfl⟩ := Has.ex (cC (g.ins.get 2 rfl) cN)
 exact fa dw z<|nl ⟨z, (.inl ⟨c, _, A, (ag.step g f z z z z), s⟩)⟩
 obtain ⟨m, rfl⟩ := Has.ex (cC (g.ins.get 2 rfl) cN)
 exact fa dw z<|nl ⟨z, (.inr (.inl ⟨b, c, C, _, A, (ag.step g f z z z z), s⟩))⟩
 cases (n 4 rfl).symm.trans b
 cases (n 18 rfl).symm.trans b
 cases (n 20 rfl).symm.trans b
 rintro D r aS (⟨c, W, A, g, s⟩ | ⟨b, c, C, W, A, g, s⟩ | ⟨b, c, C, L, M, W, A, ae, af, ai, g, s⟩ | ⟨b, c, C, L, M, W, A, ae, af, ai, g, s⟩ | ⟨b, C, L, M, W, A, ae, af, ai, g, s⟩) f d n
 obtain ⟨m, rfl⟩ := Has.ex (cC (g.get 0 rfl (d 0 rfl)) cN)
 exact ld s 1 cB z z z<|nl ⟨z, (.inl ⟨c, _, A, (ag.step g f z z z z), s⟩)⟩
 obtain ⟨m, rfl⟩ := Has.ex (cC (g.get 0 rfl (d 0 rfl)) cN)
 exact ld s 2 cB z z z<|nl ⟨z, (.inr (.inl ⟨b, c, C, _, A, (ag.step g f z z z z), s⟩))⟩
 cases (n 4 rfl).symm.trans b
 cases (n 18 rfl).symm.trans b
 cases (n 20 rfl).symm.trans b
 rintro D r aS (⟨c, W, A, g, s⟩ | ⟨b, c, C, W, A, g, s⟩ | ⟨b, c, C, L, M, W, A, ae, af, ai, g, s⟩ | ⟨b, c, C, L, M, W, A, ae, af, ai, g, s⟩ | ⟨b, C, L, M, W, A, ae, af, ai, g, s⟩) f d n
 obtain ⟨m, rfl⟩ := Has.ex (cC (g.ins.get 4 rfl) cN)
 exact gg s 0 dx z z z z<|nl ⟨z, (.inl ⟨c, _, A, (ag.step g f z z z z), s⟩)⟩
 cases (n 3 rfl).symm.trans b
 cases (n 4 rfl).symm.trans b
 cases (n 18 rfl).symm.trans b
 cases (n 20 rfl).symm.trans b
 rintro D r aS (⟨c, W, A, g, s⟩ | ⟨b, c, C, W, A, g, s⟩ | ⟨b, c, C, L, M, W, A, ae, af, ai, g, s⟩ | ⟨b, c, C, L, M, W, A, ae, af, ai, g, s⟩ | ⟨b, C, L, M, W, A, ae, af, ai, g, s⟩) f d n
 obtain ⟨m, rfl⟩ := Has.ex (cC (g.get 2 rfl (d 2 rfl)) cN)
 refine eh s (vs := [(0, agg [int .i64 ((a3.getD (Int.toNat a) aa).Node), int .i64 ((a3.getD (Int.toNat a) aa).Table), int .i64 ((a3.getD (Int.toNat a) aa).X), int .i64 ((a3.getD (Int.toNat a) aa).Y), int .i64 ((a3.getD (Int.toNat a) aa).H), string ((a3.getD (Int.toNat a) aa).Text), bool ((a3.getD (Int.toNat a) aa).Head), bool ((a3.getD (Int.toNat a) aa).Note)].toArray)]) (cs := [int .i64 ((a3.getD (Int.toNat a) aa).Node), int .i64 ((a3.getD (Int.toNat a) aa).Table), int .i64 ((a3.getD (Int.toNat a) aa).X), int .i64 ((a3.getD (Int.toNat a) aa).Y), int .i64 ((a3.getD (Int.toNat a) aa).H), string ((a3.getD (Int.toNat a) aa).Text), bool ((a3.getD (Int.toNat a) aa).Head), bool ((a3.getD (Int.toNat a) aa).Note)]) cA cP rfl (by decide) rfl (by kernel_rfl) (fun C fz dP => ?_)
 exact nl ⟨z, (.inr (.inl ⟨z, (n 4 z), C, _, A, (ag.step (ag.more (new := [(3, 53, slice (some ⟨C, 0, none⟩) 1 1)]) g (List.forall_mem_cons.2 ⟨f, (fun _ h => nomatch h)⟩)) f z z z z), dP⟩))⟩
 cases f.symm.trans b
 cases (n 4 rfl).symm.trans b
 cases (n 18 rfl).symm.trans b
 cases (n 20 rfl).symm.trans b
 rintro D r aS (⟨c, W, A, g, s⟩ | ⟨b, c, C, W, A, g, s⟩ | ⟨b, c, C, L, M, W, A, ae, af, ai, g, s⟩ | ⟨b, c, C, L, M, W, A, ae, af, ai, g, s⟩ | ⟨b, C, L, M, W, A, ae, af, ai, g, s⟩) f d n
 cases (d 3 rfl).symm.trans c
 obtain ⟨m, rfl⟩ := Has.ex (cC (g.get 1 rfl (d 1 rfl)) (cC (g.get 15 rfl (d 3 rfl)) cN))
 refine have cV:=Hp.emp s;?_
 refine fx (xs := ([] : List ac)) (ys := [(a3.getD (Int.toNat a) aa)]) ah cV 0 cA cP rfl rfl rfl rfl Own.nil (show ([] : List ac).length ≤ 0 from Nat.le_refl 0) (Dat.nil _ _ _) (dU cV 1 dA rfl rfl) ⟨[int .i64 ((a3.getD (Int.toNat a) aa).Node), int .i64 ((a3.getD (Int.toNat a) aa).Table), int .i64 ((a3.getD (Int.toNat a) aa).X), int .i64 ((a3.getD (Int.toNat a) aa).Y), int .i64 ((a3.getD (Int.toNat a) aa).H), string ((a3.getD (Int.toNat a) aa).Text), bool ((a3.getD (Int.toNat a) aa).Head), bool ((a3.getD (Int.toNat a) aa).Note)], _, rfl, (aH (x := (a3.getD (Int.toNat a) aa))), rfl⟩ rfl (by simp only [List.length_cons, List.length_nil] at *; omega) (by simp only [List.length_cons, List.length_nil] at *; omega) (fun L M fA fB dQ ai ae af dS => ?_)
 exact nl ⟨z, (.inr (.inr (.inl ⟨z, (n 18 z), C, L, M, _, (gT A dQ), ae, af, ai, (ag.step (ag.more (new := [(4, 54, slice L (([] : List ac) ++ [(a3.getD (Int.toNat a) aa)]).length M), (17, 67, pointer (some ⟨K, 0, none⟩))]) g (List.forall_mem_cons.2 ⟨f, (List.forall_mem_cons.2 ⟨n 17 z, (fun _ h => nomatch h)⟩)⟩)) f z z z z), dS⟩)))⟩
 cases f.symm.trans b
 cases (n 18 rfl).symm.trans b
 cases (n 20 rfl).symm.trans b
 rintro D r aS (⟨c, W, A, g, s⟩ | ⟨b, c, C, W, A, g, s⟩ | ⟨b, c, C, L, M, W, A, ae, af, ai, g, s⟩ | ⟨b, c, C, L, M, W, A, ae, af, ai, g, s⟩ | ⟨b, C, L, M, W, A, ae, af, ai, g, s⟩) f d n
 obtain ⟨m, rfl⟩ := Has.ex (cC (g.ins.get 2 rfl) cN)
 exact fa dO z<|nl ⟨z, (.inl ⟨c, _, A, (ag.step g f z z z z), s⟩)⟩
 obtain ⟨m, rfl⟩ := Has.ex (cC (g.ins.get 2 rfl) cN)
 exact fa dO z<|nl ⟨z, (.inr (.inl ⟨b, c, C, _, A, (ag.step g f z z z z), s⟩))⟩
 obtain ⟨m, rfl⟩ := Has.ex (cC (g.ins.get 2 rfl) cN)
 exact fa dO z<|nl ⟨z, (.inr (.inr (.inl ⟨b, c, C, L, M, _, A, ae, af, ai, (ag.step g f z z z z), s⟩)))⟩
 cases (n 18 rfl).symm.trans b
 cases (n 20 rfl).symm.trans b
 rintro D r aS (⟨c, W, A, g, s⟩ | ⟨b, c, C, W, A, g, s⟩ | ⟨b, c, C, L, M, W, A, ae, af, ai, g, s⟩ | ⟨b, c, C, L, M, W, A, ae, af, ai, g, s⟩ | ⟨b, C, L, M, W, A, ae, af, ai, g, s⟩) f d n
 obtain ⟨m, rfl⟩ := Has.ex (cC (g.get 3 rfl (d 5 rfl)) cN)
 exact ld s 1 bb z z z<|nl ⟨z, (.inl ⟨c, _, A, (ag.step g f z z z z), s⟩)⟩
 obtain ⟨m, rfl⟩ := Has.ex (cC (g.get 3 rfl (d 5 rfl)) cN)
 exact ld s 2 bb z z z<|nl ⟨z, (.inr (.inl ⟨b, c, C, _, A, (ag.step g f z z z z), s⟩))⟩
 obtain ⟨m, rfl⟩ := Has.ex (cC (g.get 3 rfl (d 5 rfl)) cN)
 exact ld s 3 bb z z z<|nl ⟨z, (.inr (.inr (.inl ⟨b, c, C, L, M, _, A, ae, af, ai, (ag.step g f z z z z), s⟩)))⟩
 cases (n 18 rfl).symm.trans b
 cases (n 20 rfl).symm.trans b
 rintro D r aS (⟨c, W, A, g, s⟩ | ⟨b, c, C, W, A, g, s⟩ | ⟨b, c, C, L, M, W, A, ae, af, ai, g, s⟩ | ⟨b, c, C, L, M, W, A, ae, af, ai, g, s⟩ | ⟨b, C, L, M, W, A, ae, af, ai, g, s⟩) f d n
 obtain ⟨m, rfl⟩ := Has.ex (cC (g.ins.get 4 rfl) cN)
 exact fa bn z<|nl ⟨z, (.inl ⟨c, _, A, (ag.step g f z z z z), s⟩)⟩
 obtain ⟨m, rfl⟩ := Has.ex (cC (g.ins.get 4 rfl) cN)
 exact fa bn z<|nl ⟨z, (.inr (.inl ⟨b, c, C, _, A, (ag.step g f z z z z), s⟩))⟩
 obtain ⟨m, rfl⟩ := Has.ex (cC (g.ins.get 4 rfl) cN)
 exact fa bn z<|nl ⟨z, (.inr (.inr (.inl ⟨b, c, C, L, M, _, A, ae, af, ai, (ag.step g f z z z z), s⟩)))⟩
 obtain ⟨m, rfl⟩ := Has.ex (cC (g.ins.get 4 rfl) cN)
 exact fa bn z<|nl ⟨z, (.inr (.inr (.inr (.inl ⟨b, c, C, L, M, _, A, ae, af, ai, (ag.step g f z z z z), s⟩))))⟩
 cases (n 20 rfl).symm.trans b
 rintro D r aS (⟨c, W, A, g, s⟩ | ⟨b, c, C, W, A, g, s⟩ | ⟨b, c, C, L, M, W, A, ae, af, ai, g, s⟩ | ⟨b, c, C, L, M, W, A, ae, af, ai, g, s⟩ | ⟨b, C, L, M, W, A, ae, af, ai, g, s⟩) f d n
 obtain ⟨m, rfl⟩ := Has.ex (cC (g.get 5 rfl (d 7 rfl)) cN)
 exact ld s 0 bb z z z<|nl ⟨z, (.inl ⟨c, _, A, (ag.step g f z z z z), s⟩)⟩
 obtain ⟨m, rfl⟩ := Has.ex (cC (g.get 5 rfl (d 7 rfl)) cN)
 exact ld s 1 bb z z z<|nl ⟨z, (.inr (.inl ⟨b, c, C, _, A, (ag.step g f z z z z), s⟩))⟩
 obtain ⟨m, rfl⟩ := Has.ex (cC (g.get 5 rfl (d 7 rfl)) cN)
 exact ld s 2 bb z z z<|nl ⟨z, (.inr (.inr (.inl ⟨b, c, C, L, M, _, A, ae, af, ai, (ag.step g f z z z z), s⟩)))⟩
 obtain ⟨m, rfl⟩ := Has.ex (cC (g.get 5 rfl (d 7 rfl)) cN)
 exact ld s 2 bb z z z<|nl ⟨z, (.inr (.inr (.inr (.inl ⟨b, c, C, L, M, _, A, ae, af, ai, (ag.step g f z z z z), s⟩))))⟩
 cases (n 20 rfl).symm.trans b
 rintro D r aS (⟨c, W, A, g, s⟩ | ⟨b, c, C, W, A, g, s⟩ | ⟨b, c, C, L, M, W, A, ae, af, ai, g, s⟩ | ⟨b, c, C, L, M, W, A, ae, af, ai, g, s⟩ | ⟨b, C, L, M, W, A, ae, af, ai, g, s⟩) f d n
 obtain ⟨m, rfl⟩ := Has.ex (cC (g.ins.get 4 rfl) cN)
 exact fa cm z<|nl ⟨z, (.inl ⟨c, _, A, (ag.step g f z z z z), s⟩)⟩
 obtain ⟨m, rfl⟩ := Has.ex (cC (g.ins.get 4 rfl) cN)
 exact fa cm z<|nl ⟨z, (.inr (.inl ⟨b, c, C, _, A, (ag.step g f z z z z), s⟩))⟩
 obtain ⟨m, rfl⟩ := Has.ex (cC (g.ins.get 4 rfl) cN)
 exact fa cm z<|nl ⟨z, (.inr (.inr (.inl ⟨b, c, C, L, M, _, A, ae, af, ai, (ag.step g f z z z z), s⟩)))⟩
 obtain ⟨m, rfl⟩ := Has.ex (cC (g.ins.get 4 rfl) cN)
 exact fa cm z<|nl ⟨z, (.inr (.inr (.inr (.inl ⟨b, c, C, L, M, _, A, ae, af, ai, (ag.step g f z z z z), s⟩))))⟩
 cases (n 20 rfl).symm.trans b
 rintro D r aS (⟨c, W, A, g, s⟩ | ⟨b, c, C, W, A, g, s⟩ | ⟨b, c, C, L, M, W, A, ae, af, ai, g, s⟩ | ⟨b, c, C, L, M, W, A, ae, af, ai, g, s⟩ | ⟨b, C, L, M, W, A, ae, af, ai, g, s⟩) f d n
 obtain ⟨m, rfl⟩ := Has.ex (cC (g.get 7 rfl (d 9 rfl)) cN)
 exact ld s 0 bb z z z<|nl ⟨z, (.inl ⟨c, _, A, (ag.step g f z z z z), s⟩)⟩
 obtain ⟨m, rfl⟩ := Has.ex (cC (g.get 7 rfl (d 9 rfl)) cN)
 exact ld s 1 bb z z z<|nl ⟨z, (.inr (.inl ⟨b, c, C, _, A, (ag.step g f z z z z), s⟩))⟩
 obtain ⟨m, rfl⟩ := Has.ex (cC (g.get 7 rfl (d 9 rfl)) cN)
 exact ld s 2 bb z z z<|nl ⟨z, (.inr (.inr (.inl ⟨b, c, C, L, M, _, A, ae, af, ai, (ag.step g f z z z z), s⟩)))⟩
 obtain ⟨m, rfl⟩ := Has.ex (cC (g.get 7 rfl (d 9 rfl)) cN)
 exact ld s 2 bb z z z<|nl ⟨z, (.inr (.inr (.inr (.inl ⟨b, c, C, L, M, _, A, ae, af, ai, (ag.step g f z z z z), s⟩))))⟩
 cases (n 20 rfl).symm.trans b
 rintro D r aS (⟨c, W, A, g, s⟩ | ⟨b, c, C, W, A, g, s⟩ | ⟨b, c, C, L, M, W, A, ae, af, ai, g, s⟩ | ⟨b, c, C, L, M, W, A, ae, af, ai, g, s⟩ | ⟨b, C, L, M, W, A, ae, af, ai, g, s⟩) f d n
 obtain ⟨m, rfl⟩ := Has.ex (cC (g.get 6 rfl (d 8 rfl)) (cC (g.get 8 rfl (d 10 rfl)) cN))
 exact bm z z<|nl ⟨z, (.inl ⟨c, _, A, (ag.step g f z z z z), s⟩)⟩
 obtain ⟨m, rfl⟩ := Has.ex (cC (g.get 6 rfl (d 8 rfl)) (cC (g.get 8 rfl (d 10 rfl)) cN))
 exact bm z z<|nl ⟨z, (.inr (.inl ⟨b, c, C, _, A, (ag.step g f z z z z), s⟩))⟩
 obtain ⟨m, rfl⟩ := Has.ex (cC (g.get 6 rfl (d 8 rfl)) (cC (g.get 8 rfl (d 10 rfl)) cN))
 exact bm z z<|nl ⟨z, (.inr (.inr (.inl ⟨b, c, C, L, M, _, A, ae, af, ai, (ag.step g f z z z z), s⟩)))⟩
 obtain ⟨m, rfl⟩ := Has.ex (cC (g.get 6 rfl (d 8 rfl)) (cC (g.get 8 rfl (d 10 rfl)) cN))
 exact bm z z<|nl ⟨z, (.inr (.inr (.inr (.inl ⟨b, c, C, L, M, _, A, ae, af, ai, (ag.step g f z z z z), s⟩))))⟩
 cases (n 20 rfl).symm.trans b
 rintro D r aS (⟨c, W, A, g, s⟩ | ⟨b, c, C, W, A, g, s⟩ | ⟨b, c, C, L, M, W, A, ae, af, ai, g, s⟩ | ⟨b, c, C, L, M, W, A, ae, af, ai, g, s⟩ | ⟨b, C, L, M, W, A, ae, af, ai, g, s⟩) f d n
 obtain ⟨m, rfl⟩ := Has.ex (cC (g.get 4 rfl (d 6 rfl)) (cC (g.get 9 rfl (d 11 rfl)) cN))
 exact dR z z<|nl ⟨z, (.inl ⟨c, _, A, (ag.step g f z z z z), s⟩)⟩
 obtain ⟨m, rfl⟩ := Has.ex (cC (g.get 4 rfl (d 6 rfl)) (cC (g.get 9 rfl (d 11 rfl)) cN))
 exact dR z z<|nl ⟨z, (.inr (.inl ⟨b, c, C, _, A, (ag.step g f z z z z), s⟩))⟩
 obtain ⟨m, rfl⟩ := Has.ex (cC (g.get 4 rfl (d 6 rfl)) (cC (g.get 9 rfl (d 11 rfl)) cN))
 exact dR z z<|nl ⟨z, (.inr (.inr (.inl ⟨b, c, C, L, M, _, A, ae, af, ai, (ag.step g f z z z z), s⟩)))⟩
 obtain ⟨m, rfl⟩ := Has.ex (cC (g.get 4 rfl (d 6 rfl)) (cC (g.get 9 rfl (d 11 rfl)) cN))
 exact dR z z<|nl ⟨z, (.inr (.inr (.inr (.inl ⟨b, c, C, L, M, _, A, ae, af, ai, (ag.step g f z z z z), s⟩))))⟩
 cases (n 20 rfl).symm.trans b
 rintro D r aS (⟨c, W, A, g, s⟩ | ⟨b, c, C, W, A, g, s⟩ | ⟨b, c, C, L, M, W, A, ae, af, ai, g, s⟩ | ⟨b, c, C, L, M, W, A, ae, af, ai, g, s⟩ | ⟨b, C, L, M, W, A, ae, af, ai, g, s⟩) f d n
 obtain ⟨m, rfl⟩ := Has.ex (cC (g.ins.get 1 rfl) cN)
 exact ld s 3 ir z z z<|nl ⟨z, (.inl ⟨c, _, A, (ag.step g f z z z z), s⟩)⟩
 obtain ⟨m, rfl⟩ := Has.ex (cC (g.ins.get 1 rfl) cN)
 exact ld s 4 ir z z z<|nl ⟨z, (.inr (.inl ⟨b, c, C, _, A, (ag.step g f z z z z), s⟩))⟩
 obtain ⟨m, rfl⟩ := Has.ex (cC (g.ins.get 1 rfl) cN)
 exact ld s 5 ir z z z<|nl ⟨z, (.inr (.inr (.inl ⟨b, c, C, L, M, _, A, ae, af, ai, (ag.step g f z z z z), s⟩)))⟩
 obtain ⟨m, rfl⟩ := Has.ex (cC (g.ins.get 1 rfl) cN)
 exact ld s 5 ir z z z<|nl ⟨z, (.inr (.inr (.inr (.inl ⟨b, c, C, L, M, _, A, ae, af, ai, (ag.step g f z z z z), s⟩))))⟩
 obtain ⟨m, rfl⟩ := Has.ex (cC (g.ins.get 1 rfl) cN)
 exact ld s 5 ir z z z<|nl ⟨z, (.inr (.inr (.inr (.inr ⟨b, C, L, M, _, A, ae, af, ai, (ag.step g f z z z z), s⟩))))⟩
 rintro D r aS (⟨c, W, A, g, s⟩ | ⟨b, c, C, W, A, g, s⟩ | ⟨b, c, C, L, M, W, A, ae, af, ai, g, s⟩ | ⟨b, c, C, L, M, W, A, ae, af, ai, g, s⟩ | ⟨b, C, L, M, W, A, ae, af, ai, g, s⟩) f d n
 obtain ⟨m, rfl⟩ := Has.ex (cC (g.ins.get 3 rfl) cN)
 exact mv z<|nl ⟨z, (.inl ⟨c, _, A, (ag.step g f z z z z), s⟩)⟩
 obtain ⟨m, rfl⟩ := Has.ex (cC (g.ins.get 3 rfl) cN)
 exact mv z<|nl ⟨z, (.inr (.inl ⟨b, c, C, _, A, (ag.step g f z z z z), s⟩))⟩
 obtain ⟨m, rfl⟩ := Has.ex (cC (g.ins.get 3 rfl) cN)
 exact mv z<|nl ⟨z, (.inr (.inr (.inl ⟨b, c, C, L, M, _, A, ae, af, ai, (ag.step g f z z z z), s⟩)))⟩
 obtain ⟨m, rfl⟩ := Has.ex (cC (g.ins.get 3 rfl) cN)
 exact mv z<|nl ⟨z, (.inr (.inr (.inr (.inl ⟨b, c, C, L, M, _, A, ae, af, ai, (ag.step g f z z z z), s⟩))))⟩
 obtain ⟨m, rfl⟩ := Has.ex (cC (g.ins.get 3 rfl) cN)
 exact mv z<|nl ⟨z, (.inr (.inr (.inr (.inr ⟨b, C, L, M, _, A, ae, af, ai, (ag.step g f z z z z), s⟩))))⟩
 rintro D r aS (⟨c, W, A, g, s⟩ | ⟨b, c, C, W, A, g, s⟩ | ⟨b, c, C, L, M, W, A, ae, af, ai, g, s⟩ | ⟨b, c, C, L, M, W, A, ae, af, ai, g, s⟩ | ⟨b, C, L, M, W, A, ae, af, ai, g, s⟩) f d n
 obtain ⟨m, rfl⟩ := Has.ex (cC (g.get 11 rfl (d 13 rfl)) (cC (g.get 12 rfl (d 14 rfl)) cN))
 exact bL fV z b2 z bs bt<|nl ⟨z, (.inl ⟨c, _, A, (ag.step g f z z z z), s⟩)⟩
 obtain ⟨m, rfl⟩ := Has.ex (cC (g.get 11 rfl (d 13 rfl)) (cC (g.get 12 rfl (d 14 rfl)) cN))
 exact bL fV z b2 z bs bt<|nl ⟨z, (.inr (.inl ⟨b, c, C, _, A, (ag.step g f z z z z), s⟩))⟩
 obtain ⟨m, rfl⟩ := Has.ex (cC (g.get 11 rfl (d 13 rfl)) (cC (g.get 12 rfl (d 14 rfl)) cN))
 exact bL fV z b2 z bs bt<|nl ⟨z, (.inr (.inr (.inl ⟨b, c, C, L, M, _, A, ae, af, ai, (ag.step g f z z z z), s⟩)))⟩
 obtain ⟨m, rfl⟩ := Has.ex (cC (g.get 11 rfl (d 13 rfl)) (cC (g.get 12 rfl (d 14 rfl)) cN))
 exact bL fV z b2 z bs bt<|nl ⟨z, (.inr (.inr (.inr (.inl ⟨b, c, C, L, M, _, A, ae, af, ai, (ag.step g f z z z z), s⟩))))⟩
 obtain ⟨m, rfl⟩ := Has.ex (cC (g.get 11 rfl (d 13 rfl)) (cC (g.get 12 rfl (d 14 rfl)) cN))
 exact bL fV z b2 z bs bt<|nl ⟨z, (.inr (.inr (.inr (.inr ⟨b, C, L, M, _, A, ae, af, ai, (ag.step g f z z z z), s⟩))))⟩
 rintro D r aS (⟨c, W, A, g, s⟩ | ⟨b, c, C, W, A, g, s⟩ | ⟨b, c, C, L, M, W, A, ae, af, ai, g, s⟩ | ⟨b, c, C, L, M, W, A, ae, af, ai, g, s⟩ | ⟨b, C, L, M, W, A, ae, af, ai, g, s⟩) f d n
 obtain ⟨m, rfl⟩ := Has.ex (cC (g.get 13 rfl (d 15 rfl)) cN)
 exact et s jK z (A.cel _ _ (b3 0 _ z))<|nl ⟨z, (.inl ⟨c, _, A, (ag.step g f z z z z), s⟩)⟩
 obtain ⟨m, rfl⟩ := Has.ex (cC (g.get 13 rfl (d 15 rfl)) cN)
 exact et s jK z (A.cel _ _ (b3 0 _ z))<|nl ⟨z, (.inr (.inl ⟨b, c, C, _, A, (ag.step g f z z z z), s⟩))⟩
 obtain ⟨m, rfl⟩ := Has.ex (cC (g.get 13 rfl (d 15 rfl)) cN)
 exact et s jK z (A.cel _ _ (b3 0 _ z))<|nl ⟨z, (.inr (.inr (.inl ⟨b, c, C, L, M, _, A, ae, af, ai, (ag.step g f z z z z), s⟩)))⟩
 obtain ⟨m, rfl⟩ := Has.ex (cC (g.get 13 rfl (d 15 rfl)) cN)
 exact et s jK z (A.cel _ _ (b3 0 _ z))<|nl ⟨z, (.inr (.inr (.inr (.inl ⟨b, c, C, L, M, _, A, ae, af, ai, (ag.step g f z z z z), s⟩))))⟩
 obtain ⟨m, rfl⟩ := Has.ex (cC (g.get 13 rfl (d 15 rfl)) cN)
 exact et s jK z (A.cel _ _ (b3 0 _ z))<|nl ⟨z, (.inr (.inr (.inr (.inr ⟨b, C, L, M, _, A, ae, af, ai, (ag.step g f z z z z), s⟩))))⟩
 rintro D r aS (⟨c, W, A, g, s⟩ | ⟨b, c, C, W, A, g, s⟩ | ⟨b, c, C, L, M, W, A, ae, af, ai, g, s⟩ | ⟨b, c, C, L, M, W, A, ae, af, ai, g, s⟩ | ⟨b, C, L, M, W, A, ae, af, ai, g, s⟩) f d n
 cases (d 3 rfl).symm.trans c
 cases (d 4 rfl).symm.trans c
 obtain ⟨m, rfl⟩ := Has.ex (cC (g.ins.get 2 rfl) cN)
 exact fa dw z<|nl ⟨z, (.inr (.inr (.inl ⟨b, c, C, L, M, _, A, ae, af, ai, (ag.step g f z z z z), s⟩)))⟩
 cases (n 18 rfl).symm.trans b
 cases (n 20 rfl).symm.trans b
 rintro D r aS (⟨c, W, A, g, s⟩ | ⟨b, c, C, W, A, g, s⟩ | ⟨b, c, C, L, M, W, A, ae, af, ai, g, s⟩ | ⟨b, c, C, L, M, W, A, ae, af, ai, g, s⟩ | ⟨b, C, L, M, W, A, ae, af, ai, g, s⟩) f d n
 cases (d 3 rfl).symm.trans c
 cases (d 4 rfl).symm.trans c
 obtain ⟨m, rfl⟩ := Has.ex (cC (g.get 16 rfl (d 4 rfl)) (cC (g.get 17 rfl (d 17 rfl)) cN))
 exact f5 s 3 cB z z z z z z z fun fC dT=>nl ⟨z, (.inr (.inr (.inr (.inl ⟨z, (n 20 z), C, L, M, _, A, ae, af, ai, (ag.stepN (ag.more (new := [(19, 68, pointer (some ⟨K, 2, none⟩))]) g (List.forall_mem_cons.2 ⟨n 19 z, (fun _ h => nomatch h)⟩)) z z), dT⟩))))⟩
 cases f.symm.trans b
 cases (n 20 rfl).symm.trans b
 rintro D r aS (⟨c, W, A, g, s⟩ | ⟨b, c, C, W, A, g, s⟩ | ⟨b, c, C, L, M, W, A, ae, af, ai, g, s⟩ | ⟨b, c, C, L, M, W, A, ae, af, ai, g, s⟩ | ⟨b, C, L, M, W, A, ae, af, ai, g, s⟩) f d n
 cases (d 3 rfl).symm.trans c
 cases (d 4 rfl).symm.trans c
 cases (d 18 rfl).symm.trans c
 obtain ⟨m, rfl⟩ := Has.ex (cC (g.ins.get 2 rfl) cN)
 exact fa dO z<|nl ⟨z, (.inr (.inr (.inr (.inl ⟨b, c, C, L, M, _, A, ae, af, ai, (ag.step g f z z z z), s⟩))))⟩
 cases (n 20 rfl).symm.trans b
 rintro D r aS (⟨c, W, A, g, s⟩ | ⟨b, c, C, W, A, g, s⟩ | ⟨b, c, C, L, M, W, A, ae, af, ai, g, s⟩ | ⟨b, c, C, L, M, W, A, ae, af, ai, g, s⟩ | ⟨b, C, L, M, W, A, ae, af, ai, g, s⟩) f d n
 cases (d 3 rfl).symm.trans c
 cases (d 4 rfl).symm.trans c
 cases (d 18 rfl).symm.trans c
 obtain ⟨m, rfl⟩ := Has.ex (cC (g.get 10 rfl (d 12 rfl)) (cC (g.get 18 rfl (d 19 rfl)) cN))
 exact f5 s 3 bb z z z z z z z fun fD dV=>nl ⟨z, (.inr (.inr (.inr (.inr ⟨z, C, L, M, _, A, ae, af, ai, (ag.stepN (ag.more (new := [(21, 5, bool (ay.getD (Int.toNat a) false))]) g (List.forall_mem_cons.2 ⟨n 21 z, (fun _ h => nomatch h)⟩)) z z), dV⟩))))⟩
 cases f.symm.trans b
 rintro D r aS (⟨c, W, A, g, s⟩ | ⟨b, c, C, W, A, g, s⟩ | ⟨b, c, C, L, M, W, A, ae, af, ai, g, s⟩ | ⟨b, c, C, L, M, W, A, ae, af, ai, g, s⟩ | ⟨b, C, L, M, W, A, ae, af, ai, g, s⟩) f d n
 cases (d 3 rfl).symm.trans c
 cases (d 4 rfl).symm.trans c
 cases (d 18 rfl).symm.trans c
 cases (d 20 rfl).symm.trans c
 obtain ⟨m, rfl⟩ := Has.ex (cC (g.get 14 rfl (d 16 rfl)) cN)
 exact aK z<|nl ⟨z, (.inr (.inr (.inr (.inr ⟨b, C, L, M, _, A, ae, af, ai, (ag.step g f z z z z), s⟩))))⟩
 intro D r aS aR hR
 rcases hR with ⟨c, W, A, g, s⟩ | ⟨b, c, C, W, A, g, s⟩ | ⟨b, c, C, L, M, W, A, ae, af, ai, g, s⟩ | ⟨b, c, C, L, M, W, A, ae, af, ai, g, s⟩ | ⟨b, C, L, M, W, A, ae, af, ai, g, s⟩
 cases (aR 3 (Nat.le_of_ble_eq_true rfl)).symm.trans c
 cases (aR 4 (Nat.le_of_ble_eq_true rfl)).symm.trans c
 cases (aR 18 (Nat.le_of_ble_eq_true rfl)).symm.trans c
 cases (aR 20 (Nat.le_of_ble_eq_true rfl)).symm.trans c
 obtain ⟨m, rfl⟩ := Has.ex (cC (g.ins.get 0 rfl) (cC (g.ins.get 1 rfl) (cC (g.ins.get 2 rfl) (cC (g.get 19 rfl (aR 21 (Nat.le_of_ble_eq_true rfl))) (cC (g.ins.get 5 rfl) (cC (g.ins.get 6 rfl) (cC (g.ins.get 7 rfl) cN)))))))
 refine have dW:=Hp.emp s;have dX:=Hp.pick 9 [4, 5, 6, 1, 0] dW z;?_
 cases H
 exact ⟨z, a0, L, M, none, 0, _, z, (gT bX A), ⟨z, z, z, z, z, z, z, tv⟩, dX, ae, af, ai, (show ([] : List ac).length ≤ 0 from Nat.le_refl 0), (Dat.nil _ _ _), Own.nil, (hy.mono A cw), tv⟩
 refine nK b0 H fun H=>wf (bN b0)<|ws<|cU _ _ _<|iK H fun fE H=>iK H fun⟨bu, bv⟩H=>?_
 obtain ⟨b4, fF, b5, dY, fG, b6⟩ := Dat.get (Dat.mono (gT a7 bX) ch) false (a) bu bv
 obtain rfl := dY
 refine aM [0, 1, 0, 4, 15, 0, 32, 0, 128, 0, 512, 1920, 4064, 0, 0, 24576, 57344, 127, 131199, 401407, 925695, 2097151] (fun D r w => (D 3 = false ∧ ∃ (G' : Gh), a4 ≤ G' ∧ ag [(0, func (.yield yl) #[] #[]), (2, pointer (some ⟨g9, 0, none⟩)), (4, pointer (some ⟨K, 0, none⟩)), (6, int .i64 a), (7, pointer (some ⟨ax, 0, none⟩)), (8, slice A4 a3.length c5), (9, int .i64 (a3.length : Int)), (10, int .i64 a)] [] [(0, 50, pointer (some ⟨K, 0, none⟩)), (1, 51, slice none 0 0), (2, 52, agg [int .i64 ((a3.getD (Int.toNat a) aa).Node), int .i64 ((a3.getD (Int.toNat a) aa).Table), int .i64 ((a3.getD (Int.toNat a) aa).X), int .i64 ((a3.getD (Int.toNat a) aa).Y), int .i64 ((a3.getD (Int.toNat a) aa).H), string ((a3.getD (Int.toNat a) aa).Text), bool ((a3.getD (Int.toNat a) aa).Head), bool ((a3.getD (Int.toNat a) aa).Note)].toArray), (5, 55, pointer (some ⟨K, 2, none⟩)), (6, 56, int .i64 0), (7, 57, pointer (some ⟨ax, 3, none⟩)), (8, 58, int .i64 ((a3.getD (Int.toNat a) aa).Y)), (9, 59, pointer (some ⟨ax, 4, none⟩)), (10, 60, int .i64 ((a3.getD (Int.toNat a) aa).H)), (11, 61, int .i64 (aj (((a3.getD (Int.toNat a) aa).Y) + ((a3.getD (Int.toNat a) aa).H)))), (12, 62, int .i64 (max 0 (aj (((a3.getD (Int.toNat a) aa).Y) + ((a3.getD (Int.toNat a) aa).H))))), (13, 63, slice aE ay.length aG), (14, 64, int .i64 a), (15, 65, pointer (some (b4.add (Int.toNat a * 1)))), (16, 66, bool (ay.getD (Int.toNat a) false))] D r ∧ Hp G' (bx ax [int .i64 ((a3.getD (Int.toNat a) aa).Node), int .i64 ((a3.getD (Int.toNat a) aa).Table), int .i64 ((a3.getD (Int.toNat a) aa).X), int .i64 ((a3.getD (Int.toNat a) aa).Y), int .i64 ((a3.getD (Int.toNat a) aa).H), string ((a3.getD (Int.toNat a) aa).Text), bool ((a3.getD (Int.toNat a) aa).Head), bool ((a3.getD (Int.toNat a) aa).Note)] 36 :: bx K [slice none 0 0, slice none 0 0, int .i64 0] 64 :: bx g2 [slice A4 a3.length c5] 24 :: bx g9 [slice aE ay.length aG] 25 :: tk (slice aL az.length aN) 8 36 :: tk (slice aI aO.length aJ) 8 36 :: a0) w) ∨ (D 3 = true ∧ D 4 = false ∧ ∃ (E : Nat) (G' : Gh), a4 ≤ G' ∧ ag [(0, func (.yield yl) #[] #[]), (2, pointer (some ⟨g9, 0, none⟩)), (4, pointer (some ⟨K, 0, none⟩)), (6, int .i64 a), (7, pointer (some ⟨ax, 0, none⟩)), (8, slice A4 a3.length c5), (9, int .i64 (a3.length : Int)), (10, int .i64 a)] [] [(0, 50, pointer (some ⟨K, 0, none⟩)), (1, 51, slice none 0 0), (2, 52, agg [int .i64 ((a3.getD (Int.toNat a) aa).Node), int .i64 ((a3.getD (Int.toNat a) aa).Table), int .i64 ((a3.getD (Int.toNat a) aa).X), int .i64 ((a3.getD (Int.toNat a) aa).Y), int .i64 ((a3.getD (Int.toNat a) aa).H), string ((a3.getD (Int.toNat a) aa).Text), bool ((a3.getD (Int.toNat a) aa).Head), bool ((a3.getD (Int.toNat a) aa).Note)].toArray), (5, 55, pointer (some ⟨K, 2, none⟩)), (6, 56, int .i64 0), (7, 57, pointer (some ⟨ax, 3, none⟩)), (8, 58, int .i64 ((a3.getD (Int.toNat a) aa).Y)), (9, 59, pointer (some ⟨ax, 4, none⟩)), (10, 60, int .i64 ((a3.getD (Int.toNat a) aa).H)), (11, 61, int .i64 (aj (((a3.getD (Int.toNat a) aa).Y) + ((a3.getD (Int.toNat a) aa).H)))), (12, 62, int .i64 (max 0 (aj (((a3.getD (Int.toNat a) aa).Y) + ((a3.getD (Int.toNat a) aa).H))))), (13, 63, slice aE ay.length aG), (14, 64, int .i64 a), (15, 65, pointer (some (b4.add (Int.toNat a * 1)))), (16, 66, bool (ay.getD (Int.toNat a) false)), (3, 53, slice (some ⟨E, 0, none⟩) 1 1)] D r ∧ Hp G' (bx E [int .i64 ((a3.getD (Int.toNat a) aa).Node), int .i64 ((a3.getD (Int.toNat a) aa).Table), int .i64 ((a3.getD (Int.toNat a) aa).X), int .i64 ((a3.getD (Int.toNat a) aa).Y), int .i64 ((a3.getD (Int.toNat a) aa).H), string ((a3.getD (Int.toNat a) aa).Text), bool ((a3.getD (Int.toNat a) aa).Head), bool ((a3.getD (Int.toNat a) aa).Note)] 36 :: bx ax [int .i64 ((a3.getD (Int.toNat a) aa).Node), int .i64 ((a3.getD (Int.toNat a) aa).Table), int .i64 ((a3.getD (Int.toNat a) aa).X), int .i64 ((a3.getD (Int.toNat a) aa).Y), int .i64 ((a3.getD (Int.toNat a) aa).H), string ((a3.getD (Int.toNat a) aa).Text), bool ((a3.getD (Int.toNat a) aa).Head), bool ((a3.getD (Int.toNat a) aa).Note)] 36 :: bx K [slice none 0 0, slice none 0 0, int .i64 0] 64 :: bx g2 [slice A4 a3.length c5] 24 :: bx g9 [slice aE ay.length aG] 25 :: tk (slice aL az.length aN) 8 36 :: tk (slice aI aO.length aJ) 8 36 :: a0) w) ∨ (D 4 = true ∧ D 18 = false ∧ ∃ (E : Nat) (O : Option Addr) (P : Nat) (G' : Gh), a4 ≤ G' ∧ (([] : List ac) ++ [(a3.getD (Int.toNat a) aa)]).length ≤ P ∧ Dat ah G' O (([] : List ac) ++ [(a3.getD (Int.toNat a) aa)]) ∧ Own O P ∧ ag [(0, func (.yield yl) #[] #[]), (2, pointer (some ⟨g9, 0, none⟩)), (4, pointer (some ⟨K, 0, none⟩)), (6, int .i64 a), (7, pointer (some ⟨ax, 0, none⟩)), (8, slice A4 a3.length c5), (9, int .i64 (a3.length : Int)), (10, int .i64 a)] [] [(0, 50, pointer (some ⟨K, 0, none⟩)), (1, 51, slice none 0 0), (2, 52, agg [int .i64 ((a3.getD (Int.toNat a) aa).Node), int .i64 ((a3.getD (Int.toNat a) aa).Table), int .i64 ((a3.getD (Int.toNat a) aa).X), int .i64 ((a3.getD (Int.toNat a) aa).Y), int .i64 ((a3.getD (Int.toNat a) aa).H), string ((a3.getD (Int.toNat a) aa).Text), bool ((a3.getD (Int.toNat a) aa).Head), bool ((a3.getD (Int.toNat a) aa).Note)].toArray), (5, 55, pointer (some ⟨K, 2, none⟩)), (6, 56, int .i64 0), (7, 57, pointer (some ⟨ax, 3, none⟩)), (8, 58, int .i64 ((a3.getD (Int.toNat a) aa).Y)), (9, 59, pointer (some ⟨ax, 4, none⟩)), (10, 60, int .i64 ((a3.getD (Int.toNat a) aa).H)), (11, 61, int .i64 (aj (((a3.getD (Int.toNat a) aa).Y) + ((a3.getD (Int.toNat a) aa).H)))), (12, 62, int .i64 (max 0 (aj (((a3.getD (Int.toNat a) aa).Y) + ((a3.getD (Int.toNat a) aa).H))))), (13, 63, slice aE ay.length aG), (14, 64, int .i64 a), (15, 65, pointer (some (b4.add (Int.toNat a * 1)))), (16, 66, bool (ay.getD (Int.toNat a) false)), (3, 53, slice (some ⟨E, 0, none⟩) 1 1), (4, 54, slice O (([] : List ac) ++ [(a3.getD (Int.toNat a) aa)]).length P), (17, 67, pointer (some ⟨K, 0, none⟩))] D r ∧ Hp G' (tk (slice O (([] : List ac) ++ [(a3.getD (Int.toNat a) aa)]).length P) 8 36 :: bx E [int .i64 ((a3.getD (Int.toNat a) aa).Node), int .i64 ((a3.getD (Int.toNat a) aa).Table), int .i64 ((a3.getD (Int.toNat a) aa).X), int .i64 ((a3.getD (Int.toNat a) aa).Y), int .i64 ((a3.getD (Int.toNat a) aa).H), string ((a3.getD (Int.toNat a) aa).Text), bool ((a3.getD (Int.toNat a) aa).Head), bool ((a3.getD (Int.toNat a) aa).Note)] 36 :: bx ax [int .i64 ((a3.getD (Int.toNat a) aa).Node), int .i64 ((a3.getD (Int.toNat a) aa).Table), int .i64 ((a3.getD (Int.toNat a) aa).X), int .i64 ((a3.getD (Int.toNat a) aa).Y), int .i64 ((a3.getD (Int.toNat a) aa).H), string ((a3.getD (Int.toNat a) aa).Text), bool ((a3.getD (Int.toNat a) aa).Head), bool ((a3.getD (Int.toNat a) aa).Note)] 36 :: bx K [slice none 0 0, slice none 0 0, int .i64 0] 64 :: bx g2 [slice A4 a3.length c5] 24 :: bx g9 [slice aE ay.length aG] 25 :: tk (slice aL az.length aN) 8 36 :: tk (slice aI aO.length aJ) 8 36 :: a0) w) ∨ (D 18 = true ∧ D 20 = false ∧ ∃ (E : Nat) (O : Option Addr) (P : Nat) (G' : Gh), a4 ≤ G' ∧ (([] : List ac) ++ [(a3.getD (Int.toNat a) aa)]).length ≤ P ∧ Dat ah G' O (([] : List ac) ++ [(a3.getD (Int.toNat a) aa)]) ∧ Own O P ∧ ag [(0, func (.yield yl) #[] #[]), (2, pointer (some ⟨g9, 0, none⟩)), (4, pointer (some ⟨K, 0, none⟩)), (6, int .i64 a), (7, pointer (some ⟨ax, 0, none⟩)), (8, slice A4 a3.length c5), (9, int .i64 (a3.length : Int)), (10, int .i64 a)] [] [(0, 50, pointer (some ⟨K, 0, none⟩)), (1, 51, slice none 0 0), (2, 52, agg [int .i64 ((a3.getD (Int.toNat a) aa).Node), int .i64 ((a3.getD (Int.toNat a) aa).Table), int .i64 ((a3.getD (Int.toNat a) aa).X), int .i64 ((a3.getD (Int.toNat a) aa).Y), int .i64 ((a3.getD (Int.toNat a) aa).H), string ((a3.getD (Int.toNat a) aa).Text), bool ((a3.getD (Int.toNat a) aa).Head), bool ((a3.getD (Int.toNat a) aa).Note)].toArray), (5, 55, pointer (some ⟨K, 2, none⟩)), (6, 56, int .i64 0), (7, 57, pointer (some ⟨ax, 3, none⟩)), (8, 58, int .i64 ((a3.getD (Int.toNat a) aa).Y)), (9, 59, pointer (some ⟨ax, 4, none⟩)), (10, 60, int .i64 ((a3.getD (Int.toNat a) aa).H)), (11, 61, int .i64 (aj (((a3.getD (Int.toNat a) aa).Y) + ((a3.getD (Int.toNat a) aa).H)))), (12, 62, int .i64 (max 0 (aj (((a3.getD (Int.toNat a) aa).Y) + ((a3.getD (Int.toNat a) aa).H))))), (13, 63, slice aE ay.length aG), (14, 64, int .i64 a), (15, 65, pointer (some (b4.add (Int.toNat a * 1)))), (16, 66, bool (ay.getD (Int.toNat a) false)), (3, 53, slice (some ⟨E, 0, none⟩) 1 1), (4, 54, slice O (([] : List ac) ++ [(a3.getD (Int.toNat a) aa)]).length P), (17, 67, pointer (some ⟨K, 0, none⟩)), (19, 68, pointer (some ⟨K, 2, none⟩))] D r ∧ Hp G' (tk (slice O (([] : List ac) ++ [(a3.getD (Int.toNat a) aa)]).length P) 8 36 :: bx E [int .i64 ((a3.getD (Int.toNat a) aa).Node), int .i64 ((a3.getD (Int.toNat a) aa).Table), int .i64 ((a3.getD (Int.toNat a) aa).X), int .i64 ((a3.getD (Int.toNat a) aa).Y), int .i64 ((a3.getD (Int.toNat a) aa).H), string ((a3.getD (Int.toNat a) aa).Text), bool ((a3.getD (Int.toNat a) aa).Head), bool ((a3.getD (Int.toNat a) aa).Note)] 36 :: bx ax [int .i64 ((a3.getD (Int.toNat a) aa).Node), int .i64 ((a3.getD (Int.toNat a) aa).Table), int .i64 ((a3.getD (Int.toNat a) aa).X), int .i64 ((a3.getD (Int.toNat a) aa).Y), int .i64 ((a3.getD (Int.toNat a) aa).H), string ((a3.getD (Int.toNat a) aa).Text), bool ((a3.getD (Int.toNat a) aa).Head), bool ((a3.getD (Int.toNat a) aa).Note)] 36 :: bx K [slice O (([] : List ac) ++ [(a3.getD (Int.toNat a) aa)]).length P, slice none 0 0, int .i64 0] 64 :: bx g2 [slice A4 a3.length c5] 24 :: bx g9 [slice aE ay.length aG] 25 :: tk (slice aL az.length aN) 8 36 :: tk (slice aI aO.length aJ) 8 36 :: a0) w) ∨ (D 20 = true ∧ ∃ (E : Nat) (O : Option Addr) (P : Nat) (G' : Gh), a4 ≤ G' ∧ (([] : List ac) ++ [(a3.getD (Int.toNat a) aa)]).length ≤ P ∧ Dat ah G' O (([] : List ac) ++ [(a3.getD (Int.toNat a) aa)]) ∧ Own O P ∧ ag [(0, func (.yield yl) #[] #[]), (2, pointer (some ⟨g9, 0, none⟩)), (4, pointer (some ⟨K, 0, none⟩)), (6, int .i64 a), (7, pointer (some ⟨ax, 0, none⟩)), (8, slice A4 a3.length c5), (9, int .i64 (a3.length : Int)), (10, int .i64 a)] [] [(0, 50, pointer (some ⟨K, 0, none⟩)), (1, 51, slice none 0 0), (2, 52, agg [int .i64 ((a3.getD (Int.toNat a) aa).Node), int .i64 ((a3.getD (Int.toNat a) aa).Table), int .i64 ((a3.getD (Int.toNat a) aa).X), int .i64 ((a3.getD (Int.toNat a) aa).Y), int .i64 ((a3.getD (Int.toNat a) aa).H), string ((a3.getD (Int.toNat a) aa).Text), bool ((a3.getD (Int.toNat a) aa).Head), bool ((a3.getD (Int.toNat a) aa).Note)].toArray), (5, 55, pointer (some ⟨K, 2, none⟩)), (6, 56, int .i64 0), (7, 57, pointer (some ⟨ax, 3, none⟩)), (8, 58, int .i64 ((a3.getD (Int.toNat a) aa).Y)), (9, 59, pointer (some ⟨ax, 4, none⟩)), (10, 60, int .i64 ((a3.getD (Int.toNat a) aa).H)), (11, 61, int .i64 (aj (((a3.getD (Int.toNat a) aa).Y) + ((a3.getD (Int.toNat a) aa).H)))), (12, 62, int .i64 (max 0 (aj (((a3.getD (Int.toNat a) aa).Y) + ((a3.getD (Int.toNat a) aa).H))))), (13, 63, slice aE ay.length aG), (14, 64, int .i64 a), (15, 65, pointer (some (b4.add (Int.toNat a * 1)))), (16, 66, bool (ay.getD (Int.toNat a) false)), (3, 53, slice (some ⟨E, 0, none⟩) 1 1), (4, 54, slice O (([] : List ac) ++ [(a3.getD (Int.toNat a) aa)]).length P), (17, 67, pointer (some ⟨K, 0, none⟩)), (19, 68, pointer (some ⟨K, 2, none⟩)), (21, 5, bool (ay.getD (Int.toNat a) false))] D r ∧ Hp G' (tk (slice O (([] : List ac) ++ [(a3.getD (Int.toNat a) aa)]).length P) 8 36 :: bx E [int .i64 ((a3.getD (Int.toNat a) aa).Node), int .i64 ((a3.getD (Int.toNat a) aa).Table), int .i64 ((a3.getD (Int.toNat a) aa).X), int .i64 ((a3.getD (Int.toNat a) aa).Y), int .i64 ((a3.getD (Int.toNat a) aa).H), string ((a3.getD (Int.toNat a) aa).Text), bool ((a3.getD (Int.toNat a) aa).Head), bool ((a3.getD (Int.toNat a) aa).Note)] 36 :: bx ax [int .i64 ((a3.getD (Int.toNat a) aa).Node), int .i64 ((a3.getD (Int.toNat a) aa).Table), int .i64 ((a3.getD (Int.toNat a) aa).X), int .i64 ((a3.getD (Int.toNat a) aa).Y), int .i64 ((a3.getD (Int.toNat a) aa).H), string ((a3.getD (Int.toNat a) aa).Text), bool ((a3.getD (Int.toNat a) aa).Head), bool ((a3.getD (Int.toNat a) aa).Note)] 36 :: bx K [slice O (([] : List ac) ++ [(a3.getD (Int.toNat a) aa)]).length P, slice none 0 0, int .i64 (max 0 (aj (((a3.getD (Int.toNat a) aa).Y) + ((a3.getD (Int.toNat a) aa).H))))] 64 :: bx g2 [slice A4 a3.length c5] 24 :: bx g9 [slice aE ay.length aG] 25 :: tk (slice aL az.length aN) 8 36 :: tk (slice aI aO.length aJ) 8 36 :: a0) w)) dJ z z ?_ ?_ ?_
 exact (.inl ⟨z, _, Gh.le_refl _, ag.start ⟨z, z, z, z, z, z, z, z, tv⟩ trivial, cp.drew⟩)
 refine ⟨?_, ?_, ?_, ?_, ?_, ?_, ?_, ?_, ?_, ?_, ?_, ?_, ?_, ?_, ?_, ?_, ?_, ?_, ?_, ?_, ?_, ?_, tv⟩
 rintro D r aT (⟨c, Z, B, i, t⟩ | ⟨b, c, E, Z, B, i, t⟩ | ⟨b, c, E, O, P, Z, B, al, am, an, i, t⟩ | ⟨b, c, E, O, P, Z, B, al, am, an, i, t⟩ | ⟨b, E, O, P, Z, B, al, am, an, i, t⟩) f d n
 obtain ⟨m, rfl⟩ := Has.ex (cC (i.ins.get 2 rfl) cN)
 exact fa dw z<|nl ⟨z, (.inl ⟨c, _, B, (ag.step i f z z z z), t⟩)⟩
 obtain ⟨m, rfl⟩ := Has.ex (cC (i.ins.get 2 rfl) cN)
 exact fa dw z<|nl ⟨z, (.inr (.inl ⟨b, c, E, _, B, (ag.step i f z z z z), t⟩))⟩
 cases (n 4 rfl).symm.trans b
 cases (n 18 rfl).symm.trans b
 cases (n 20 rfl).symm.trans b
 rintro D r aT (⟨c, Z, B, i, t⟩ | ⟨b, c, E, Z, B, i, t⟩ | ⟨b, c, E, O, P, Z, B, al, am, an, i, t⟩ | ⟨b, c, E, O, P, Z, B, al, am, an, i, t⟩ | ⟨b, E, O, P, Z, B, al, am, an, i, t⟩) f d n
 obtain ⟨m, rfl⟩ := Has.ex (cC (i.get 0 rfl (d 0 rfl)) cN)
 exact ld t 1 cB z z z<|nl ⟨z, (.inl ⟨c, _, B, (ag.step i f z z z z), t⟩)⟩
 obtain ⟨m, rfl⟩ := Has.ex (cC (i.get 0 rfl (d 0 rfl)) cN)
 exact ld t 2 cB z z z<|nl ⟨z, (.inr (.inl ⟨b, c, E, _, B, (ag.step i f z z z z), t⟩))⟩
 cases (n 4 rfl).symm.trans b
 cases (n 18 rfl).symm.trans b
 cases (n 20 rfl).symm.trans b
 rintro D r aT (⟨c, Z, B, i, t⟩ | ⟨b, c, E, Z, B, i, t⟩ | ⟨b, c, E, O, P, Z, B, al, am, an, i, t⟩ | ⟨b, c, E, O, P, Z, B, al, am, an, i, t⟩ | ⟨b, E, O, P, Z, B, al, am, an, i, t⟩) f d n
 obtain ⟨m, rfl⟩ := Has.ex (cC (i.ins.get 4 rfl) cN)
 exact gg t 0 dx z z z z<|nl ⟨z, (.inl ⟨c, _, B, (ag.step i f z z z z), t⟩)⟩
 cases (n 3 rfl).symm.trans b
 cases (n 4 rfl).symm.trans b
 cases (n 18 rfl).symm.trans b
 cases (n 20 rfl).symm.trans b
 rintro D r aT (⟨c, Z, B, i, t⟩ | ⟨b, c, E, Z, B, i, t⟩ | ⟨b, c, E, O, P, Z, B, al, am, an, i, t⟩ | ⟨b, c, E, O, P, Z, B, al, am, an, i, t⟩ | ⟨b, E, O, P, Z, B, al, am, an, i, t⟩) f d n
 obtain ⟨m, rfl⟩ := Has.ex (cC (i.get 2 rfl (d 2 rfl)) cN)
 refine eh t (vs := [(0, agg [int .i64 ((a3.getD (Int.toNat a) aa).Node), int .i64 ((a3.getD (Int.toNat a) aa).Table), int .i64 ((a3.getD (Int.toNat a) aa).X), int .i64 ((a3.getD (Int.toNat a) aa).Y), int .i64 ((a3.getD (Int.toNat a) aa).H), string ((a3.getD (Int.toNat a) aa).Text), bool ((a3.getD (Int.toNat a) aa).Head), bool ((a3.getD (Int.toNat a) aa).Note)].toArray)]) (cs := [int .i64 ((a3.getD (Int.toNat a) aa).Node), int .i64 ((a3.getD (Int.toNat a) aa).Table), int .i64 ((a3.getD (Int.toNat a) aa).X), int .i64 ((a3.getD (Int.toNat a) aa).Y), int .i64 ((a3.getD (Int.toNat a) aa).H), string ((a3.getD (Int.toNat a) aa).Text), bool ((a3.getD (Int.toNat a) aa).Head), bool ((a3.getD (Int.toNat a) aa).Note)]) cA cP rfl (by decide) rfl (by kernel_rfl) (fun E fH dZ => ?_)
 exact nl ⟨z, (.inr (.inl ⟨z, (n 4 z), E, _, B, (ag.step (ag.more (new := [(3, 53, slice (some ⟨E, 0, none⟩) 1 1)]) i (List.forall_mem_cons.2 ⟨f, (fun _ h => nomatch h)⟩)) f z z z z), dZ⟩))⟩
 cases f.symm.trans b
 cases (n 4 rfl).symm.trans b
 cases (n 18 rfl).symm.trans b
 cases (n 20 rfl).symm.trans b
 rintro D r aT (⟨c, Z, B, i, t⟩ | ⟨b, c, E, Z, B, i, t⟩ | ⟨b, c, E, O, P, Z, B, al, am, an, i, t⟩ | ⟨b, c, E, O, P, Z, B, al, am, an, i, t⟩ | ⟨b, E, O, P, Z, B, al, am, an, i, t⟩) f d n
 cases (d 3 rfl).symm.trans c
 obtain ⟨m, rfl⟩ := Has.ex (cC (i.get 1 rfl (d 1 rfl)) (cC (i.get 15 rfl (d 3 rfl)) cN))
 refine have cW:=Hp.emp t;?_
 refine fx (xs := ([] : List ac)) (ys := [(a3.getD (Int.toNat a) aa)]) ah cW 0 cA cP rfl rfl rfl rfl Own.nil (show ([] : List ac).length ≤ 0 from Nat.le_refl 0) (Dat.nil _ _ _) (dU cW 1 dA rfl rfl) ⟨[int .i64 ((a3.getD (Int.toNat a) aa).Node), int .i64 ((a3.getD (Int.toNat a) aa).Table), int .i64 ((a3.getD (Int.toNat a) aa).X), int .i64 ((a3.getD (Int.toNat a) aa).Y), int .i64 ((a3.getD (Int.toNat a) aa).H), string ((a3.getD (Int.toNat a) aa).Text), bool ((a3.getD (Int.toNat a) aa).Head), bool ((a3.getD (Int.toNat a) aa).Note)], _, rfl, (aH (x := (a3.getD (Int.toNat a) aa))), rfl⟩ rfl (by simp only [List.length_cons, List.length_nil] at *; omega) (by simp only [List.length_cons, List.length_nil] at *; omega) (fun O P fI fJ d0 an al am d1 => ?_)
 exact nl ⟨z, (.inr (.inr (.inl ⟨z, (n 18 z), E, O, P, _, (gT B d0), al, am, an, (ag.step (ag.more (new := [(4, 54, slice O (([] : List ac) ++ [(a3.getD (Int.toNat a) aa)]).length P), (17, 67, pointer (some ⟨K, 0, none⟩))]) i (List.forall_mem_cons.2 ⟨f, (List.forall_mem_cons.2 ⟨n 17 z, (fun _ h => nomatch h)⟩)⟩)) f z z z z), d1⟩)))⟩
 cases f.symm.trans b
 cases (n 18 rfl).symm.trans b
 cases (n 20 rfl).symm.trans b
 rintro D r aT (⟨c, Z, B, i, t⟩ | ⟨b, c, E, Z, B, i, t⟩ | ⟨b, c, E, O, P, Z, B, al, am, an, i, t⟩ | ⟨b, c, E, O, P, Z, B, al, am, an, i, t⟩ | ⟨b, E, O, P, Z, B, al, am, an, i, t⟩) f d n
 obtain ⟨m, rfl⟩ := Has.ex (cC (i.ins.get 2 rfl) cN)
 exact fa dO z<|nl ⟨z, (.inl ⟨c, _, B, (ag.step i f z z z z), t⟩)⟩
 obtain ⟨m, rfl⟩ := Has.ex (cC (i.ins.get 2 rfl) cN)
 exact fa dO z<|nl ⟨z, (.inr (.inl ⟨b, c, E, _, B, (ag.step i f z z z z), t⟩))⟩
 obtain ⟨m, rfl⟩ := Has.ex (cC (i.ins.get 2 rfl) cN)
 exact fa dO z<|nl ⟨z, (.inr (.inr (.inl ⟨b, c, E, O, P, _, B, al, am, an, (ag.step i f z z z z), t⟩)))⟩
 cases (n 18 rfl).symm.trans b
 cases (n 20 rfl).symm.trans b
 rintro D r aT (⟨c, Z, B, i, t⟩ | ⟨b, c, E, Z, B, i, t⟩ | ⟨b, c, E, O, P, Z, B, al, am, an, i, t⟩ | ⟨b, c, E, O, P, Z, B, al, am, an, i, t⟩ | ⟨b, E, O, P, Z, B, al, am, an, i, t⟩) f d n
 obtain ⟨m, rfl⟩ := Has.ex (cC (i.get 3 rfl (d 5 rfl)) cN)
 exact ld t 1 bb z z z<|nl ⟨z, (.inl ⟨c, _, B, (ag.step i f z z z z), t⟩)⟩
 obtain ⟨m, rfl⟩ := Has.ex (cC (i.get 3 rfl (d 5 rfl)) cN)
 exact ld t 2 bb z z z<|nl ⟨z, (.inr (.inl ⟨b, c, E, _, B, (ag.step i f z z z z), t⟩))⟩
 obtain ⟨m, rfl⟩ := Has.ex (cC (i.get 3 rfl (d 5 rfl)) cN)
 exact ld t 3 bb z z z<|nl ⟨z, (.inr (.inr (.inl ⟨b, c, E, O, P, _, B, al, am, an, (ag.step i f z z z z), t⟩)))⟩
 cases (n 18 rfl).symm.trans b
 cases (n 20 rfl).symm.trans b
 rintro D r aT (⟨c, Z, B, i, t⟩ | ⟨b, c, E, Z, B, i, t⟩ | ⟨b, c, E, O, P, Z, B, al, am, an, i, t⟩ | ⟨b, c, E, O, P, Z, B, al, am, an, i, t⟩ | ⟨b, E, O, P, Z, B, al, am, an, i, t⟩) f d n
 obtain ⟨m, rfl⟩ := Has.ex (cC (i.ins.get 4 rfl) cN)
 exact fa bn z<|nl ⟨z, (.inl ⟨c, _, B, (ag.step i f z z z z), t⟩)⟩
 obtain ⟨m, rfl⟩ := Has.ex (cC (i.ins.get 4 rfl) cN)
 exact fa bn z<|nl ⟨z, (.inr (.inl ⟨b, c, E, _, B, (ag.step i f z z z z), t⟩))⟩
 obtain ⟨m, rfl⟩ := Has.ex (cC (i.ins.get 4 rfl) cN)
 exact fa bn z<|nl ⟨z, (.inr (.inr (.inl ⟨b, c, E, O, P, _, B, al, am, an, (ag.step i f z z z z), t⟩)))⟩
 obtain ⟨m, rfl⟩ := Has.ex (cC (i.ins.get 4 rfl) cN)
 exact fa bn z<|nl ⟨z, (.inr (.inr (.inr (.inl ⟨b, c, E, O, P, _, B, al, am, an, (ag.step i f z z z z), t⟩))))⟩
 cases (n 20 rfl).symm.trans b
 rintro D r aT (⟨c, Z, B, i, t⟩ | ⟨b, c, E, Z, B, i, t⟩ | ⟨b, c, E, O, P, Z, B, al, am, an, i, t⟩ | ⟨b, c, E, O, P, Z, B, al, am, an, i, t⟩ | ⟨b, E, O, P, Z, B, al, am, an, i, t⟩) f d n
 obtain ⟨m, rfl⟩ := Has.ex (cC (i.get 5 rfl (d 7 rfl)) cN)
 exact ld t 0 bb z z z<|nl ⟨z, (.inl ⟨c, _, B, (ag.step i f z z z z), t⟩)⟩
 obtain ⟨m, rfl⟩ := Has.ex (cC (i.get 5 rfl (d 7 rfl)) cN)
 exact ld t 1 bb z z z<|nl ⟨z, (.inr (.inl ⟨b, c, E, _, B, (ag.step i f z z z z), t⟩))⟩
 obtain ⟨m, rfl⟩ := Has.ex (cC (i.get 5 rfl (d 7 rfl)) cN)
 exact ld t 2 bb z z z<|nl ⟨z, (.inr (.inr (.inl ⟨b, c, E, O, P, _, B, al, am, an, (ag.step i f z z z z), t⟩)))⟩
 obtain ⟨m, rfl⟩ := Has.ex (cC (i.get 5 rfl (d 7 rfl)) cN)
 exact ld t 2 bb z z z<|nl ⟨z, (.inr (.inr (.inr (.inl ⟨b, c, E, O, P, _, B, al, am, an, (ag.step i f z z z z), t⟩))))⟩
 cases (n 20 rfl).symm.trans b
 rintro D r aT (⟨c, Z, B, i, t⟩ | ⟨b, c, E, Z, B, i, t⟩ | ⟨b, c, E, O, P, Z, B, al, am, an, i, t⟩ | ⟨b, c, E, O, P, Z, B, al, am, an, i, t⟩ | ⟨b, E, O, P, Z, B, al, am, an, i, t⟩) f d n
 obtain ⟨m, rfl⟩ := Has.ex (cC (i.ins.get 4 rfl) cN)
 exact fa cm z<|nl ⟨z, (.inl ⟨c, _, B, (ag.step i f z z z z), t⟩)⟩
 obtain ⟨m, rfl⟩ := Has.ex (cC (i.ins.get 4 rfl) cN)
 exact fa cm z<|nl ⟨z, (.inr (.inl ⟨b, c, E, _, B, (ag.step i f z z z z), t⟩))⟩
 obtain ⟨m, rfl⟩ := Has.ex (cC (i.ins.get 4 rfl) cN)
 exact fa cm z<|nl ⟨z, (.inr (.inr (.inl ⟨b, c, E, O, P, _, B, al, am, an, (ag.step i f z z z z), t⟩)))⟩
 obtain ⟨m, rfl⟩ := Has.ex (cC (i.ins.get 4 rfl) cN)
 exact fa cm z<|nl ⟨z, (.inr (.inr (.inr (.inl ⟨b, c, E, O, P, _, B, al, am, an, (ag.step i f z z z z), t⟩))))⟩
 cases (n 20 rfl).symm.trans b
 rintro D r aT (⟨c, Z, B, i, t⟩ | ⟨b, c, E, Z, B, i, t⟩ | ⟨b, c, E, O, P, Z, B, al, am, an, i, t⟩ | ⟨b, c, E, O, P, Z, B, al, am, an, i, t⟩ | ⟨b, E, O, P, Z, B, al, am, an, i, t⟩) f d n
 obtain ⟨m, rfl⟩ := Has.ex (cC (i.get 7 rfl (d 9 rfl)) cN)
 exact ld t 0 bb z z z<|nl ⟨z, (.inl ⟨c, _, B, (ag.step i f z z z z), t⟩)⟩
 obtain ⟨m, rfl⟩ := Has.ex (cC (i.get 7 rfl (d 9 rfl)) cN)
 exact ld t 1 bb z z z<|nl ⟨z, (.inr (.inl ⟨b, c, E, _, B, (ag.step i f z z z z), t⟩))⟩
 obtain ⟨m, rfl⟩ := Has.ex (cC (i.get 7 rfl (d 9 rfl)) cN)
 exact ld t 2 bb z z z<|nl ⟨z, (.inr (.inr (.inl ⟨b, c, E, O, P, _, B, al, am, an, (ag.step i f z z z z), t⟩)))⟩
 obtain ⟨m, rfl⟩ := Has.ex (cC (i.get 7 rfl (d 9 rfl)) cN)
 exact ld t 2 bb z z z<|nl ⟨z, (.inr (.inr (.inr (.inl ⟨b, c, E, O, P, _, B, al, am, an, (ag.step i f z z z z), t⟩))))⟩
 cases (n 20 rfl).symm.trans b
 rintro D r aT (⟨c, Z, B, i, t⟩ | ⟨b, c, E, Z, B, i, t⟩ | ⟨b, c, E, O, P, Z, B, al, am, an, i, t⟩ | ⟨b, c, E, O, P, Z, B, al, am, an, i, t⟩ | ⟨b, E, O, P, Z, B, al, am, an, i, t⟩) f d n
 obtain ⟨m, rfl⟩ := Has.ex (cC (i.get 6 rfl (d 8 rfl)) (cC (i.get 8 rfl (d 10 rfl)) cN))
 exact bm z z<|nl ⟨z, (.inl ⟨c, _, B, (ag.step i f z z z z), t⟩)⟩
 obtain ⟨m, rfl⟩ := Has.ex (cC (i.get 6 rfl (d 8 rfl)) (cC (i.get 8 rfl (d 10 rfl)) cN))
 exact bm z z<|nl ⟨z, (.inr (.inl ⟨b, c, E, _, B, (ag.step i f z z z z), t⟩))⟩
 obtain ⟨m, rfl⟩ := Has.ex (cC (i.get 6 rfl (d 8 rfl)) (cC (i.get 8 rfl (d 10 rfl)) cN))
 exact bm z z<|nl ⟨z, (.inr (.inr (.inl ⟨b, c, E, O, P, _, B, al, am, an, (ag.step i f z z z z), t⟩)))⟩
 obtain ⟨m, rfl⟩ := Has.ex (cC (i.get 6 rfl (d 8 rfl)) (cC (i.get 8 rfl (d 10 rfl)) cN))
 exact bm z z<|nl ⟨z, (.inr (.inr (.inr (.inl ⟨b, c, E, O, P, _, B, al, am, an, (ag.step i f z z z z), t⟩))))⟩
 cases (n 20 rfl).symm.trans b
 rintro D r aT (⟨c, Z, B, i, t⟩ | ⟨b, c, E, Z, B, i, t⟩ | ⟨b, c, E, O, P, Z, B, al, am, an, i, t⟩ | ⟨b, c, E, O, P, Z, B, al, am, an, i, t⟩ | ⟨b, E, O, P, Z, B, al, am, an, i, t⟩) f d n
 obtain ⟨m, rfl⟩ := Has.ex (cC (i.get 4 rfl (d 6 rfl)) (cC (i.get 9 rfl (d 11 rfl)) cN))
 exact dR z z<|nl ⟨z, (.inl ⟨c, _, B, (ag.step i f z z z z), t⟩)⟩
 obtain ⟨m, rfl⟩ := Has.ex (cC (i.get 4 rfl (d 6 rfl)) (cC (i.get 9 rfl (d 11 rfl)) cN))
 exact dR z z<|nl ⟨z, (.inr (.inl ⟨b, c, E, _, B, (ag.step i f z z z z), t⟩))⟩
 obtain ⟨m, rfl⟩ := Has.ex (cC (i.get 4 rfl (d 6 rfl)) (cC (i.get 9 rfl (d 11 rfl)) cN))
 exact dR z z<|nl ⟨z, (.inr (.inr (.inl ⟨b, c, E, O, P, _, B, al, am, an, (ag.step i f z z z z), t⟩)))⟩
 obtain ⟨m, rfl⟩ := Has.ex (cC (i.get 4 rfl (d 6 rfl)) (cC (i.get 9 rfl (d 11 rfl)) cN))
 exact dR z z<|nl ⟨z, (.inr (.inr (.inr (.inl ⟨b, c, E, O, P, _, B, al, am, an, (ag.step i f z z z z), t⟩))))⟩
 cases (n 20 rfl).symm.trans b
 rintro D r aT (⟨c, Z, B, i, t⟩ | ⟨b, c, E, Z, B, i, t⟩ | ⟨b, c, E, O, P, Z, B, al, am, an, i, t⟩ | ⟨b, c, E, O, P, Z, B, al, am, an, i, t⟩ | ⟨b, E, O, P, Z, B, al, am, an, i, t⟩) f d n
 obtain ⟨m, rfl⟩ := Has.ex (cC (i.ins.get 1 rfl) cN)
 exact ld t 3 ir z z z<|nl ⟨z, (.inl ⟨c, _, B, (ag.step i f z z z z), t⟩)⟩
 obtain ⟨m, rfl⟩ := Has.ex (cC (i.ins.get 1 rfl) cN)
 exact ld t 4 ir z z z<|nl ⟨z, (.inr (.inl ⟨b, c, E, _, B, (ag.step i f z z z z), t⟩))⟩
 obtain ⟨m, rfl⟩ := Has.ex (cC (i.ins.get 1 rfl) cN)
 exact ld t 5 ir z z z<|nl ⟨z, (.inr (.inr (.inl ⟨b, c, E, O, P, _, B, al, am, an, (ag.step i f z z z z), t⟩)))⟩
 obtain ⟨m, rfl⟩ := Has.ex (cC (i.ins.get 1 rfl) cN)
 exact ld t 5 ir z z z<|nl ⟨z, (.inr (.inr (.inr (.inl ⟨b, c, E, O, P, _, B, al, am, an, (ag.step i f z z z z), t⟩))))⟩
 obtain ⟨m, rfl⟩ := Has.ex (cC (i.ins.get 1 rfl) cN)
 exact ld t 5 ir z z z<|nl ⟨z, (.inr (.inr (.inr (.inr ⟨b, E, O, P, _, B, al, am, an, (ag.step i f z z z z), t⟩))))⟩
 rintro D r aT (⟨c, Z, B, i, t⟩ | ⟨b, c, E, Z, B, i, t⟩ | ⟨b, c, E, O, P, Z, B, al, am, an, i, t⟩ | ⟨b, c, E, O, P, Z, B, al, am, an, i, t⟩ | ⟨b, E, O, P, Z, B, al, am, an, i, t⟩) f d n
 obtain ⟨m, rfl⟩ := Has.ex (cC (i.ins.get 3 rfl) cN)
 exact mv z<|nl ⟨z, (.inl ⟨c, _, B, (ag.step i f z z z z), t⟩)⟩
 obtain ⟨m, rfl⟩ := Has.ex (cC (i.ins.get 3 rfl) cN)
 exact mv z<|nl ⟨z, (.inr (.inl ⟨b, c, E, _, B, (ag.step i f z z z z), t⟩))⟩
 obtain ⟨m, rfl⟩ := Has.ex (cC (i.ins.get 3 rfl) cN)
 exact mv z<|nl ⟨z, (.inr (.inr (.inl ⟨b, c, E, O, P, _, B, al, am, an, (ag.step i f z z z z), t⟩)))⟩
 obtain ⟨m, rfl⟩ := Has.ex (cC (i.ins.get 3 rfl) cN)
 exact mv z<|nl ⟨z, (.inr (.inr (.inr (.inl ⟨b, c, E, O, P, _, B, al, am, an, (ag.step i f z z z z), t⟩))))⟩
 obtain ⟨m, rfl⟩ := Has.ex (cC (i.ins.get 3 rfl) cN)
 exact mv z<|nl ⟨z, (.inr (.inr (.inr (.inr ⟨b, E, O, P, _, B, al, am, an, (ag.step i f z z z z), t⟩))))⟩
 rintro D r aT (⟨c, Z, B, i, t⟩ | ⟨b, c, E, Z, B, i, t⟩ | ⟨b, c, E, O, P, Z, B, al, am, an, i, t⟩ | ⟨b, c, E, O, P, Z, B, al, am, an, i, t⟩ | ⟨b, E, O, P, Z, B, al, am, an, i, t⟩) f d n
 obtain ⟨m, rfl⟩ := Has.ex (cC (i.get 11 rfl (d 13 rfl)) (cC (i.get 12 rfl (d 14 rfl)) cN))
 exact bL fV z b5 z bu bv<|nl ⟨z, (.inl ⟨c, _, B, (ag.step i f z z z z), t⟩)⟩
 obtain ⟨m, rfl⟩ := Has.ex (cC (i.get 11 rfl (d 13 rfl)) (cC (i.get 12 rfl (d 14 rfl)) cN))
 exact bL fV z b5 z bu bv<|nl ⟨z, (.inr (.inl ⟨b, c, E, _, B, (ag.step i f z z z z), t⟩))⟩
 obtain ⟨m, rfl⟩ := Has.ex (cC (i.get 11 rfl (d 13 rfl)) (cC (i.get 12 rfl (d 14 rfl)) cN))
 exact bL fV z b5 z bu bv<|nl ⟨z, (.inr (.inr (.inl ⟨b, c, E, O, P, _, B, al, am, an, (ag.step i f z z z z), t⟩)))⟩
 obtain ⟨m, rfl⟩ := Has.ex (cC (i.get 11 rfl (d 13 rfl)) (cC (i.get 12 rfl (d 14 rfl)) cN))
 exact bL fV z b5 z bu bv<|nl ⟨z, (.inr (.inr (.inr (.inl ⟨b, c, E, O, P, _, B, al, am, an, (ag.step i f z z z z), t⟩))))⟩
 obtain ⟨m, rfl⟩ := Has.ex (cC (i.get 11 rfl (d 13 rfl)) (cC (i.get 12 rfl (d 14 rfl)) cN))
 exact bL fV z b5 z bu bv<|nl ⟨z, (.inr (.inr (.inr (.inr ⟨b, E, O, P, _, B, al, am, an, (ag.step i f z z z z), t⟩))))⟩
 rintro D r aT (⟨c, Z, B, i, t⟩ | ⟨b, c, E, Z, B, i, t⟩ | ⟨b, c, E, O, P, Z, B, al, am, an, i, t⟩ | ⟨b, c, E, O, P, Z, B, al, am, an, i, t⟩ | ⟨b, E, O, P, Z, B, al, am, an, i, t⟩) f d n
 obtain ⟨m, rfl⟩ := Has.ex (cC (i.get 13 rfl (d 15 rfl)) cN)
 exact et t jK z (B.cel _ _ (b6 0 _ z))<|nl ⟨z, (.inl ⟨c, _, B, (ag.step i f z z z z), t⟩)⟩
 obtain ⟨m, rfl⟩ := Has.ex (cC (i.get 13 rfl (d 15 rfl)) cN)
 exact et t jK z (B.cel _ _ (b6 0 _ z))<|nl ⟨z, (.inr (.inl ⟨b, c, E, _, B, (ag.step i f z z z z), t⟩))⟩
 obtain ⟨m, rfl⟩ := Has.ex (cC (i.get 13 rfl (d 15 rfl)) cN)
 exact et t jK z (B.cel _ _ (b6 0 _ z))<|nl ⟨z, (.inr (.inr (.inl ⟨b, c, E, O, P, _, B, al, am, an, (ag.step i f z z z z), t⟩)))⟩
 obtain ⟨m, rfl⟩ := Has.ex (cC (i.get 13 rfl (d 15 rfl)) cN)
 exact et t jK z (B.cel _ _ (b6 0 _ z))<|nl ⟨z, (.inr (.inr (.inr (.inl ⟨b, c, E, O, P, _, B, al, am, an, (ag.step i f z z z z), t⟩))))⟩
 obtain ⟨m, rfl⟩ := Has.ex (cC (i.get 13 rfl (d 15 rfl)) cN)
 exact et t jK z (B.cel _ _ (b6 0 _ z))<|nl ⟨z, (.inr (.inr (.inr (.inr ⟨b, E, O, P, _, B, al, am, an, (ag.step i f z z z z), t⟩))))⟩
 rintro D r aT (⟨c, Z, B, i, t⟩ | ⟨b, c, E, Z, B, i, t⟩ | ⟨b, c, E, O, P, Z, B, al, am, an, i, t⟩ | ⟨b, c, E, O, P, Z, B, al, am, an, i, t⟩ | ⟨b, E, O, P, Z, B, al, am, an, i, t⟩) f d n
 cases (d 3 rfl).symm.trans c
 cases (d 4 rfl).symm.trans c
 obtain ⟨m, rfl⟩ := Has.ex (cC (i.ins.get 2 rfl) cN)
 exact fa dw z<|nl ⟨z, (.inr (.inr (.inl ⟨b, c, E, O, P, _, B, al, am, an, (ag.step i f z z z z), t⟩)))⟩
 cases (n 18 rfl).symm.trans b
 cases (n 20 rfl).symm.trans b
 rintro D r aT (⟨c, Z, B, i, t⟩ | ⟨b, c, E, Z, B, i, t⟩ | ⟨b, c, E, O, P, Z, B, al, am, an, i, t⟩ | ⟨b, c, E, O, P, Z, B, al, am, an, i, t⟩ | ⟨b, E, O, P, Z, B, al, am, an, i, t⟩) f d n
 cases (d 3 rfl).symm.trans c
 cases (d 4 rfl).symm.trans c
 obtain ⟨m, rfl⟩ := Has.ex (cC (i.get 16 rfl (d 4 rfl)) (cC (i.get 17 rfl (d 17 rfl)) cN))
 exact f5 t 3 cB z z z z z z z fun fK d2=>nl ⟨z, (.inr (.inr (.inr (.inl ⟨z, (n 20 z), E, O, P, _, B, al, am, an, (ag.stepN (ag.more (new := [(19, 68, pointer (some ⟨K, 2, none⟩))]) i (List.forall_mem_cons.2 ⟨n 19 z, (fun _ h => nomatch h)⟩)) z z), d2⟩))))⟩
 cases f.symm.trans b
 cases (n 20 rfl).symm.trans b
 rintro D r aT (⟨c, Z, B, i, t⟩ | ⟨b, c, E, Z, B, i, t⟩ | ⟨b, c, E, O, P, Z, B, al, am, an, i, t⟩ | ⟨b, c, E, O, P, Z, B, al, am, an, i, t⟩ | ⟨b, E, O, P, Z, B, al, am, an, i, t⟩) f d n
 cases (d 3 rfl).symm.trans c
 cases (d 4 rfl).symm.trans c
 cases (d 18 rfl).symm.trans c
 obtain ⟨m, rfl⟩ := Has.ex (cC (i.ins.get 2 rfl) cN)
 exact fa dO z<|nl ⟨z, (.inr (.inr (.inr (.inl ⟨b, c, E, O, P, _, B, al, am, an, (ag.step i f z z z z), t⟩))))⟩
 cases (n 20 rfl).symm.trans b
 rintro D r aT (⟨c, Z, B, i, t⟩ | ⟨b, c, E, Z, B, i, t⟩ | ⟨b, c, E, O, P, Z, B, al, am, an, i, t⟩ | ⟨b, c, E, O, P, Z, B, al, am, an, i, t⟩ | ⟨b, E, O, P, Z, B, al, am, an, i, t⟩) f d n
 cases (d 3 rfl).symm.trans c
 cases (d 4 rfl).symm.trans c
 cases (d 18 rfl).symm.trans c
 obtain ⟨m, rfl⟩ := Has.ex (cC (i.get 10 rfl (d 12 rfl)) (cC (i.get 18 rfl (d 19 rfl)) cN))
 exact f5 t 3 bb z z z z z z z fun fL d3=>nl ⟨z, (.inr (.inr (.inr (.inr ⟨z, E, O, P, _, B, al, am, an, (ag.stepN (ag.more (new := [(21, 5, bool (ay.getD (Int.toNat a) false))]) i (List.forall_mem_cons.2 ⟨n 21 z, (fun _ h => nomatch h)⟩)) z z), d3⟩))))⟩
 cases f.symm.trans b
 rintro D r aT (⟨c, Z, B, i, t⟩ | ⟨b, c, E, Z, B, i, t⟩ | ⟨b, c, E, O, P, Z, B, al, am, an, i, t⟩ | ⟨b, c, E, O, P, Z, B, al, am, an, i, t⟩ | ⟨b, E, O, P, Z, B, al, am, an, i, t⟩) f d n
 cases (d 3 rfl).symm.trans c
 cases (d 4 rfl).symm.trans c
 cases (d 18 rfl).symm.trans c
 cases (d 20 rfl).symm.trans c
 obtain ⟨m, rfl⟩ := Has.ex (cC (i.get 14 rfl (d 16 rfl)) cN)
 exact aK z<|nl ⟨z, (.inr (.inr (.inr (.inr ⟨b, E, O, P, _, B, al, am, an, (ag.step i f z z z z), t⟩))))⟩
 intro D r aT aR hR
 rcases hR with ⟨c, Z, B, i, t⟩ | ⟨b, c, E, Z, B, i, t⟩ | ⟨b, c, E, O, P, Z, B, al, am, an, i, t⟩ | ⟨b, c, E, O, P, Z, B, al, am, an, i, t⟩ | ⟨b, E, O, P, Z, B, al, am, an, i, t⟩
 cases (aR 3 (Nat.le_of_ble_eq_true rfl)).symm.trans c
 cases (aR 4 (Nat.le_of_ble_eq_true rfl)).symm.trans c
 cases (aR 18 (Nat.le_of_ble_eq_true rfl)).symm.trans c
 cases (aR 20 (Nat.le_of_ble_eq_true rfl)).symm.trans c
 obtain ⟨m, rfl⟩ := Has.ex (cC (i.ins.get 0 rfl) (cC (i.ins.get 1 rfl) (cC (i.ins.get 2 rfl) (cC (i.get 19 rfl (aR 21 (Nat.le_of_ble_eq_true rfl))) (cC (i.ins.get 5 rfl) (cC (i.ins.get 6 rfl) (cC (i.ins.get 7 rfl) cN)))))))
 refine have d4:=Hp.emp t;have d5:=Hp.pick 9 [4, 5, 6, 1, 0] d4 z;?_
 cases H
 exact ⟨z, a0, O, P, none, 0, _, z, (gT bX B), ⟨z, z, z, z, z, z, z, tv⟩, d5, al, am, an, (show ([] : List ac).length ≤ 0 from Nat.le_refl 0), (Dat.nil _ _ _), Own.nil, (hy.mono B cw), tv⟩
 refine nK bW H fun H=>wf (vN bW)<|ws<|cQ _ _ _<|sQ fun fM cX=>sr fun fN d6=>fa dw z<|ld br 1 cB z z z<|q_len dA z<|ei z z<|nl<|d6 _ _ _<|dC ((az.length : Int) = 0) (fun b7=>?_) fun b7=>?_
 refine yK b7 H fun H=>wt (bY b7)<|aA<|fa bn z<|ld br 0 bb z z z<|fa dO z<|f5 br 1 bb z z z z z z z fun fO d7=>nl<|cX _ _ _<|iK H fun fP H=>iK H fun⟨bw, bz⟩H=>?_
 obtain ⟨b8, fQ, b9, d8, fR, ca⟩ := Dat.get (Dat.mono a7 ch) false (a) bw bz
 obtain rfl := d8
 refine aM [0, 1, 0, 4, 15, 0, 32, 0, 128, 0, 512, 1920, 4064, 0, 0, 24576, 57344, 127, 131199, 401407, 925695, 2097151] (fun D r w => (D 3 = false ∧ ∃ (G' : Gh), aX ≤ G' ∧ ag [(0, func (.yield yl) #[] #[]), (2, pointer (some ⟨g9, 0, none⟩)), (4, pointer (some ⟨K, 0, none⟩)), (6, int .i64 a), (7, pointer (some ⟨ax, 0, none⟩)), (8, slice A4 a3.length c5), (9, int .i64 (a3.length : Int)), (10, int .i64 a)] [] [(0, 50, pointer (some ⟨K, 0, none⟩)), (1, 51, slice aL az.length aN), (2, 52, agg [int .i64 ((a3.getD (Int.toNat a) aa).Node), int .i64 ((a3.getD (Int.toNat a) aa).Table), int .i64 ((a3.getD (Int.toNat a) aa).X), int .i64 ((a3.getD (Int.toNat a) aa).Y), int .i64 ((a3.getD (Int.toNat a) aa).H), string ((a3.getD (Int.toNat a) aa).Text), bool ((a3.getD (Int.toNat a) aa).Head), bool ((a3.getD (Int.toNat a) aa).Note)].toArray), (5, 55, pointer (some ⟨K, 2, none⟩)), (6, 56, int .i64 ((a3.getD (Int.toNat a) aa).Y)), (7, 57, pointer (some ⟨ax, 3, none⟩)), (8, 58, int .i64 ((a3.getD (Int.toNat a) aa).Y)), (9, 59, pointer (some ⟨ax, 4, none⟩)), (10, 60, int .i64 ((a3.getD (Int.toNat a) aa).H)), (11, 61, int .i64 (aj (((a3.getD (Int.toNat a) aa).Y) + ((a3.getD (Int.toNat a) aa).H)))), (12, 62, int .i64 (max ((a3.getD (Int.toNat a) aa).Y) (aj (((a3.getD (Int.toNat a) aa).Y) + ((a3.getD (Int.toNat a) aa).H))))), (13, 63, slice aE ay.length aG), (14, 64, int .i64 a), (15, 65, pointer (some (b8.add (Int.toNat a * 1)))), (16, 66, bool (ay.getD (Int.toNat a) false))] D r ∧ Hp G' (bx ax [int .i64 ((a3.getD (Int.toNat a) aa).Node), int .i64 ((a3.getD (Int.toNat a) aa).Table), int .i64 ((a3.getD (Int.toNat a) aa).X), int .i64 ((a3.getD (Int.toNat a) aa).Y), int .i64 ((a3.getD (Int.toNat a) aa).H), string ((a3.getD (Int.toNat a) aa).Text), bool ((a3.getD (Int.toNat a) aa).Head), bool ((a3.getD (Int.toNat a) aa).Note)] 36 :: bx K [slice aL az.length aN, slice aI aO.length aJ, int .i64 ((a3.getD (Int.toNat a) aa).Y)] 64 :: bx g2 [slice A4 a3.length c5] 24 :: bx g9 [slice aE ay.length aG] 25 :: tk (slice aL az.length aN) 8 36 :: tk (slice aI aO.length aJ) 8 36 :: aY) w) ∨ (D 3 = true ∧ D 4 = false ∧ ∃ (F : Nat) (G' : Gh), aX ≤ G' ∧ ag [(0, func (.yield yl) #[] #[]), (2, pointer (some ⟨g9, 0, none⟩)), (4, pointer (some ⟨K, 0, none⟩)), (6, int .i64 a), (7, pointer (some ⟨ax, 0, none⟩)), (8, slice A4 a3.length c5), (9, int .i64 (a3.length : Int)), (10, int .i64 a)] [] [(0, 50, pointer (some ⟨K, 0, none⟩)), (1, 51, slice aL az.length aN), (2, 52, agg [int .i64 ((a3.getD (Int.toNat a) aa).Node), int .i64 ((a3.getD (Int.toNat a) aa).Table), int .i64 ((a3.getD (Int.toNat a) aa).X), int .i64 ((a3.getD (Int.toNat a) aa).Y), int .i64 ((a3.getD (Int.toNat a) aa).H), string ((a3.getD (Int.toNat a) aa).Text), bool ((a3.getD (Int.toNat a) aa).Head), bool ((a3.getD (Int.toNat a) aa).Note)].toArray), (5, 55, pointer (some ⟨K, 2, none⟩)), (6, 56, int .i64 ((a3.getD (Int.toNat a) aa).Y)), (7, 57, pointer (some ⟨ax, 3, none⟩)), (8, 58, int .i64 ((a3.getD (Int.toNat a) aa).Y)), (9, 59, pointer (some ⟨ax, 4, none⟩)), (10, 60, int .i64 ((a3.getD (Int.toNat a) aa).H)), (11, 61, int .i64 (aj (((a3.getD (Int.toNat a) aa).Y) + ((a3.getD (Int.toNat a) aa).H)))), (12, 62, int .i64 (max ((a3.getD (Int.toNat a) aa).Y) (aj (((a3.getD (Int.toNat a) aa).Y) + ((a3.getD (Int.toNat a) aa).H))))), (13, 63, slice aE ay.length aG), (14, 64, int .i64 a), (15, 65, pointer (some (b8.add (Int.toNat a * 1)))), (16, 66, bool (ay.getD (Int.toNat a) false)), (3, 53, slice (some ⟨F, 0, none⟩) 1 1)] D r ∧ Hp G' (bx F [int .i64 ((a3.getD (Int.toNat a) aa).Node), int .i64 ((a3.getD (Int.toNat a) aa).Table), int .i64 ((a3.getD (Int.toNat a) aa).X), int .i64 ((a3.getD (Int.toNat a) aa).Y), int .i64 ((a3.getD (Int.toNat a) aa).H), string ((a3.getD (Int.toNat a) aa).Text), bool ((a3.getD (Int.toNat a) aa).Head), bool ((a3.getD (Int.toNat a) aa).Note)] 36 :: bx ax [int .i64 ((a3.getD (Int.toNat a) aa).Node), int .i64 ((a3.getD (Int.toNat a) aa).Table), int .i64 ((a3.getD (Int.toNat a) aa).X), int .i64 ((a3.getD (Int.toNat a) aa).Y), int .i64 ((a3.getD (Int.toNat a) aa).H), string ((a3.getD (Int.toNat a) aa).Text), bool ((a3.getD (Int.toNat a) aa).Head), bool ((a3.getD (Int.toNat a) aa).Note)] 36 :: bx K [slice aL az.length aN, slice aI aO.length aJ, int .i64 ((a3.getD (Int.toNat a) aa).Y)] 64 :: bx g2 [slice A4 a3.length c5] 24 :: bx g9 [slice aE ay.length aG] 25 :: tk (slice aL az.length aN) 8 36 :: tk (slice aI aO.length aJ) 8 36 :: aY) w) ∨ (D 4 = true ∧ D 18 = false ∧ ∃ (F : Nat) (R : Option Addr) (S : Nat) (G' : Gh), aX ≤ G' ∧ (az ++ [(a3.getD (Int.toNat a) aa)]).length ≤ S ∧ Dat ah G' R (az ++ [(a3.getD (Int.toNat a) aa)]) ∧ Own R S ∧ ag [(0, func (.yield yl) #[] #[]), (2, pointer (some ⟨g9, 0, none⟩)), (4, pointer (some ⟨K, 0, none⟩)), (6, int .i64 a), (7, pointer (some ⟨ax, 0, none⟩)), (8, slice A4 a3.length c5), (9, int .i64 (a3.length : Int)), (10, int .i64 a)] [] [(0, 50, pointer (some ⟨K, 0, none⟩)), (1, 51, slice aL az.length aN), (2, 52, agg [int .i64 ((a3.getD (Int.toNat a) aa).Node), int .i64 ((a3.getD (Int.toNat a) aa).Table), int .i64 ((a3.getD (Int.toNat a) aa).X), int .i64 ((a3.getD (Int.toNat a) aa).Y), int .i64 ((a3.getD (Int.toNat a) aa).H), string ((a3.getD (Int.toNat a) aa).Text), bool ((a3.getD (Int.toNat a) aa).Head), bool ((a3.getD (Int.toNat a) aa).Note)].toArray), (5, 55, pointer (some ⟨K, 2, none⟩)), (6, 56, int .i64 ((a3.getD (Int.toNat a) aa).Y)), (7, 57, pointer (some ⟨ax, 3, none⟩)), (8, 58, int .i64 ((a3.getD (Int.toNat a) aa).Y)), (9, 59, pointer (some ⟨ax, 4, none⟩)), (10, 60, int .i64 ((a3.getD (Int.toNat a) aa).H)), (11, 61, int .i64 (aj (((a3.getD (Int.toNat a) aa).Y) + ((a3.getD (Int.toNat a) aa).H)))), (12, 62, int .i64 (max ((a3.getD (Int.toNat a) aa).Y) (aj (((a3.getD (Int.toNat a) aa).Y) + ((a3.getD (Int.toNat a) aa).H))))), (13, 63, slice aE ay.length aG), (14, 64, int .i64 a), (15, 65, pointer (some (b8.add (Int.toNat a * 1)))), (16, 66, bool (ay.getD (Int.toNat a) false)), (3, 53, slice (some ⟨F, 0, none⟩) 1 1), (4, 54, slice R (az ++ [(a3.getD (Int.toNat a) aa)]).length S), (17, 67, pointer (some ⟨K, 0, none⟩))] D r ∧ Hp G' (bx F [int .i64 ((a3.getD (Int.toNat a) aa).Node), int .i64 ((a3.getD (Int.toNat a) aa).Table), int .i64 ((a3.getD (Int.toNat a) aa).X), int .i64 ((a3.getD (Int.toNat a) aa).Y), int .i64 ((a3.getD (Int.toNat a) aa).H), string ((a3.getD (Int.toNat a) aa).Text), bool ((a3.getD (Int.toNat a) aa).Head), bool ((a3.getD (Int.toNat a) aa).Note)] 36 :: bx ax [int .i64 ((a3.getD (Int.toNat a) aa).Node), int .i64 ((a3.getD (Int.toNat a) aa).Table), int .i64 ((a3.getD (Int.toNat a) aa).X), int .i64 ((a3.getD (Int.toNat a) aa).Y), int .i64 ((a3.getD (Int.toNat a) aa).H), string ((a3.getD (Int.toNat a) aa).Text), bool ((a3.getD (Int.toNat a) aa).Head), bool ((a3.getD (Int.toNat a) aa).Note)] 36 :: bx K [slice aL az.length aN, slice aI aO.length aJ, int .i64 ((a3.getD (Int.toNat a) aa).Y)] 64 :: bx g2 [slice A4 a3.length c5] 24 :: bx g9 [slice aE ay.length aG] 25 :: tk (slice R (az ++ [(a3.getD (Int.toNat a) aa)]).length S) 8 36 :: tk (slice aI aO.length aJ) 8 36 :: aY) w) ∨ (D 18 = true ∧ D 20 = false ∧ ∃ (F : Nat) (R : Option Addr) (S : Nat) (G' : Gh), aX ≤ G' ∧ (az ++ [(a3.getD (Int.toNat a) aa)]).length ≤ S ∧ Dat ah G' R (az ++ [(a3.getD (Int.toNat a) aa)]) ∧ Own R S ∧ ag [(0, func (.yield yl) #[] #[]), (2, pointer (some ⟨g9, 0, none⟩)), (4, pointer (some ⟨K, 0, none⟩)), (6, int .i64 a), (7, pointer (some ⟨ax, 0, none⟩)), (8, slice A4 a3.length c5), (9, int .i64 (a3.length : Int)), (10, int .i64 a)] [] [(0, 50, pointer (some ⟨K, 0, none⟩)), (1, 51, slice aL az.length aN), (2, 52, agg [int .i64 ((a3.getD (Int.toNat a) aa).Node), int .i64 ((a3.getD (Int.toNat a) aa).Table), int .i64 ((a3.getD (Int.toNat a) aa).X), int .i64 ((a3.getD (Int.toNat a) aa).Y), int .i64 ((a3.getD (Int.toNat a) aa).H), string ((a3.getD (Int.toNat a) aa).Text), bool ((a3.getD (Int.toNat a) aa).Head), bool ((a3.getD (Int.toNat a) aa).Note)].toArray), (5, 55, pointer (some ⟨K, 2, none⟩)), (6, 56, int .i64 ((a3.getD (Int.toNat a) aa).Y)), (7, 57, pointer (some ⟨ax, 3, none⟩)), (8, 58, int .i64 ((a3.getD (Int.toNat a) aa).Y)), (9, 59, pointer (some ⟨ax, 4, none⟩)), (10, 60, int .i64 ((a3.getD (Int.toNat a) aa).H)), (11, 61, int .i64 (aj (((a3.getD (Int.toNat a) aa).Y) + ((a3.getD (Int.toNat a) aa).H)))), (12, 62, int .i64 (max ((a3.getD (Int.toNat a) aa).Y) (aj (((a3.getD (Int.toNat a) aa).Y) + ((a3.getD (Int.toNat a) aa).H))))), (13, 63, slice aE ay.length aG), (14, 64, int .i64 a), (15, 65, pointer (some (b8.add (Int.toNat a * 1)))), (16, 66, bool (ay.getD (Int.toNat a) false)), (3, 53, slice (some ⟨F, 0, none⟩) 1 1), (4, 54, slice R (az ++ [(a3.getD (Int.toNat a) aa)]).length S), (17, 67, pointer (some ⟨K, 0, none⟩)), (19, 68, pointer (some ⟨K, 2, none⟩))] D r ∧ Hp G' (bx F [int .i64 ((a3.getD (Int.toNat a) aa).Node), int .i64 ((a3.getD (Int.toNat a) aa).Table), int .i64 ((a3.getD (Int.toNat a) aa).X), int .i64 ((a3.getD (Int.toNat a) aa).Y), int .i64 ((a3.getD (Int.toNat a) aa).H), string ((a3.getD (Int.toNat a) aa).Text), bool ((a3.getD (Int.toNat a) aa).Head), bool ((a3.getD (Int.toNat a) aa).Note)] 36 :: bx ax [int .i64 ((a3.getD (Int.toNat a) aa).Node), int .i64 ((a3.getD (Int.toNat a) aa).Table), int .i64 ((a3.getD (Int.toNat a) aa).X), int .i64 ((a3.getD (Int.toNat a) aa).Y), int .i64 ((a3.getD (Int.toNat a) aa).H), string ((a3.getD (Int.toNat a) aa).Text), bool ((a3.getD (Int.toNat a) aa).Head), bool ((a3.getD (Int.toNat a) aa).Note)] 36 :: bx K [slice R (az ++ [(a3.getD (Int.toNat a) aa)]).length S, slice aI aO.length aJ, int .i64 ((a3.getD (Int.toNat a) aa).Y)] 64 :: bx g2 [slice A4 a3.length c5] 24 :: bx g9 [slice aE ay.length aG] 25 :: tk (slice R (az ++ [(a3.getD (Int.toNat a) aa)]).length S) 8 36 :: tk (slice aI aO.length aJ) 8 36 :: aY) w) ∨ (D 20 = true ∧ ∃ (F : Nat) (R : Option Addr) (S : Nat) (G' : Gh), aX ≤ G' ∧ (az ++ [(a3.getD (Int.toNat a) aa)]).length ≤ S ∧ Dat ah G' R (az ++ [(a3.getD (Int.toNat a) aa)]) ∧ Own R S ∧ ag [(0, func (.yield yl) #[] #[]), (2, pointer (some ⟨g9, 0, none⟩)), (4, pointer (some ⟨K, 0, none⟩)), (6, int .i64 a), (7, pointer (some ⟨ax, 0, none⟩)), (8, slice A4 a3.length c5), (9, int .i64 (a3.length : Int)), (10, int .i64 a)] [] [(0, 50, pointer (some ⟨K, 0, none⟩)), (1, 51, slice aL az.length aN), (2, 52, agg [int .i64 ((a3.getD (Int.toNat a) aa).Node), int .i64 ((a3.getD (Int.toNat a) aa).Table), int .i64 ((a3.getD (Int.toNat a) aa).X), int .i64 ((a3.getD (Int.toNat a) aa).Y), int .i64 ((a3.getD (Int.toNat a) aa).H), string ((a3.getD (Int.toNat a) aa).Text), bool ((a3.getD (Int.toNat a) aa).Head), bool ((a3.getD (Int.toNat a) aa).Note)].toArray), (5, 55, pointer (some ⟨K, 2, none⟩)), (6, 56, int .i64 ((a3.getD (Int.toNat a) aa).Y)), (7, 57, pointer (some ⟨ax, 3, none⟩)), (8, 58, int .i64 ((a3.getD (Int.toNat a) aa).Y)), (9, 59, pointer (some ⟨ax, 4, none⟩)), (10, 60, int .i64 ((a3.getD (Int.toNat a) aa).H)), (11, 61, int .i64 (aj (((a3.getD (Int.toNat a) aa).Y) + ((a3.getD (Int.toNat a) aa).H)))), (12, 62, int .i64 (max ((a3.getD (Int.toNat a) aa).Y) (aj (((a3.getD (Int.toNat a) aa).Y) + ((a3.getD (Int.toNat a) aa).H))))), (13, 63, slice aE ay.length aG), (14, 64, int .i64 a), (15, 65, pointer (some (b8.add (Int.toNat a * 1)))), (16, 66, bool (ay.getD (Int.toNat a) false)), (3, 53, slice (some ⟨F, 0, none⟩) 1 1), (4, 54, slice R (az ++ [(a3.getD (Int.toNat a) aa)]).length S), (17, 67, pointer (some ⟨K, 0, none⟩)), (19, 68, pointer (some ⟨K, 2, none⟩)), (21, 5, bool (ay.getD (Int.toNat a) false))] D r ∧ Hp G' (bx F [int .i64 ((a3.getD (Int.toNat a) aa).Node), int .i64 ((a3.getD (Int.toNat a) aa).Table), int .i64 ((a3.getD (Int.toNat a) aa).X), int .i64 ((a3.getD (Int.toNat a) aa).Y), int .i64 ((a3.getD (Int.toNat a) aa).H), string ((a3.getD (Int.toNat a) aa).Text), bool ((a3.getD (Int.toNat a) aa).Head), bool ((a3.getD (Int.toNat a) aa).Note)] 36 :: bx ax [int .i64 ((a3.getD (Int.toNat a) aa).Node), int .i64 ((a3.getD (Int.toNat a) aa).Table), int .i64 ((a3.getD (Int.toNat a) aa).X), int .i64 ((a3.getD (Int.toNat a) aa).Y), int .i64 ((a3.getD (Int.toNat a) aa).H), string ((a3.getD (Int.toNat a) aa).Text), bool ((a3.getD (Int.toNat a) aa).Head), bool ((a3.getD (Int.toNat a) aa).Note)] 36 :: bx K [slice R (az ++ [(a3.getD (Int.toNat a) aa)]).length S, slice aI aO.length aJ, int .i64 (max ((a3.getD (Int.toNat a) aa).Y) (aj (((a3.getD (Int.toNat a) aa).Y) + ((a3.getD (Int.toNat a) aa).H))))] 64 :: bx g2 [slice A4 a3.length c5] 24 :: bx g9 [slice aE ay.length aG] 25 :: tk (slice R (az ++ [(a3.getD (Int.toNat a) aa)]).length S) 8 36 :: tk (slice aI aO.length aJ) 8 36 :: aY) w)) dJ z z ?_ ?_ ?_
 exact (.inl ⟨z, _, Gh.le_refl _, ag.start ⟨z, z, z, z, z, z, z, z, tv⟩ trivial, d7.drew⟩)
 refine ⟨?_, ?_, ?_, ?_, ?_, ?_, ?_, ?_, ?_, ?_, ?_, ?_, ?_, ?_, ?_, ?_, ?_, ?_, ?_, ?_, ?_, ?_, tv⟩
 rintro D r aU (⟨c, ab, u, k, p⟩ | ⟨b, c, F, ab, u, k, p⟩ | ⟨b, c, F, R, S, ab, u, ao, ap, aq, k, p⟩ | ⟨b, c, F, R, S, ab, u, ao, ap, aq, k, p⟩ | ⟨b, F, R, S, ab, u, ao, ap, aq, k, p⟩) f d n
 obtain ⟨m, rfl⟩ := Has.ex (cC (k.ins.get 2 rfl) cN)
 exact fa dw z<|nl ⟨z, (.inl ⟨c, _, u, (ag.step k f z z z z), p⟩)⟩
 obtain ⟨m, rfl⟩ := Has.ex (cC (k.ins.get 2 rfl) cN)
 exact fa dw z<|nl ⟨z, (.inr (.inl ⟨b, c, F, _, u, (ag.step k f z z z z), p⟩))⟩
 cases (n 4 rfl).symm.trans b
 cases (n 18 rfl).symm.trans b
 cases (n 20 rfl).symm.trans b
 rintro D r aU (⟨c, ab, u, k, p⟩ | ⟨b, c, F, ab, u, k, p⟩ | ⟨b, c, F, R, S, ab, u, ao, ap, aq, k, p⟩ | ⟨b, c, F, R, S, ab, u, ao, ap, aq, k, p⟩ | ⟨b, F, R, S, ab, u, ao, ap, aq, k, p⟩) f d n
 obtain ⟨m, rfl⟩ := Has.ex (cC (k.get 0 rfl (d 0 rfl)) cN)
 exact ld p 1 cB z z z<|nl ⟨z, (.inl ⟨c, _, u, (ag.step k f z z z z), p⟩)⟩
 obtain ⟨m, rfl⟩ := Has.ex (cC (k.get 0 rfl (d 0 rfl)) cN)
 exact ld p 2 cB z z z<|nl ⟨z, (.inr (.inl ⟨b, c, F, _, u, (ag.step k f z z z z), p⟩))⟩
 cases (n 4 rfl).symm.trans b
 cases (n 18 rfl).symm.trans b
 cases (n 20 rfl).symm.trans b
 rintro D r aU (⟨c, ab, u, k, p⟩ | ⟨b, c, F, ab, u, k, p⟩ | ⟨b, c, F, R, S, ab, u, ao, ap, aq, k, p⟩ | ⟨b, c, F, R, S, ab, u, ao, ap, aq, k, p⟩ | ⟨b, F, R, S, ab, u, ao, ap, aq, k, p⟩) f d n
 obtain ⟨m, rfl⟩ := Has.ex (cC (k.ins.get 4 rfl) cN)
 exact gg p 0 dx z z z z<|nl ⟨z, (.inl ⟨c, _, u, (ag.step k f z z z z), p⟩)⟩
 cases (n 3 rfl).symm.trans b
 cases (n 4 rfl).symm.trans b
 cases (n 18 rfl).symm.trans b
 cases (n 20 rfl).symm.trans b
 rintro D r aU (⟨c, ab, u, k, p⟩ | ⟨b, c, F, ab, u, k, p⟩ | ⟨b, c, F, R, S, ab, u, ao, ap, aq, k, p⟩ | ⟨b, c, F, R, S, ab, u, ao, ap, aq, k, p⟩ | ⟨b, F, R, S, ab, u, ao, ap, aq, k, p⟩) f d n
 obtain ⟨m, rfl⟩ := Has.ex (cC (k.get 2 rfl (d 2 rfl)) cN)
 refine eh p (vs := [(0, agg [int .i64 ((a3.getD (Int.toNat a) aa).Node), int .i64 ((a3.getD (Int.toNat a) aa).Table), int .i64 ((a3.getD (Int.toNat a) aa).X), int .i64 ((a3.getD (Int.toNat a) aa).Y), int .i64 ((a3.getD (Int.toNat a) aa).H), string ((a3.getD (Int.toNat a) aa).Text), bool ((a3.getD (Int.toNat a) aa).Head), bool ((a3.getD (Int.toNat a) aa).Note)].toArray)]) (cs := [int .i64 ((a3.getD (Int.toNat a) aa).Node), int .i64 ((a3.getD (Int.toNat a) aa).Table), int .i64 ((a3.getD (Int.toNat a) aa).X), int .i64 ((a3.getD (Int.toNat a) aa).Y), int .i64 ((a3.getD (Int.toNat a) aa).H), string ((a3.getD (Int.toNat a) aa).Text), bool ((a3.getD (Int.toNat a) aa).Head), bool ((a3.getD (Int.toNat a) aa).Note)]) cA cP rfl (by decide) rfl (by kernel_rfl) (fun F fS d9 => ?_)
 exact nl ⟨z, (.inr (.inl ⟨z, (n 4 z), F, _, u, (ag.step (ag.more (new := [(3, 53, slice (some ⟨F, 0, none⟩) 1 1)]) k (List.forall_mem_cons.2 ⟨f, (fun _ h => nomatch h)⟩)) f z z z z), d9⟩))⟩
 cases f.symm.trans b
 cases (n 4 rfl).symm.trans b
 cases (n 18 rfl).symm.trans b
 cases (n 20 rfl).symm.trans b
 rintro D r aU (⟨c, ab, u, k, p⟩ | ⟨b, c, F, ab, u, k, p⟩ | ⟨b, c, F, R, S, ab, u, ao, ap, aq, k, p⟩ | ⟨b, c, F, R, S, ab, u, ao, ap, aq, k, p⟩ | ⟨b, F, R, S, ab, u, ao, ap, aq, k, p⟩) f d n
 cases (d 3 rfl).symm.trans c
 obtain ⟨m, rfl⟩ := Has.ex (cC (k.get 1 rfl (d 1 rfl)) (cC (k.get 15 rfl (d 3 rfl)) cN))
 refine fx (xs := az) (ys := [(a3.getD (Int.toNat a) aa)]) ah p 5 cA cP rfl rfl rfl rfl bM bg (Dat.mono u bh) (dU p 0 dA rfl rfl) ⟨[int .i64 ((a3.getD (Int.toNat a) aa).Node), int .i64 ((a3.getD (Int.toNat a) aa).Table), int .i64 ((a3.getD (Int.toNat a) aa).X), int .i64 ((a3.getD (Int.toNat a) aa).Y), int .i64 ((a3.getD (Int.toNat a) aa).H), string ((a3.getD (Int.toNat a) aa).Text), bool ((a3.getD (Int.toNat a) aa).Head), bool ((a3.getD (Int.toNat a) aa).Note)], _, rfl, (aH (x := (a3.getD (Int.toNat a) aa))), rfl⟩ rfl (by simp only [List.length_cons, List.length_nil]; omega) (by simp only [List.length_cons, List.length_nil]; omega) (fun R S fT fU ea aq ao ap eb => ?_)
 exact nl ⟨z, (.inr (.inr (.inl ⟨z, (n 18 z), F, R, S, _, (gT u ea), ao, ap, aq, (ag.step (ag.more (new := [(4, 54, slice R (az ++ [(a3.getD (Int.toNat a) aa)]).length S), (17, 67, pointer (some ⟨K, 0, none⟩))]) k (List.forall_mem_cons.2 ⟨f, (List.forall_mem_cons.2 ⟨n 17 z, (fun _ h => nomatch h)⟩)⟩)) f z z z z), eb⟩)))⟩
 cases f.symm.trans b
 cases (n 18 rfl).symm.trans b
 cases (n 20 rfl).symm.trans b
 rintro D r aU (⟨c, ab, u, k, p⟩ | ⟨b, c, F, ab, u, k, p⟩ | ⟨b, c, F, R, S, ab, u, ao, ap, aq, k, p⟩ | ⟨b, c, F, R, S, ab, u, ao, ap, aq, k, p⟩ | ⟨b, F, R, S, ab, u, ao, ap, aq, k, p⟩) f d n
 obtain ⟨m, rfl⟩ := Has.ex (cC (k.ins.get 2 rfl) cN)
 exact fa dO z<|nl ⟨z, (.inl ⟨c, _, u, (ag.step k f z z z z), p⟩)⟩
 obtain ⟨m, rfl⟩ := Has.ex (cC (k.ins.get 2 rfl) cN)
 exact fa dO z<|nl ⟨z, (.inr (.inl ⟨b, c, F, _, u, (ag.step k f z z z z), p⟩))⟩
 obtain ⟨m, rfl⟩ := Has.ex (cC (k.ins.get 2 rfl) cN)
 exact fa dO z<|nl ⟨z, (.inr (.inr (.inl ⟨b, c, F, R, S, _, u, ao, ap, aq, (ag.step k f z z z z), p⟩)))⟩
 cases (n 18 rfl).symm.trans b
 cases (n 20 rfl).symm.trans b
 rintro D r aU (⟨c, ab, u, k, p⟩ | ⟨b, c, F, ab, u, k, p⟩ | ⟨b, c, F, R, S, ab, u, ao, ap, aq, k, p⟩ | ⟨b, c, F, R, S, ab, u, ao, ap, aq, k, p⟩ | ⟨b, F, R, S, ab, u, ao, ap, aq, k, p⟩) f d n
 obtain ⟨m, rfl⟩ := Has.ex (cC (k.get 3 rfl (d 5 rfl)) cN)
 exact ld p 1 bb z z z<|nl ⟨z, (.inl ⟨c, _, u, (ag.step k f z z z z), p⟩)⟩
 obtain ⟨m, rfl⟩ := Has.ex (cC (k.get 3 rfl (d 5 rfl)) cN)
 exact ld p 2 bb z z z<|nl ⟨z, (.inr (.inl ⟨b, c, F, _, u, (ag.step k f z z z z), p⟩))⟩
 obtain ⟨m, rfl⟩ := Has.ex (cC (k.get 3 rfl (d 5 rfl)) cN)
 exact ld p 2 bb z z z<|nl ⟨z, (.inr (.inr (.inl ⟨b, c, F, R, S, _, u, ao, ap, aq, (ag.step k f z z z z), p⟩)))⟩
 cases (n 18 rfl).symm.trans b
 cases (n 20 rfl).symm.trans b
 rintro D r aU (⟨c, ab, u, k, p⟩ | ⟨b, c, F, ab, u, k, p⟩ | ⟨b, c, F, R, S, ab, u, ao, ap, aq, k, p⟩ | ⟨b, c, F, R, S, ab, u, ao, ap, aq, k, p⟩ | ⟨b, F, R, S, ab, u, ao, ap, aq, k, p⟩) f d n
 obtain ⟨m, rfl⟩ := Has.ex (cC (k.ins.get 4 rfl) cN)
 exact fa bn z<|nl ⟨z, (.inl ⟨c, _, u, (ag.step k f z z z z), p⟩)⟩
 obtain ⟨m, rfl⟩ := Has.ex (cC (k.ins.get 4 rfl) cN)
 exact fa bn z<|nl ⟨z, (.inr (.inl ⟨b, c, F, _, u, (ag.step k f z z z z), p⟩))⟩
 obtain ⟨m, rfl⟩ := Has.ex (cC (k.ins.get 4 rfl) cN)
 exact fa bn z<|nl ⟨z, (.inr (.inr (.inl ⟨b, c, F, R, S, _, u, ao, ap, aq, (ag.step k f z z z z), p⟩)))⟩
 obtain ⟨m, rfl⟩ := Has.ex (cC (k.ins.get 4 rfl) cN)
 exact fa bn z<|nl ⟨z, (.inr (.inr (.inr (.inl ⟨b, c, F, R, S, _, u, ao, ap, aq, (ag.step k f z z z z), p⟩))))⟩
 cases (n 20 rfl).symm.trans b
 rintro D r aU (⟨c, ab, u, k, p⟩ | ⟨b, c, F, ab, u, k, p⟩ | ⟨b, c, F, R, S, ab, u, ao, ap, aq, k, p⟩ | ⟨b, c, F, R, S, ab, u, ao, ap, aq, k, p⟩ | ⟨b, F, R, S, ab, u, ao, ap, aq, k, p⟩) f d n
 obtain ⟨m, rfl⟩ := Has.ex (cC (k.get 5 rfl (d 7 rfl)) cN)
 exact ld p 0 bb z z z<|nl ⟨z, (.inl ⟨c, _, u, (ag.step k f z z z z), p⟩)⟩
 obtain ⟨m, rfl⟩ := Has.ex (cC (k.get 5 rfl (d 7 rfl)) cN)
 exact ld p 1 bb z z z<|nl ⟨z, (.inr (.inl ⟨b, c, F, _, u, (ag.step k f z z z z), p⟩))⟩
 obtain ⟨m, rfl⟩ := Has.ex (cC (k.get 5 rfl (d 7 rfl)) cN)
 exact ld p 1 bb z z z<|nl ⟨z, (.inr (.inr (.inl ⟨b, c, F, R, S, _, u, ao, ap, aq, (ag.step k f z z z z), p⟩)))⟩
 obtain ⟨m, rfl⟩ := Has.ex (cC (k.get 5 rfl (d 7 rfl)) cN)
 exact ld p 1 bb z z z<|nl ⟨z, (.inr (.inr (.inr (.inl ⟨b, c, F, R, S, _, u, ao, ap, aq, (ag.step k f z z z z), p⟩))))⟩
 cases (n 20 rfl).symm.trans b
 rintro D r aU (⟨c, ab, u, k, p⟩ | ⟨b, c, F, ab, u, k, p⟩ | ⟨b, c, F, R, S, ab, u, ao, ap, aq, k, p⟩ | ⟨b, c, F, R, S, ab, u, ao, ap, aq, k, p⟩ | ⟨b, F, R, S, ab, u, ao, ap, aq, k, p⟩) f d n
 obtain ⟨m, rfl⟩ := Has.ex (cC (k.ins.get 4 rfl) cN)
 exact fa cm z<|nl ⟨z, (.inl ⟨c, _, u, (ag.step k f z z z z), p⟩)⟩
 obtain ⟨m, rfl⟩ := Has.ex (cC (k.ins.get 4 rfl) cN)
 exact fa cm z<|nl ⟨z, (.inr (.inl ⟨b, c, F, _, u, (ag.step k f z z z z), p⟩))⟩
 obtain ⟨m, rfl⟩ := Has.ex (cC (k.ins.get 4 rfl) cN)
 exact fa cm z<|nl ⟨z, (.inr (.inr (.inl ⟨b, c, F, R, S, _, u, ao, ap, aq, (ag.step k f z z z z), p⟩)))⟩
 obtain ⟨m, rfl⟩ := Has.ex (cC (k.ins.get 4 rfl) cN)
 exact fa cm z<|nl ⟨z, (.inr (.inr (.inr (.inl ⟨b, c, F, R, S, _, u, ao, ap, aq, (ag.step k f z z z z), p⟩))))⟩
 cases (n 20 rfl).symm.trans b
 rintro D r aU (⟨c, ab, u, k, p⟩ | ⟨b, c, F, ab, u, k, p⟩ | ⟨b, c, F, R, S, ab, u, ao, ap, aq, k, p⟩ | ⟨b, c, F, R, S, ab, u, ao, ap, aq, k, p⟩ | ⟨b, F, R, S, ab, u, ao, ap, aq, k, p⟩) f d n
 obtain ⟨m, rfl⟩ := Has.ex (cC (k.get 7 rfl (d 9 rfl)) cN)
 exact ld p 0 bb z z z<|nl ⟨z, (.inl ⟨c, _, u, (ag.step k f z z z z), p⟩)⟩
 obtain ⟨m, rfl⟩ := Has.ex (cC (k.get 7 rfl (d 9 rfl)) cN)
 exact ld p 1 bb z z z<|nl ⟨z, (.inr (.inl ⟨b, c, F, _, u, (ag.step k f z z z z), p⟩))⟩
 obtain ⟨m, rfl⟩ := Has.ex (cC (k.get 7 rfl (d 9 rfl)) cN)
 exact ld p 1 bb z z z<|nl ⟨z, (.inr (.inr (.inl ⟨b, c, F, R, S, _, u, ao, ap, aq, (ag.step k f z z z z), p⟩)))⟩
 obtain ⟨m, rfl⟩ := Has.ex (cC (k.get 7 rfl (d 9 rfl)) cN)
 exact ld p 1 bb z z z<|nl ⟨z, (.inr (.inr (.inr (.inl ⟨b, c, F, R, S, _, u, ao, ap, aq, (ag.step k f z z z z), p⟩))))⟩
 cases (n 20 rfl).symm.trans b
 rintro D r aU (⟨c, ab, u, k, p⟩ | ⟨b, c, F, ab, u, k, p⟩ | ⟨b, c, F, R, S, ab, u, ao, ap, aq, k, p⟩ | ⟨b, c, F, R, S, ab, u, ao, ap, aq, k, p⟩ | ⟨b, F, R, S, ab, u, ao, ap, aq, k, p⟩) f d n
 obtain ⟨m, rfl⟩ := Has.ex (cC (k.get 6 rfl (d 8 rfl)) (cC (k.get 8 rfl (d 10 rfl)) cN))
 exact bm z z<|nl ⟨z, (.inl ⟨c, _, u, (ag.step k f z z z z), p⟩)⟩
 obtain ⟨m, rfl⟩ := Has.ex (cC (k.get 6 rfl (d 8 rfl)) (cC (k.get 8 rfl (d 10 rfl)) cN))
 exact bm z z<|nl ⟨z, (.inr (.inl ⟨b, c, F, _, u, (ag.step k f z z z z), p⟩))⟩
 obtain ⟨m, rfl⟩ := Has.ex (cC (k.get 6 rfl (d 8 rfl)) (cC (k.get 8 rfl (d 10 rfl)) cN))
 exact bm z z<|nl ⟨z, (.inr (.inr (.inl ⟨b, c, F, R, S, _, u, ao, ap, aq, (ag.step k f z z z z), p⟩)))⟩
 obtain ⟨m, rfl⟩ := Has.ex (cC (k.get 6 rfl (d 8 rfl)) (cC (k.get 8 rfl (d 10 rfl)) cN))
 exact bm z z<|nl ⟨z, (.inr (.inr (.inr (.inl ⟨b, c, F, R, S, _, u, ao, ap, aq, (ag.step k f z z z z), p⟩))))⟩
 cases (n 20 rfl).symm.trans b
 rintro D r aU (⟨c, ab, u, k, p⟩ | ⟨b, c, F, ab, u, k, p⟩ | ⟨b, c, F, R, S, ab, u, ao, ap, aq, k, p⟩ | ⟨b, c, F, R, S, ab, u, ao, ap, aq, k, p⟩ | ⟨b, F, R, S, ab, u, ao, ap, aq, k, p⟩) f d n
 obtain ⟨m, rfl⟩ := Has.ex (cC (k.get 4 rfl (d 6 rfl)) (cC (k.get 9 rfl (d 11 rfl)) cN))
 exact dR z z<|nl ⟨z, (.inl ⟨c, _, u, (ag.step k f z z z z), p⟩)⟩
 obtain ⟨m, rfl⟩ := Has.ex (cC (k.get 4 rfl (d 6 rfl)) (cC (k.get 9 rfl (d 11 rfl)) cN))
 exact dR z z<|nl ⟨z, (.inr (.inl ⟨b, c, F, _, u, (ag.step k f z z z z), p⟩))⟩
 obtain ⟨m, rfl⟩ := Has.ex (cC (k.get 4 rfl (d 6 rfl)) (cC (k.get 9 rfl (d 11 rfl)) cN))
 exact dR z z<|nl ⟨z, (.inr (.inr (.inl ⟨b, c, F, R, S, _, u, ao, ap, aq, (ag.step k f z z z z), p⟩)))⟩
 obtain ⟨m, rfl⟩ := Has.ex (cC (k.get 4 rfl (d 6 rfl)) (cC (k.get 9 rfl (d 11 rfl)) cN))
 exact dR z z<|nl ⟨z, (.inr (.inr (.inr (.inl ⟨b, c, F, R, S, _, u, ao, ap, aq, (ag.step k f z z z z), p⟩))))⟩
 cases (n 20 rfl).symm.trans b
 rintro D r aU (⟨c, ab, u, k, p⟩ | ⟨b, c, F, ab, u, k, p⟩ | ⟨b, c, F, R, S, ab, u, ao, ap, aq, k, p⟩ | ⟨b, c, F, R, S, ab, u, ao, ap, aq, k, p⟩ | ⟨b, F, R, S, ab, u, ao, ap, aq, k, p⟩) f d n
 obtain ⟨m, rfl⟩ := Has.ex (cC (k.ins.get 1 rfl) cN)
 exact ld p 3 ir z z z<|nl ⟨z, (.inl ⟨c, _, u, (ag.step k f z z z z), p⟩)⟩
 obtain ⟨m, rfl⟩ := Has.ex (cC (k.ins.get 1 rfl) cN)
 exact ld p 4 ir z z z<|nl ⟨z, (.inr (.inl ⟨b, c, F, _, u, (ag.step k f z z z z), p⟩))⟩
 obtain ⟨m, rfl⟩ := Has.ex (cC (k.ins.get 1 rfl) cN)
 exact ld p 4 ir z z z<|nl ⟨z, (.inr (.inr (.inl ⟨b, c, F, R, S, _, u, ao, ap, aq, (ag.step k f z z z z), p⟩)))⟩
 obtain ⟨m, rfl⟩ := Has.ex (cC (k.ins.get 1 rfl) cN)
 exact ld p 4 ir z z z<|nl ⟨z, (.inr (.inr (.inr (.inl ⟨b, c, F, R, S, _, u, ao, ap, aq, (ag.step k f z z z z), p⟩))))⟩
 obtain ⟨m, rfl⟩ := Has.ex (cC (k.ins.get 1 rfl) cN)
 exact ld p 4 ir z z z<|nl ⟨z, (.inr (.inr (.inr (.inr ⟨b, F, R, S, _, u, ao, ap, aq, (ag.step k f z z z z), p⟩))))⟩
 rintro D r aU (⟨c, ab, u, k, p⟩ | ⟨b, c, F, ab, u, k, p⟩ | ⟨b, c, F, R, S, ab, u, ao, ap, aq, k, p⟩ | ⟨b, c, F, R, S, ab, u, ao, ap, aq, k, p⟩ | ⟨b, F, R, S, ab, u, ao, ap, aq, k, p⟩) f d n
 obtain ⟨m, rfl⟩ := Has.ex (cC (k.ins.get 3 rfl) cN)
 exact mv z<|nl ⟨z, (.inl ⟨c, _, u, (ag.step k f z z z z), p⟩)⟩
 obtain ⟨m, rfl⟩ := Has.ex (cC (k.ins.get 3 rfl) cN)
 exact mv z<|nl ⟨z, (.inr (.inl ⟨b, c, F, _, u, (ag.step k f z z z z), p⟩))⟩
 obtain ⟨m, rfl⟩ := Has.ex (cC (k.ins.get 3 rfl) cN)
 exact mv z<|nl ⟨z, (.inr (.inr (.inl ⟨b, c, F, R, S, _, u, ao, ap, aq, (ag.step k f z z z z), p⟩)))⟩
 obtain ⟨m, rfl⟩ := Has.ex (cC (k.ins.get 3 rfl) cN)
 exact mv z<|nl ⟨z, (.inr (.inr (.inr (.inl ⟨b, c, F, R, S, _, u, ao, ap, aq, (ag.step k f z z z z), p⟩))))⟩
 obtain ⟨m, rfl⟩ := Has.ex (cC (k.ins.get 3 rfl) cN)
 exact mv z<|nl ⟨z, (.inr (.inr (.inr (.inr ⟨b, F, R, S, _, u, ao, ap, aq, (ag.step k f z z z z), p⟩))))⟩
 rintro D r aU (⟨c, ab, u, k, p⟩ | ⟨b, c, F, ab, u, k, p⟩ | ⟨b, c, F, R, S, ab, u, ao, ap, aq, k, p⟩ | ⟨b, c, F, R, S, ab, u, ao, ap, aq, k, p⟩ | ⟨b, F, R, S, ab, u, ao, ap, aq, k, p⟩) f d n
 obtain ⟨m, rfl⟩ := Has.ex (cC (k.get 11 rfl (d 13 rfl)) (cC (k.get 12 rfl (d 14 rfl)) cN))
 exact bL fV z b9 z bw bz<|nl ⟨z, (.inl ⟨c, _, u, (ag.step k f z z z z), p⟩)⟩
 obtain ⟨m, rfl⟩ := Has.ex (cC (k.get 11 rfl (d 13 rfl)) (cC (k.get 12 rfl (d 14 rfl)) cN))
 exact bL fV z b9 z bw bz<|nl ⟨z, (.inr (.inl ⟨b, c, F, _, u, (ag.step k f z z z z), p⟩))⟩
 obtain ⟨m, rfl⟩ := Has.ex (cC (k.get 11 rfl (d 13 rfl)) (cC (k.get 12 rfl (d 14 rfl)) cN))
 exact bL fV z b9 z bw bz<|nl ⟨z, (.inr (.inr (.inl ⟨b, c, F, R, S, _, u, ao, ap, aq, (ag.step k f z z z z), p⟩)))⟩
 obtain ⟨m, rfl⟩ := Has.ex (cC (k.get 11 rfl (d 13 rfl)) (cC (k.get 12 rfl (d 14 rfl)) cN))
 exact bL fV z b9 z bw bz<|nl ⟨z, (.inr (.inr (.inr (.inl ⟨b, c, F, R, S, _, u, ao, ap, aq, (ag.step k f z z z z), p⟩))))⟩
 obtain ⟨m, rfl⟩ := Has.ex (cC (k.get 11 rfl (d 13 rfl)) (cC (k.get 12 rfl (d 14 rfl)) cN))
 exact bL fV z b9 z bw bz<|nl ⟨z, (.inr (.inr (.inr (.inr ⟨b, F, R, S, _, u, ao, ap, aq, (ag.step k f z z z z), p⟩))))⟩
 rintro D r aU (⟨c, ab, u, k, p⟩ | ⟨b, c, F, ab, u, k, p⟩ | ⟨b, c, F, R, S, ab, u, ao, ap, aq, k, p⟩ | ⟨b, c, F, R, S, ab, u, ao, ap, aq, k, p⟩ | ⟨b, F, R, S, ab, u, ao, ap, aq, k, p⟩) f d n
 obtain ⟨m, rfl⟩ := Has.ex (cC (k.get 13 rfl (d 15 rfl)) cN)
 exact et p jK z (u.cel _ _ (ca 0 _ z))<|nl ⟨z, (.inl ⟨c, _, u, (ag.step k f z z z z), p⟩)⟩
 obtain ⟨m, rfl⟩ := Has.ex (cC (k.get 13 rfl (d 15 rfl)) cN)
 exact et p jK z (u.cel _ _ (ca 0 _ z))<|nl ⟨z, (.inr (.inl ⟨b, c, F, _, u, (ag.step k f z z z z), p⟩))⟩
 obtain ⟨m, rfl⟩ := Has.ex (cC (k.get 13 rfl (d 15 rfl)) cN)
 exact et p jK z (u.cel _ _ (ca 0 _ z))<|nl ⟨z, (.inr (.inr (.inl ⟨b, c, F, R, S, _, u, ao, ap, aq, (ag.step k f z z z z), p⟩)))⟩
 obtain ⟨m, rfl⟩ := Has.ex (cC (k.get 13 rfl (d 15 rfl)) cN)
 exact et p jK z (u.cel _ _ (ca 0 _ z))<|nl ⟨z, (.inr (.inr (.inr (.inl ⟨b, c, F, R, S, _, u, ao, ap, aq, (ag.step k f z z z z), p⟩))))⟩
 obtain ⟨m, rfl⟩ := Has.ex (cC (k.get 13 rfl (d 15 rfl)) cN)
 exact et p jK z (u.cel _ _ (ca 0 _ z))<|nl ⟨z, (.inr (.inr (.inr (.inr ⟨b, F, R, S, _, u, ao, ap, aq, (ag.step k f z z z z), p⟩))))⟩
 rintro D r aU (⟨c, ab, u, k, p⟩ | ⟨b, c, F, ab, u, k, p⟩ | ⟨b, c, F, R, S, ab, u, ao, ap, aq, k, p⟩ | ⟨b, c, F, R, S, ab, u, ao, ap, aq, k, p⟩ | ⟨b, F, R, S, ab, u, ao, ap, aq, k, p⟩) f d n
 cases (d 3 rfl).symm.trans c
 cases (d 4 rfl).symm.trans c
 obtain ⟨m, rfl⟩ := Has.ex (cC (k.ins.get 2 rfl) cN)
 exact fa dw z<|nl ⟨z, (.inr (.inr (.inl ⟨b, c, F, R, S, _, u, ao, ap, aq, (ag.step k f z z z z), p⟩)))⟩
 cases (n 18 rfl).symm.trans b
 cases (n 20 rfl).symm.trans b
 rintro D r aU (⟨c, ab, u, k, p⟩ | ⟨b, c, F, ab, u, k, p⟩ | ⟨b, c, F, R, S, ab, u, ao, ap, aq, k, p⟩ | ⟨b, c, F, R, S, ab, u, ao, ap, aq, k, p⟩ | ⟨b, F, R, S, ab, u, ao, ap, aq, k, p⟩) f d n
 cases (d 3 rfl).symm.trans c
 cases (d 4 rfl).symm.trans c
 obtain ⟨m, rfl⟩ := Has.ex (cC (k.get 16 rfl (d 4 rfl)) (cC (k.get 17 rfl (d 17 rfl)) cN))
 exact f5 p 2 cB z z z z z z z fun fW ec=>nl ⟨z, (.inr (.inr (.inr (.inl ⟨z, (n 20 z), F, R, S, _, u, ao, ap, aq, (ag.stepN (ag.more (new := [(19, 68, pointer (some ⟨K, 2, none⟩))]) k (List.forall_mem_cons.2 ⟨n 19 z, (fun _ h => nomatch h)⟩)) z z), ec⟩))))⟩
 cases f.symm.trans b
 cases (n 20 rfl).symm.trans b
 rintro D r aU (⟨c, ab, u, k, p⟩ | ⟨b, c, F, ab, u, k, p⟩ | ⟨b, c, F, R, S, ab, u, ao, ap, aq, k, p⟩ | ⟨b, c, F, R, S, ab, u, ao, ap, aq, k, p⟩ | ⟨b, F, R, S, ab, u, ao, ap, aq, k, p⟩) f d n
 cases (d 3 rfl).symm.trans c
 cases (d 4 rfl).symm.trans c
 cases (d 18 rfl).symm.trans c
 obtain ⟨m, rfl⟩ := Has.ex (cC (k.ins.get 2 rfl) cN)
 exact fa dO z<|nl ⟨z, (.inr (.inr (.inr (.inl ⟨b, c, F, R, S, _, u, ao, ap, aq, (ag.step k f z z z z), p⟩))))⟩
 cases (n 20 rfl).symm.trans b
 rintro D r aU (⟨c, ab, u, k, p⟩ | ⟨b, c, F, ab, u, k, p⟩ | ⟨b, c, F, R, S, ab, u, ao, ap, aq, k, p⟩ | ⟨b, c, F, R, S, ab, u, ao, ap, aq, k, p⟩ | ⟨b, F, R, S, ab, u, ao, ap, aq, k, p⟩) f d n
 cases (d 3 rfl).symm.trans c
 cases (d 4 rfl).symm.trans c
 cases (d 18 rfl).symm.trans c
 obtain ⟨m, rfl⟩ := Has.ex (cC (k.get 10 rfl (d 12 rfl)) (cC (k.get 18 rfl (d 19 rfl)) cN))
 exact f5 p 2 bb z z z z z z z fun fX ed=>nl ⟨z, (.inr (.inr (.inr (.inr ⟨z, F, R, S, _, u, ao, ap, aq, (ag.stepN (ag.more (new := [(21, 5, bool (ay.getD (Int.toNat a) false))]) k (List.forall_mem_cons.2 ⟨n 21 z, (fun _ h => nomatch h)⟩)) z z), ed⟩))))⟩
 cases f.symm.trans b
 rintro D r aU (⟨c, ab, u, k, p⟩ | ⟨b, c, F, ab, u, k, p⟩ | ⟨b, c, F, R, S, ab, u, ao, ap, aq, k, p⟩ | ⟨b, c, F, R, S, ab, u, ao, ap, aq, k, p⟩ | ⟨b, F, R, S, ab, u, ao, ap, aq, k, p⟩) f d n
 cases (d 3 rfl).symm.trans c
 cases (d 4 rfl).symm.trans c
 cases (d 18 rfl).symm.trans c
 cases (d 20 rfl).symm.trans c
 obtain ⟨m, rfl⟩ := Has.ex (cC (k.get 14 rfl (d 16 rfl)) cN)
 exact aK z<|nl ⟨z, (.inr (.inr (.inr (.inr ⟨b, F, R, S, _, u, ao, ap, aq, (ag.step k f z z z z), p⟩))))⟩
 intro D r aU aR hR
 rcases hR with ⟨c, ab, u, k, p⟩ | ⟨b, c, F, ab, u, k, p⟩ | ⟨b, c, F, R, S, ab, u, ao, ap, aq, k, p⟩ | ⟨b, c, F, R, S, ab, u, ao, ap, aq, k, p⟩ | ⟨b, F, R, S, ab, u, ao, ap, aq, k, p⟩
 cases (aR 3 (Nat.le_of_ble_eq_true rfl)).symm.trans c
 cases (aR 4 (Nat.le_of_ble_eq_true rfl)).symm.trans c
 cases (aR 18 (Nat.le_of_ble_eq_true rfl)).symm.trans c
 cases (aR 20 (Nat.le_of_ble_eq_true rfl)).symm.trans c
 obtain ⟨m, rfl⟩ := Has.ex (cC (k.ins.get 0 rfl) (cC (k.ins.get 1 rfl) (cC (k.ins.get 2 rfl) (cC (k.get 19 rfl (aR 21 (Nat.le_of_ble_eq_true rfl))) (cC (k.ins.get 5 rfl) (cC (k.ins.get 6 rfl) (cC (k.ins.get 7 rfl) cN)))))))
 refine have ee:=Hp.pick 7 [2, 3, 4, 5, 6] p z;?_
 cases H
 exact ⟨z, aY, R, S, aI, aJ, _, z, u, ⟨z, z, z, z, z, z, z, tv⟩, ee, ao, ap, aq, bi, (Dat.mono u bj), bO, (hy.mono u bP), tv⟩
 refine nK b7 H fun H=>wf (bN b7)<|ws<|cX _ _ _<|iK H fun fY H=>iK H fun⟨bA, bC⟩H=>?_
 obtain ⟨cb, fZ, cc, ef, f0, cd⟩ := Dat.get (Dat.mono a7 ch) false (a) bA bC
 obtain rfl := ef
 refine aM [0, 1, 0, 4, 15, 0, 32, 0, 128, 0, 512, 1920, 4064, 0, 0, 24576, 57344, 127, 131199, 401407, 925695, 2097151] (fun D r w => (D 3 = false ∧ ∃ (G' : Gh), aX ≤ G' ∧ ag [(0, func (.yield yl) #[] #[]), (2, pointer (some ⟨g9, 0, none⟩)), (4, pointer (some ⟨K, 0, none⟩)), (6, int .i64 a), (7, pointer (some ⟨ax, 0, none⟩)), (8, slice A4 a3.length c5), (9, int .i64 (a3.length : Int)), (10, int .i64 a)] [] [(0, 50, pointer (some ⟨K, 0, none⟩)), (1, 51, slice aL az.length aN), (2, 52, agg [int .i64 ((a3.getD (Int.toNat a) aa).Node), int .i64 ((a3.getD (Int.toNat a) aa).Table), int .i64 ((a3.getD (Int.toNat a) aa).X), int .i64 ((a3.getD (Int.toNat a) aa).Y), int .i64 ((a3.getD (Int.toNat a) aa).H), string ((a3.getD (Int.toNat a) aa).Text), bool ((a3.getD (Int.toNat a) aa).Head), bool ((a3.getD (Int.toNat a) aa).Note)].toArray), (5, 55, pointer (some ⟨K, 2, none⟩)), (6, 56, int .i64 aW), (7, 57, pointer (some ⟨ax, 3, none⟩)), (8, 58, int .i64 ((a3.getD (Int.toNat a) aa).Y)), (9, 59, pointer (some ⟨ax, 4, none⟩)), (10, 60, int .i64 ((a3.getD (Int.toNat a) aa).H)), (11, 61, int .i64 (aj (((a3.getD (Int.toNat a) aa).Y) + ((a3.getD (Int.toNat a) aa).H)))), (12, 62, int .i64 (max aW (aj (((a3.getD (Int.toNat a) aa).Y) + ((a3.getD (Int.toNat a) aa).H))))), (13, 63, slice aE ay.length aG), (14, 64, int .i64 a), (15, 65, pointer (some (cb.add (Int.toNat a * 1)))), (16, 66, bool (ay.getD (Int.toNat a) false))] D r ∧ Hp G' (bx ax [int .i64 ((a3.getD (Int.toNat a) aa).Node), int .i64 ((a3.getD (Int.toNat a) aa).Table), int .i64 ((a3.getD (Int.toNat a) aa).X), int .i64 ((a3.getD (Int.toNat a) aa).Y), int .i64 ((a3.getD (Int.toNat a) aa).H), string ((a3.getD (Int.toNat a) aa).Text), bool ((a3.getD (Int.toNat a) aa).Head), bool ((a3.getD (Int.toNat a) aa).Note)] 36 :: bx K [slice aL az.length aN, slice aI aO.length aJ, int .i64 aW] 64 :: bx g2 [slice A4 a3.length c5] 24 :: bx g9 [slice aE ay.length aG] 25 :: tk (slice aL az.length aN) 8 36 :: tk (slice aI aO.length aJ) 8 36 :: aY) w) ∨ (D 3 = true ∧ D 4 = false ∧ ∃ (J : Nat) (G' : Gh), aX ≤ G' ∧ ag [(0, func (.yield yl) #[] #[]), (2, pointer (some ⟨g9, 0, none⟩)), (4, pointer (some ⟨K, 0, none⟩)), (6, int .i64 a), (7, pointer (some ⟨ax, 0, none⟩)), (8, slice A4 a3.length c5), (9, int .i64 (a3.length : Int)), (10, int .i64 a)] [] [(0, 50, pointer (some ⟨K, 0, none⟩)), (1, 51, slice aL az.length aN), (2, 52, agg [int .i64 ((a3.getD (Int.toNat a) aa).Node), int .i64 ((a3.getD (Int.toNat a) aa).Table), int .i64 ((a3.getD (Int.toNat a) aa).X), int .i64 ((a3.getD (Int.toNat a) aa).Y), int .i64 ((a3.getD (Int.toNat a) aa).H), string ((a3.getD (Int.toNat a) aa).Text), bool ((a3.getD (Int.toNat a) aa).Head), bool ((a3.getD (Int.toNat a) aa).Note)].toArray), (5, 55, pointer (some ⟨K, 2, none⟩)), (6, 56, int .i64 aW), (7, 57, pointer (some ⟨ax, 3, none⟩)), (8, 58, int .i64 ((a3.getD (Int.toNat a) aa).Y)), (9, 59, pointer (some ⟨ax, 4, none⟩)), (10, 60, int .i64 ((a3.getD (Int.toNat a) aa).H)), (11, 61, int .i64 (aj (((a3.getD (Int.toNat a) aa).Y) + ((a3.getD (Int.toNat a) aa).H)))), (12, 62, int .i64 (max aW (aj (((a3.getD (Int.toNat a) aa).Y) + ((a3.getD (Int.toNat a) aa).H))))), (13, 63, slice aE ay.length aG), (14, 64, int .i64 a), (15, 65, pointer (some (cb.add (Int.toNat a * 1)))), (16, 66, bool (ay.getD (Int.toNat a) false)), (3, 53, slice (some ⟨J, 0, none⟩) 1 1)] D r ∧ Hp G' (bx J [int .i64 ((a3.getD (Int.toNat a) aa).Node), int .i64 ((a3.getD (Int.toNat a) aa).Table), int .i64 ((a3.getD (Int.toNat a) aa).X), int .i64 ((a3.getD (Int.toNat a) aa).Y), int .i64 ((a3.getD (Int.toNat a) aa).H), string ((a3.getD (Int.toNat a) aa).Text), bool ((a3.getD (Int.toNat a) aa).Head), bool ((a3.getD (Int.toNat a) aa).Note)] 36 :: bx ax [int .i64 ((a3.getD (Int.toNat a) aa).Node), int .i64 ((a3.getD (Int.toNat a) aa).Table), int .i64 ((a3.getD (Int.toNat a) aa).X), int .i64 ((a3.getD (Int.toNat a) aa).Y), int .i64 ((a3.getD (Int.toNat a) aa).H), string ((a3.getD (Int.toNat a) aa).Text), bool ((a3.getD (Int.toNat a) aa).Head), bool ((a3.getD (Int.toNat a) aa).Note)] 36 :: bx K [slice aL az.length aN, slice aI aO.length aJ, int .i64 aW] 64 :: bx g2 [slice A4 a3.length c5] 24 :: bx g9 [slice aE ay.length aG] 25 :: tk (slice aL az.length aN) 8 36 :: tk (slice aI aO.length aJ) 8 36 :: aY) w) ∨ (D 4 = true ∧ D 18 = false ∧ ∃ (J : Nat) (U : Option Addr) (V : Nat) (G' : Gh), aX ≤ G' ∧ (az ++ [(a3.getD (Int.toNat a) aa)]).length ≤ V ∧ Dat ah G' U (az ++ [(a3.getD (Int.toNat a) aa)]) ∧ Own U V ∧ ag [(0, func (.yield yl) #[] #[]), (2, pointer (some ⟨g9, 0, none⟩)), (4, pointer (some ⟨K, 0, none⟩)), (6, int .i64 a), (7, pointer (some ⟨ax, 0, none⟩)), (8, slice A4 a3.length c5), (9, int .i64 (a3.length : Int)), (10, int .i64 a)] [] [(0, 50, pointer (some ⟨K, 0, none⟩)), (1, 51, slice aL az.length aN), (2, 52, agg [int .i64 ((a3.getD (Int.toNat a) aa).Node), int .i64 ((a3.getD (Int.toNat a) aa).Table), int .i64 ((a3.getD (Int.toNat a) aa).X), int .i64 ((a3.getD (Int.toNat a) aa).Y), int .i64 ((a3.getD (Int.toNat a) aa).H), string ((a3.getD (Int.toNat a) aa).Text), bool ((a3.getD (Int.toNat a) aa).Head), bool ((a3.getD (Int.toNat a) aa).Note)].toArray), (5, 55, pointer (some ⟨K, 2, none⟩)), (6, 56, int .i64 aW), (7, 57, pointer (some ⟨ax, 3, none⟩)), (8, 58, int .i64 ((a3.getD (Int.toNat a) aa).Y)), (9, 59, pointer (some ⟨ax, 4, none⟩)), (10, 60, int .i64 ((a3.getD (Int.toNat a) aa).H)), (11, 61, int .i64 (aj (((a3.getD (Int.toNat a) aa).Y) + ((a3.getD (Int.toNat a) aa).H)))), (12, 62, int .i64 (max aW (aj (((a3.getD (Int.toNat a) aa).Y) + ((a3.getD (Int.toNat a) aa).H))))), (13, 63, slice aE ay.length aG), (14, 64, int .i64 a), (15, 65, pointer (some (cb.add (Int.toNat a * 1)))), (16, 66, bool (ay.getD (Int.toNat a) false)), (3, 53, slice (some ⟨J, 0, none⟩) 1 1), (4, 54, slice U (az ++ [(a3.getD (Int.toNat a) aa)]).length V), (17, 67, pointer (some ⟨K, 0, none⟩))] D r ∧ Hp G' (bx J [int .i64 ((a3.getD (Int.toNat a) aa).Node), int .i64 ((a3.getD (Int.toNat a) aa).Table), int .i64 ((a3.getD (Int.toNat a) aa).X), int .i64 ((a3.getD (Int.toNat a) aa).Y), int .i64 ((a3.getD (Int.toNat a) aa).H), string ((a3.getD (Int.toNat a) aa).Text), bool ((a3.getD (Int.toNat a) aa).Head), bool ((a3.getD (Int.toNat a) aa).Note)] 36 :: bx ax [int .i64 ((a3.getD (Int.toNat a) aa).Node), int .i64 ((a3.getD (Int.toNat a) aa).Table), int .i64 ((a3.getD (Int.toNat a) aa).X), int .i64 ((a3.getD (Int.toNat a) aa).Y), int .i64 ((a3.getD (Int.toNat a) aa).H), string ((a3.getD (Int.toNat a) aa).Text), bool ((a3.getD (Int.toNat a) aa).Head), bool ((a3.getD (Int.toNat a) aa).Note)] 36 :: bx K [slice aL az.length aN, slice aI aO.length aJ, int .i64 aW] 64 :: bx g2 [slice A4 a3.length c5] 24 :: bx g9 [slice aE ay.length aG] 25 :: tk (slice U (az ++ [(a3.getD (Int.toNat a) aa)]).length V) 8 36 :: tk (slice aI aO.length aJ) 8 36 :: aY) w) ∨ (D 18 = true ∧ D 20 = false ∧ ∃ (J : Nat) (U : Option Addr) (V : Nat) (G' : Gh), aX ≤ G' ∧ (az ++ [(a3.getD (Int.toNat a) aa)]).length ≤ V ∧ Dat ah G' U (az ++ [(a3.getD (Int.toNat a) aa)]) ∧ Own U V ∧ ag [(0, func (.yield yl) #[] #[]), (2, pointer (some ⟨g9, 0, none⟩)), (4, pointer (some ⟨K, 0, none⟩)), (6, int .i64 a), (7, pointer (some ⟨ax, 0, none⟩)), (8, slice A4 a3.length c5), (9, int .i64 (a3.length : Int)), (10, int .i64 a)] [] [(0, 50, pointer (some ⟨K, 0, none⟩)), (1, 51, slice aL az.length aN), (2, 52, agg [int .i64 ((a3.getD (Int.toNat a) aa).Node), int .i64 ((a3.getD (Int.toNat a) aa).Table), int .i64 ((a3.getD (Int.toNat a) aa).X), int .i64 ((a3.getD (Int.toNat a) aa).Y), int .i64 ((a3.getD (Int.toNat a) aa).H), string ((a3.getD (Int.toNat a) aa).Text), bool ((a3.getD (Int.toNat a) aa).Head), bool ((a3.getD (Int.toNat a) aa).Note)].toArray), (5, 55, pointer (some ⟨K, 2, none⟩)), (6, 56, int .i64 aW), (7, 57, pointer (some ⟨ax, 3, none⟩)), (8, 58, int .i64 ((a3.getD (Int.toNat a) aa).Y)), (9, 59, pointer (some ⟨ax, 4, none⟩)), (10, 60, int .i64 ((a3.getD (Int.toNat a) aa).H)), (11, 61, int .i64 (aj (((a3.getD (Int.toNat a) aa).Y) + ((a3.getD (Int.toNat a) aa).H)))), (12, 62, int .i64 (max aW (aj (((a3.getD (Int.toNat a) aa).Y) + ((a3.getD (Int.toNat a) aa).H))))), (13, 63, slice aE ay.length aG), (14, 64, int .i64 a), (15, 65, pointer (some (cb.add (Int.toNat a * 1)))), (16, 66, bool (ay.getD (Int.toNat a) false)), (3, 53, slice (some ⟨J, 0, none⟩) 1 1), (4, 54, slice U (az ++ [(a3.getD (Int.toNat a) aa)]).length V), (17, 67, pointer (some ⟨K, 0, none⟩)), (19, 68, pointer (some ⟨K, 2, none⟩))] D r ∧ Hp G' (bx J [int .i64 ((a3.getD (Int.toNat a) aa).Node), int .i64 ((a3.getD (Int.toNat a) aa).Table), int .i64 ((a3.getD (Int.toNat a) aa).X), int .i64 ((a3.getD (Int.toNat a) aa).Y), int .i64 ((a3.getD (Int.toNat a) aa).H), string ((a3.getD (Int.toNat a) aa).Text), bool ((a3.getD (Int.toNat a) aa).Head), bool ((a3.getD (Int.toNat a) aa).Note)] 36 :: bx ax [int .i64 ((a3.getD (Int.toNat a) aa).Node), int .i64 ((a3.getD (Int.toNat a) aa).Table), int .i64 ((a3.getD (Int.toNat a) aa).X), int .i64 ((a3.getD (Int.toNat a) aa).Y), int .i64 ((a3.getD (Int.toNat a) aa).H), string ((a3.getD (Int.toNat a) aa).Text), bool ((a3.getD (Int.toNat a) aa).Head), bool ((a3.getD (Int.toNat a) aa).Note)] 36 :: bx K [slice U (az ++ [(a3.getD (Int.toNat a) aa)]).length V, slice aI aO.length aJ, int .i64 aW] 64 :: bx g2 [slice A4 a3.length c5] 24 :: bx g9 [slice aE ay.length aG] 25 :: tk (slice U (az ++ [(a3.getD (Int.toNat a) aa)]).length V) 8 36 :: tk (slice aI aO.length aJ) 8 36 :: aY) w) ∨ (D 20 = true ∧ ∃ (J : Nat) (U : Option Addr) (V : Nat) (G' : Gh), aX ≤ G' ∧ (az ++ [(a3.getD (Int.toNat a) aa)]).length ≤ V ∧ Dat ah G' U (az ++ [(a3.getD (Int.toNat a) aa)]) ∧ Own U V ∧ ag [(0, func (.yield yl) #[] #[]), (2, pointer (some ⟨g9, 0, none⟩)), (4, pointer (some ⟨K, 0, none⟩)), (6, int .i64 a), (7, pointer (some ⟨ax, 0, none⟩)), (8, slice A4 a3.length c5), (9, int .i64 (a3.length : Int)), (10, int .i64 a)] [] [(0, 50, pointer (some ⟨K, 0, none⟩)), (1, 51, slice aL az.length aN), (2, 52, agg [int .i64 ((a3.getD (Int.toNat a) aa).Node), int .i64 ((a3.getD (Int.toNat a) aa).Table), int .i64 ((a3.getD (Int.toNat a) aa).X), int .i64 ((a3.getD (Int.toNat a) aa).Y), int .i64 ((a3.getD (Int.toNat a) aa).H), string ((a3.getD (Int.toNat a) aa).Text), bool ((a3.getD (Int.toNat a) aa).Head), bool ((a3.getD (Int.toNat a) aa).Note)].toArray), (5, 55, pointer (some ⟨K, 2, none⟩)), (6, 56, int .i64 aW), (7, 57, pointer (some ⟨ax, 3, none⟩)), (8, 58, int .i64 ((a3.getD (Int.toNat a) aa).Y)), (9, 59, pointer (some ⟨ax, 4, none⟩)), (10, 60, int .i64 ((a3.getD (Int.toNat a) aa).H)), (11, 61, int .i64 (aj (((a3.getD (Int.toNat a) aa).Y) + ((a3.getD (Int.toNat a) aa).H)))), (12, 62, int .i64 (max aW (aj (((a3.getD (Int.toNat a) aa).Y) + ((a3.getD (Int.toNat a) aa).H))))), (13, 63, slice aE ay.length aG), (14, 64, int .i64 a), (15, 65, pointer (some (cb.add (Int.toNat a * 1)))), (16, 66, bool (ay.getD (Int.toNat a) false)), (3, 53, slice (some ⟨J, 0, none⟩) 1 1), (4, 54, slice U (az ++ [(a3.getD (Int.toNat a) aa)]).length V), (17, 67, pointer (some ⟨K, 0, none⟩)), (19, 68, pointer (some ⟨K, 2, none⟩)), (21, 5, bool (ay.getD (Int.toNat a) false))] D r ∧ Hp G' (bx J [int .i64 ((a3.getD (Int.toNat a) aa).Node), int .i64 ((a3.getD (Int.toNat a) aa).Table), int .i64 ((a3.getD (Int.toNat a) aa).X), int .i64 ((a3.getD (Int.toNat a) aa).Y), int .i64 ((a3.getD (Int.toNat a) aa).H), string ((a3.getD (Int.toNat a) aa).Text), bool ((a3.getD (Int.toNat a) aa).Head), bool ((a3.getD (Int.toNat a) aa).Note)] 36 :: bx ax [int .i64 ((a3.getD (Int.toNat a) aa).Node), int .i64 ((a3.getD (Int.toNat a) aa).Table), int .i64 ((a3.getD (Int.toNat a) aa).X), int .i64 ((a3.getD (Int.toNat a) aa).Y), int .i64 ((a3.getD (Int.toNat a) aa).H), string ((a3.getD (Int.toNat a) aa).Text), bool ((a3.getD (Int.toNat a) aa).Head), bool ((a3.getD (Int.toNat a) aa).Note)] 36 :: bx K [slice U (az ++ [(a3.getD (Int.toNat a) aa)]).length V, slice aI aO.length aJ, int .i64 (max aW (aj (((a3.getD (Int.toNat a) aa).Y) + ((a3.getD (Int.toNat a) aa).H))))] 64 :: bx g2 [slice A4 a3.length c5] 24 :: bx g9 [slice aE ay.length aG] 25 :: tk (slice U (az ++ [(a3.getD (Int.toNat a) aa)]).length V) 8 36 :: tk (slice aI aO.length aJ) 8 36 :: aY) w)) dJ z z ?_ ?_ ?_
 exact (.inl ⟨z, _, Gh.le_refl _, ag.start ⟨z, z, z, z, z, z, z, z, tv⟩ trivial, br.drew⟩)
 refine ⟨?_, ?_, ?_, ?_, ?_, ?_, ?_, ?_, ?_, ?_, ?_, ?_, ?_, ?_, ?_, ?_, ?_, ?_, ?_, ?_, ?_, ?_, tv⟩
 rintro D r aV (⟨c, ad, y, l, q⟩ | ⟨b, c, J, ad, y, l, q⟩ | ⟨b, c, J, U, V, ad, y, ar, au, av, l, q⟩ | ⟨b, c, J, U, V, ad, y, ar, au, av, l, q⟩ | ⟨b, J, U, V, ad, y, ar, au, av, l, q⟩) f d n
 obtain ⟨m, rfl⟩ := Has.ex (cC (l.ins.get 2 rfl) cN)
 exact fa dw z<|nl ⟨z, (.inl ⟨c, _, y, (ag.step l f z z z z), q⟩)⟩
 obtain ⟨m, rfl⟩ := Has.ex (cC (l.ins.get 2 rfl) cN)
 exact fa dw z<|nl ⟨z, (.inr (.inl ⟨b, c, J, _, y, (ag.step l f z z z z), q⟩))⟩
 cases (n 4 rfl).symm.trans b
 cases (n 18 rfl).symm.trans b
 cases (n 20 rfl).symm.trans b
 rintro D r aV (⟨c, ad, y, l, q⟩ | ⟨b, c, J, ad, y, l, q⟩ | ⟨b, c, J, U, V, ad, y, ar, au, av, l, q⟩ | ⟨b, c, J, U, V, ad, y, ar, au, av, l, q⟩ | ⟨b, J, U, V, ad, y, ar, au, av, l, q⟩) f d n
 obtain ⟨m, rfl⟩ := Has.ex (cC (l.get 0 rfl (d 0 rfl)) cN)
 exact ld q 1 cB z z z<|nl ⟨z, (.inl ⟨c, _, y, (ag.step l f z z z z), q⟩)⟩
 obtain ⟨m, rfl⟩ := Has.ex (cC (l.get 0 rfl (d 0 rfl)) cN)
 exact ld q 2 cB z z z<|nl ⟨z, (.inr (.inl ⟨b, c, J, _, y, (ag.step l f z z z z), q⟩))⟩
 cases (n 4 rfl).symm.trans b
 cases (n 18 rfl).symm.trans b
 cases (n 20 rfl).symm.trans b
 rintro D r aV (⟨c, ad, y, l, q⟩ | ⟨b, c, J, ad, y, l, q⟩ | ⟨b, c, J, U, V, ad, y, ar, au, av, l, q⟩ | ⟨b, c, J, U, V, ad, y, ar, au, av, l, q⟩ | ⟨b, J, U, V, ad, y, ar, au, av, l, q⟩) f d n
 obtain ⟨m, rfl⟩ := Has.ex (cC (l.ins.get 4 rfl) cN)
 exact gg q 0 dx z z z z<|nl ⟨z, (.inl ⟨c, _, y, (ag.step l f z z z z), q⟩)⟩
 cases (n 3 rfl).symm.trans b
 cases (n 4 rfl).symm.trans b
 cases (n 18 rfl).symm.trans b
 cases (n 20 rfl).symm.trans b
 rintro D r aV (⟨c, ad, y, l, q⟩ | ⟨b, c, J, ad, y, l, q⟩ | ⟨b, c, J, U, V, ad, y, ar, au, av, l, q⟩ | ⟨b, c, J, U, V, ad, y, ar, au, av, l, q⟩ | ⟨b, J, U, V, ad, y, ar, au, av, l, q⟩) f d n
 obtain ⟨m, rfl⟩ := Has.ex (cC (l.get 2 rfl (d 2 rfl)) cN)
 refine eh q (vs := [(0, agg [int .i64 ((a3.getD (Int.toNat a) aa).Node), int .i64 ((a3.getD (Int.toNat a) aa).Table), int .i64 ((a3.getD (Int.toNat a) aa).X), int .i64 ((a3.getD (Int.toNat a) aa).Y), int .i64 ((a3.getD (Int.toNat a) aa).H), string ((a3.getD (Int.toNat a) aa).Text), bool ((a3.getD (Int.toNat a) aa).Head), bool ((a3.getD (Int.toNat a) aa).Note)].toArray)]) (cs := [int .i64 ((a3.getD (Int.toNat a) aa).Node), int .i64 ((a3.getD (Int.toNat a) aa).Table), int .i64 ((a3.getD (Int.toNat a) aa).X), int .i64 ((a3.getD (Int.toNat a) aa).Y), int .i64 ((a3.getD (Int.toNat a) aa).H), string ((a3.getD (Int.toNat a) aa).Text), bool ((a3.getD (Int.toNat a) aa).Head), bool ((a3.getD (Int.toNat a) aa).Note)]) cA cP rfl (by decide) rfl (by kernel_rfl) (fun J f1 eg => ?_)
 exact nl ⟨z, (.inr (.inl ⟨z, (n 4 z), J, _, y, (ag.step (ag.more (new := [(3, 53, slice (some ⟨J, 0, none⟩) 1 1)]) l (List.forall_mem_cons.2 ⟨f, (fun _ h => nomatch h)⟩)) f z z z z), eg⟩))⟩
 cases f.symm.trans b
 cases (n 4 rfl).symm.trans b
 cases (n 18 rfl).symm.trans b
 cases (n 20 rfl).symm.trans b
 rintro D r aV (⟨c, ad, y, l, q⟩ | ⟨b, c, J, ad, y, l, q⟩ | ⟨b, c, J, U, V, ad, y, ar, au, av, l, q⟩ | ⟨b, c, J, U, V, ad, y, ar, au, av, l, q⟩ | ⟨b, J, U, V, ad, y, ar, au, av, l, q⟩) f d n
 cases (d 3 rfl).symm.trans c
 obtain ⟨m, rfl⟩ := Has.ex (cC (l.get 1 rfl (d 1 rfl)) (cC (l.get 15 rfl (d 3 rfl)) cN))
 refine fx (xs := az) (ys := [(a3.getD (Int.toNat a) aa)]) ah q 5 cA cP rfl rfl rfl rfl bM bg (Dat.mono y bh) (dU q 0 dA rfl rfl) ⟨[int .i64 ((a3.getD (Int.toNat a) aa).Node), int .i64 ((a3.getD (Int.toNat a) aa).Table), int .i64 ((a3.getD (Int.toNat a) aa).X), int .i64 ((a3.getD (Int.toNat a) aa).Y), int .i64 ((a3.getD (Int.toNat a) aa).H), string ((a3.getD (Int.toNat a) aa).Text), bool ((a3.getD (Int.toNat a) aa).Head), bool ((a3.getD (Int.toNat a) aa).Note)], _, rfl, (aH (x := (a3.getD (Int.toNat a) aa))), rfl⟩ rfl (by simp only [List.length_cons, List.length_nil]; omega) (by simp only [List.length_cons, List.length_nil]; omega) (fun U V f2 f3 ej av ar au ek => ?_)
 exact nl ⟨z, (.inr (.inr (.inl ⟨z, (n 18 z), J, U, V, _, (gT y ej), ar, au, av, (ag.step (ag.more (new := [(4, 54, slice U (az ++ [(a3.getD (Int.toNat a) aa)]).length V), (17, 67, pointer (some ⟨K, 0, none⟩))]) l (List.forall_mem_cons.2 ⟨f, (List.forall_mem_cons.2 ⟨n 17 z, (fun _ h => nomatch h)⟩)⟩)) f z z z z), ek⟩)))⟩
 cases f.symm.trans b
 cases (n 18 rfl).symm.trans b
 cases (n 20 rfl).symm.trans b
 rintro D r aV (⟨c, ad, y, l, q⟩ | ⟨b, c, J, ad, y, l, q⟩ | ⟨b, c, J, U, V, ad, y, ar, au, av, l, q⟩ | ⟨b, c, J, U, V, ad, y, ar, au, av, l, q⟩ | ⟨b, J, U, V, ad, y, ar, au, av, l, q⟩) f d n
 obtain ⟨m, rfl⟩ := Has.ex (cC (l.ins.get 2 rfl) cN)
 exact fa dO z<|nl ⟨z, (.inl ⟨c, _, y, (ag.step l f z z z z), q⟩)⟩
 obtain ⟨m, rfl⟩ := Has.ex (cC (l.ins.get 2 rfl) cN)
 exact fa dO z<|nl ⟨z, (.inr (.inl ⟨b, c, J, _, y, (ag.step l f z z z z), q⟩))⟩
 obtain ⟨m, rfl⟩ := Has.ex (cC (l.ins.get 2 rfl) cN)
 exact fa dO z<|nl ⟨z, (.inr (.inr (.inl ⟨b, c, J, U, V, _, y, ar, au, av, (ag.step l f z z z z), q⟩)))⟩
 cases (n 18 rfl).symm.trans b
 cases (n 20 rfl).symm.trans b
 rintro D r aV (⟨c, ad, y, l, q⟩ | ⟨b, c, J, ad, y, l, q⟩ | ⟨b, c, J, U, V, ad, y, ar, au, av, l, q⟩ | ⟨b, c, J, U, V, ad, y, ar, au, av, l, q⟩ | ⟨b, J, U, V, ad, y, ar, au, av, l, q⟩) f d n
 obtain ⟨m, rfl⟩ := Has.ex (cC (l.get 3 rfl (d 5 rfl)) cN)
 exact ld q 1 bb z z z<|nl ⟨z, (.inl ⟨c, _, y, (ag.step l f z z z z), q⟩)⟩
 obtain ⟨m, rfl⟩ := Has.ex (cC (l.get 3 rfl (d 5 rfl)) cN)
 exact ld q 2 bb z z z<|nl ⟨z, (.inr (.inl ⟨b, c, J, _, y, (ag.step l f z z z z), q⟩))⟩
 obtain ⟨m, rfl⟩ := Has.ex (cC (l.get 3 rfl (d 5 rfl)) cN)
 exact ld q 2 bb z z z<|nl ⟨z, (.inr (.inr (.inl ⟨b, c, J, U, V, _, y, ar, au, av, (ag.step l f z z z z), q⟩)))⟩
 cases (n 18 rfl).symm.trans b
 cases (n 20 rfl).symm.trans b
 rintro D r aV (⟨c, ad, y, l, q⟩ | ⟨b, c, J, ad, y, l, q⟩ | ⟨b, c, J, U, V, ad, y, ar, au, av, l, q⟩ | ⟨b, c, J, U, V, ad, y, ar, au, av, l, q⟩ | ⟨b, J, U, V, ad, y, ar, au, av, l, q⟩) f d n
 obtain ⟨m, rfl⟩ := Has.ex (cC (l.ins.get 4 rfl) cN)
 exact fa bn z<|nl ⟨z, (.inl ⟨c, _, y, (ag.step l f z z z z), q⟩)⟩
 obtain ⟨m, rfl⟩ := Has.ex (cC (l.ins.get 4 rfl) cN)
 exact fa bn z<|nl ⟨z, (.inr (.inl ⟨b, c, J, _, y, (ag.step l f z z z z), q⟩))⟩
 obtain ⟨m, rfl⟩ := Has.ex (cC (l.ins.get 4 rfl) cN)
 exact fa bn z<|nl ⟨z, (.inr (.inr (.inl ⟨b, c, J, U, V, _, y, ar, au, av, (ag.step l f z z z z), q⟩)))⟩
 obtain ⟨m, rfl⟩ := Has.ex (cC (l.ins.get 4 rfl) cN)
 exact fa bn z<|nl ⟨z, (.inr (.inr (.inr (.inl ⟨b, c, J, U, V, _, y, ar, au, av, (ag.step l f z z z z), q⟩))))⟩
 cases (n 20 rfl).symm.trans b
 rintro D r aV (⟨c, ad, y, l, q⟩ | ⟨b, c, J, ad, y, l, q⟩ | ⟨b, c, J, U, V, ad, y, ar, au, av, l, q⟩ | ⟨b, c, J, U, V, ad, y, ar, au, av, l, q⟩ | ⟨b, J, U, V, ad, y, ar, au, av, l, q⟩) f d n
 obtain ⟨m, rfl⟩ := Has.ex (cC (l.get 5 rfl (d 7 rfl)) cN)
 exact ld q 0 bb z z z<|nl ⟨z, (.inl ⟨c, _, y, (ag.step l f z z z z), q⟩)⟩
 obtain ⟨m, rfl⟩ := Has.ex (cC (l.get 5 rfl (d 7 rfl)) cN)
 exact ld q 1 bb z z z<|nl ⟨z, (.inr (.inl ⟨b, c, J, _, y, (ag.step l f z z z z), q⟩))⟩
 obtain ⟨m, rfl⟩ := Has.ex (cC (l.get 5 rfl (d 7 rfl)) cN)
 exact ld q 1 bb z z z<|nl ⟨z, (.inr (.inr (.inl ⟨b, c, J, U, V, _, y, ar, au, av, (ag.step l f z z z z), q⟩)))⟩
 obtain ⟨m, rfl⟩ := Has.ex (cC (l.get 5 rfl (d 7 rfl)) cN)
 exact ld q 1 bb z z z<|nl ⟨z, (.inr (.inr (.inr (.inl ⟨b, c, J, U, V, _, y, ar, au, av, (ag.step l f z z z z), q⟩))))⟩
 cases (n 20 rfl).symm.trans b
 rintro D r aV (⟨c, ad, y, l, q⟩ | ⟨b, c, J, ad, y, l, q⟩ | ⟨b, c, J, U, V, ad, y, ar, au, av, l, q⟩ | ⟨b, c, J, U, V, ad, y, ar, au, av, l, q⟩ | ⟨b, J, U, V, ad, y, ar, au, av, l, q⟩) f d n
 obtain ⟨m, rfl⟩ := Has.ex (cC (l.ins.get 4 rfl) cN)
 exact fa cm z<|nl ⟨z, (.inl ⟨c, _, y, (ag.step l f z z z z), q⟩)⟩
 obtain ⟨m, rfl⟩ := Has.ex (cC (l.ins.get 4 rfl) cN)
 exact fa cm z<|nl ⟨z, (.inr (.inl ⟨b, c, J, _, y, (ag.step l f z z z z), q⟩))⟩
 obtain ⟨m, rfl⟩ := Has.ex (cC (l.ins.get 4 rfl) cN)
 exact fa cm z<|nl ⟨z, (.inr (.inr (.inl ⟨b, c, J, U, V, _, y, ar, au, av, (ag.step l f z z z z), q⟩)))⟩
 obtain ⟨m, rfl⟩ := Has.ex (cC (l.ins.get 4 rfl) cN)
 exact fa cm z<|nl ⟨z, (.inr (.inr (.inr (.inl ⟨b, c, J, U, V, _, y, ar, au, av, (ag.step l f z z z z), q⟩))))⟩
 cases (n 20 rfl).symm.trans b
 rintro D r aV (⟨c, ad, y, l, q⟩ | ⟨b, c, J, ad, y, l, q⟩ | ⟨b, c, J, U, V, ad, y, ar, au, av, l, q⟩ | ⟨b, c, J, U, V, ad, y, ar, au, av, l, q⟩ | ⟨b, J, U, V, ad, y, ar, au, av, l, q⟩) f d n
 obtain ⟨m, rfl⟩ := Has.ex (cC (l.get 7 rfl (d 9 rfl)) cN)
 exact ld q 0 bb z z z<|nl ⟨z, (.inl ⟨c, _, y, (ag.step l f z z z z), q⟩)⟩
 obtain ⟨m, rfl⟩ := Has.ex (cC (l.get 7 rfl (d 9 rfl)) cN)
 exact ld q 1 bb z z z<|nl ⟨z, (.inr (.inl ⟨b, c, J, _, y, (ag.step l f z z z z), q⟩))⟩
 obtain ⟨m, rfl⟩ := Has.ex (cC (l.get 7 rfl (d 9 rfl)) cN)
 exact ld q 1 bb z z z<|nl ⟨z, (.inr (.inr (.inl ⟨b, c, J, U, V, _, y, ar, au, av, (ag.step l f z z z z), q⟩)))⟩
 obtain ⟨m, rfl⟩ := Has.ex (cC (l.get 7 rfl (d 9 rfl)) cN)
 exact ld q 1 bb z z z<|nl ⟨z, (.inr (.inr (.inr (.inl ⟨b, c, J, U, V, _, y, ar, au, av, (ag.step l f z z z z), q⟩))))⟩
 cases (n 20 rfl).symm.trans b
 rintro D r aV (⟨c, ad, y, l, q⟩ | ⟨b, c, J, ad, y, l, q⟩ | ⟨b, c, J, U, V, ad, y, ar, au, av, l, q⟩ | ⟨b, c, J, U, V, ad, y, ar, au, av, l, q⟩ | ⟨b, J, U, V, ad, y, ar, au, av, l, q⟩) f d n
 obtain ⟨m, rfl⟩ := Has.ex (cC (l.get 6 rfl (d 8 rfl)) (cC (l.get 8 rfl (d 10 rfl)) cN))
 exact bm z z<|nl ⟨z, (.inl ⟨c, _, y, (ag.step l f z z z z), q⟩)⟩
 obtain ⟨m, rfl⟩ := Has.ex (cC (l.get 6 rfl (d 8 rfl)) (cC (l.get 8 rfl (d 10 rfl)) cN))
 exact bm z z<|nl ⟨z, (.inr (.inl ⟨b, c, J, _, y, (ag.step l f z z z z), q⟩))⟩
 obtain ⟨m, rfl⟩ := Has.ex (cC (l.get 6 rfl (d 8 rfl)) (cC (l.get 8 rfl (d 10 rfl)) cN))
 exact bm z z<|nl ⟨z, (.inr (.inr (.inl ⟨b, c, J, U, V, _, y, ar, au, av, (ag.step l f z z z z), q⟩)))⟩
 obtain ⟨m, rfl⟩ := Has.ex (cC (l.get 6 rfl (d 8 rfl)) (cC (l.get 8 rfl (d 10 rfl)) cN))
 exact bm z z<|nl ⟨z, (.inr (.inr (.inr (.inl ⟨b, c, J, U, V, _, y, ar, au, av, (ag.step l f z z z z), q⟩))))⟩
 cases (n 20 rfl).symm.trans b
 rintro D r aV (⟨c, ad, y, l, q⟩ | ⟨b, c, J, ad, y, l, q⟩ | ⟨b, c, J, U, V, ad, y, ar, au, av, l, q⟩ | ⟨b, c, J, U, V, ad, y, ar, au, av, l, q⟩ | ⟨b, J, U, V, ad, y, ar, au, av, l, q⟩) f d n
 obtain ⟨m, rfl⟩ := Has.ex (cC (l.get 4 rfl (d 6 rfl)) (cC (l.get 9 rfl (d 11 rfl)) cN))
 exact dR z z<|nl ⟨z, (.inl ⟨c, _, y, (ag.step l f z z z z), q⟩)⟩
 obtain ⟨m, rfl⟩ := Has.ex (cC (l.get 4 rfl (d 6 rfl)) (cC (l.get 9 rfl (d 11 rfl)) cN))
 exact dR z z<|nl ⟨z, (.inr (.inl ⟨b, c, J, _, y, (ag.step l f z z z z), q⟩))⟩
 obtain ⟨m, rfl⟩ := Has.ex (cC (l.get 4 rfl (d 6 rfl)) (cC (l.get 9 rfl (d 11 rfl)) cN))
 exact dR z z<|nl ⟨z, (.inr (.inr (.inl ⟨b, c, J, U, V, _, y, ar, au, av, (ag.step l f z z z z), q⟩)))⟩
 obtain ⟨m, rfl⟩ := Has.ex (cC (l.get 4 rfl (d 6 rfl)) (cC (l.get 9 rfl (d 11 rfl)) cN))
 exact dR z z<|nl ⟨z, (.inr (.inr (.inr (.inl ⟨b, c, J, U, V, _, y, ar, au, av, (ag.step l f z z z z), q⟩))))⟩
 cases (n 20 rfl).symm.trans b
 rintro D r aV (⟨c, ad, y, l, q⟩ | ⟨b, c, J, ad, y, l, q⟩ | ⟨b, c, J, U, V, ad, y, ar, au, av, l, q⟩ | ⟨b, c, J, U, V, ad, y, ar, au, av, l, q⟩ | ⟨b, J, U, V, ad, y, ar, au, av, l, q⟩) f d n
 obtain ⟨m, rfl⟩ := Has.ex (cC (l.ins.get 1 rfl) cN)
 exact ld q 3 ir z z z<|nl ⟨z, (.inl ⟨c, _, y, (ag.step l f z z z z), q⟩)⟩
 obtain ⟨m, rfl⟩ := Has.ex (cC (l.ins.get 1 rfl) cN)
 exact ld q 4 ir z z z<|nl ⟨z, (.inr (.inl ⟨b, c, J, _, y, (ag.step l f z z z z), q⟩))⟩
 obtain ⟨m, rfl⟩ := Has.ex (cC (l.ins.get 1 rfl) cN)
 exact ld q 4 ir z z z<|nl ⟨z, (.inr (.inr (.inl ⟨b, c, J, U, V, _, y, ar, au, av, (ag.step l f z z z z), q⟩)))⟩
 obtain ⟨m, rfl⟩ := Has.ex (cC (l.ins.get 1 rfl) cN)
 exact ld q 4 ir z z z<|nl ⟨z, (.inr (.inr (.inr (.inl ⟨b, c, J, U, V, _, y, ar, au, av, (ag.step l f z z z z), q⟩))))⟩
 obtain ⟨m, rfl⟩ := Has.ex (cC (l.ins.get 1 rfl) cN)
 exact ld q 4 ir z z z<|nl ⟨z, (.inr (.inr (.inr (.inr ⟨b, J, U, V, _, y, ar, au, av, (ag.step l f z z z z), q⟩))))⟩
 rintro D r aV (⟨c, ad, y, l, q⟩ | ⟨b, c, J, ad, y, l, q⟩ | ⟨b, c, J, U, V, ad, y, ar, au, av, l, q⟩ | ⟨b, c, J, U, V, ad, y, ar, au, av, l, q⟩ | ⟨b, J, U, V, ad, y, ar, au, av, l, q⟩) f d n
 obtain ⟨m, rfl⟩ := Has.ex (cC (l.ins.get 3 rfl) cN)
 exact mv z<|nl ⟨z, (.inl ⟨c, _, y, (ag.step l f z z z z), q⟩)⟩
 obtain ⟨m, rfl⟩ := Has.ex (cC (l.ins.get 3 rfl) cN)
 exact mv z<|nl ⟨z, (.inr (.inl ⟨b, c, J, _, y, (ag.step l f z z z z), q⟩))⟩
 obtain ⟨m, rfl⟩ := Has.ex (cC (l.ins.get 3 rfl) cN)
 exact mv z<|nl ⟨z, (.inr (.inr (.inl ⟨b, c, J, U, V, _, y, ar, au, av, (ag.step l f z z z z), q⟩)))⟩
 obtain ⟨m, rfl⟩ := Has.ex (cC (l.ins.get 3 rfl) cN)
 exact mv z<|nl ⟨z, (.inr (.inr (.inr (.inl ⟨b, c, J, U, V, _, y, ar, au, av, (ag.step l f z z z z), q⟩))))⟩
 obtain ⟨m, rfl⟩ := Has.ex (cC (l.ins.get 3 rfl) cN)
 exact mv z<|nl ⟨z, (.inr (.inr (.inr (.inr ⟨b, J, U, V, _, y, ar, au, av, (ag.step l f z z z z), q⟩))))⟩
 rintro D r aV (⟨c, ad, y, l, q⟩ | ⟨b, c, J, ad, y, l, q⟩ | ⟨b, c, J, U, V, ad, y, ar, au, av, l, q⟩ | ⟨b, c, J, U, V, ad, y, ar, au, av, l, q⟩ | ⟨b, J, U, V, ad, y, ar, au, av, l, q⟩) f d n
 obtain ⟨m, rfl⟩ := Has.ex (cC (l.get 11 rfl (d 13 rfl)) (cC (l.get 12 rfl (d 14 rfl)) cN))
 exact bL fV z cc z bA bC<|nl ⟨z, (.inl ⟨c, _, y, (ag.step l f z z z z), q⟩)⟩
 obtain ⟨m, rfl⟩ := Has.ex (cC (l.get 11 rfl (d 13 rfl)) (cC (l.get 12 rfl (d 14 rfl)) cN))
 exact bL fV z cc z bA bC<|nl ⟨z, (.inr (.inl ⟨b, c, J, _, y, (ag.step l f z z z z), q⟩))⟩
 obtain ⟨m, rfl⟩ := Has.ex (cC (l.get 11 rfl (d 13 rfl)) (cC (l.get 12 rfl (d 14 rfl)) cN))
 exact bL fV z cc z bA bC<|nl ⟨z, (.inr (.inr (.inl ⟨b, c, J, U, V, _, y, ar, au, av, (ag.step l f z z z z), q⟩)))⟩
 obtain ⟨m, rfl⟩ := Has.ex (cC (l.get 11 rfl (d 13 rfl)) (cC (l.get 12 rfl (d 14 rfl)) cN))
 exact bL fV z cc z bA bC<|nl ⟨z, (.inr (.inr (.inr (.inl ⟨b, c, J, U, V, _, y, ar, au, av, (ag.step l f z z z z), q⟩))))⟩
 obtain ⟨m, rfl⟩ := Has.ex (cC (l.get 11 rfl (d 13 rfl)) (cC (l.get 12 rfl (d 14 rfl)) cN))
 exact bL fV z cc z bA bC<|nl ⟨z, (.inr (.inr (.inr (.inr ⟨b, J, U, V, _, y, ar, au, av, (ag.step l f z z z z), q⟩))))⟩
 rintro D r aV (⟨c, ad, y, l, q⟩ | ⟨b, c, J, ad, y, l, q⟩ | ⟨b, c, J, U, V, ad, y, ar, au, av, l, q⟩ | ⟨b, c, J, U, V, ad, y, ar, au, av, l, q⟩ | ⟨b, J, U, V, ad, y, ar, au, av, l, q⟩) f d n
 obtain ⟨m, rfl⟩ := Has.ex (cC (l.get 13 rfl (d 15 rfl)) cN)
 exact et q jK z (y.cel _ _ (cd 0 _ z))<|nl ⟨z, (.inl ⟨c, _, y, (ag.step l f z z z z), q⟩)⟩
 obtain ⟨m, rfl⟩ := Has.ex (cC (l.get 13 rfl (d 15 rfl)) cN)
 exact et q jK z (y.cel _ _ (cd 0 _ z))<|nl ⟨z, (.inr (.inl ⟨b, c, J, _, y, (ag.step l f z z z z), q⟩))⟩
 obtain ⟨m, rfl⟩ := Has.ex (cC (l.get 13 rfl (d 15 rfl)) cN)
 exact et q jK z (y.cel _ _ (cd 0 _ z))<|nl ⟨z, (.inr (.inr (.inl ⟨b, c, J, U, V, _, y, ar, au, av, (ag.step l f z z z z), q⟩)))⟩
 obtain ⟨m, rfl⟩ := Has.ex (cC (l.get 13 rfl (d 15 rfl)) cN)
 exact et q jK z (y.cel _ _ (cd 0 _ z))<|nl ⟨z, (.inr (.inr (.inr (.inl ⟨b, c, J, U, V, _, y, ar, au, av, (ag.step l f z z z z), q⟩))))⟩
 obtain ⟨m, rfl⟩ := Has.ex (cC (l.get 13 rfl (d 15 rfl)) cN)
 exact et q jK z (y.cel _ _ (cd 0 _ z))<|nl ⟨z, (.inr (.inr (.inr (.inr ⟨b, J, U, V, _, y, ar, au, av, (ag.step l f z z z z), q⟩))))⟩
 rintro D r aV (⟨c, ad, y, l, q⟩ | ⟨b, c, J, ad, y, l, q⟩ | ⟨b, c, J, U, V, ad, y, ar, au, av, l, q⟩ | ⟨b, c, J, U, V, ad, y, ar, au, av, l, q⟩ | ⟨b, J, U, V, ad, y, ar, au, av, l, q⟩) f d n
 cases (d 3 rfl).symm.trans c
 cases (d 4 rfl).symm.trans c
 obtain ⟨m, rfl⟩ := Has.ex (cC (l.ins.get 2 rfl) cN)
 exact fa dw z<|nl ⟨z, (.inr (.inr (.inl ⟨b, c, J, U, V, _, y, ar, au, av, (ag.step l f z z z z), q⟩)))⟩
 cases (n 18 rfl).symm.trans b
 cases (n 20 rfl).symm.trans b
 rintro D r aV (⟨c, ad, y, l, q⟩ | ⟨b, c, J, ad, y, l, q⟩ | ⟨b, c, J, U, V, ad, y, ar, au, av, l, q⟩ | ⟨b, c, J, U, V, ad, y, ar, au, av, l, q⟩ | ⟨b, J, U, V, ad, y, ar, au, av, l, q⟩) f d n
 cases (d 3 rfl).symm.trans c
 cases (d 4 rfl).symm.trans c
 obtain ⟨m, rfl⟩ := Has.ex (cC (l.get 16 rfl (d 4 rfl)) (cC (l.get 17 rfl (d 17 rfl)) cN))
 exact f5 q 2 cB z z z z z z z fun f4 el=>nl ⟨z, (.inr (.inr (.inr (.inl ⟨z, (n 20 z), J, U, V, _, y, ar, au, av, (ag.stepN (ag.more (new := [(19, 68, pointer (some ⟨K, 2, none⟩))]) l (List.forall_mem_cons.2 ⟨n 19 z, (fun _ h => nomatch h)⟩)) z z), el⟩))))⟩
 cases f.symm.trans b
 cases (n 20 rfl).symm.trans b
 rintro D r aV (⟨c, ad, y, l, q⟩ | ⟨b, c, J, ad, y, l, q⟩ | ⟨b, c, J, U, V, ad, y, ar, au, av, l, q⟩ | ⟨b, c, J, U, V, ad, y, ar, au, av, l, q⟩ | ⟨b, J, U, V, ad, y, ar, au, av, l, q⟩) f d n
 cases (d 3 rfl).symm.trans c
 cases (d 4 rfl).symm.trans c
 cases (d 18 rfl).symm.trans c
 obtain ⟨m, rfl⟩ := Has.ex (cC (l.ins.get 2 rfl) cN)
 exact fa dO z<|nl ⟨z, (.inr (.inr (.inr (.inl ⟨b, c, J, U, V, _, y, ar, au, av, (ag.step l f z z z z), q⟩))))⟩
 cases (n 20 rfl).symm.trans b
 rintro D r aV (⟨c, ad, y, l, q⟩ | ⟨b, c, J, ad, y, l, q⟩ | ⟨b, c, J, U, V, ad, y, ar, au, av, l, q⟩ | ⟨b, c, J, U, V, ad, y, ar, au, av, l, q⟩ | ⟨b, J, U, V, ad, y, ar, au, av, l, q⟩) f d n
 cases (d 3 rfl).symm.trans c
 cases (d 4 rfl).symm.trans c
 cases (d 18 rfl).symm.trans c
 obtain ⟨m, rfl⟩ := Has.ex (cC (l.get 10 rfl (d 12 rfl)) (cC (l.get 18 rfl (d 19 rfl)) cN))
 exact f5 q 2 bb z z z z z z z fun f7 em=>nl ⟨z, (.inr (.inr (.inr (.inr ⟨z, J, U, V, _, y, ar, au, av, (ag.stepN (ag.more (new := [(21, 5, bool (ay.getD (Int.toNat a) false))]) l (List.forall_mem_cons.2 ⟨n 21 z, (fun _ h => nomatch h)⟩)) z z), em⟩))))⟩
 cases f.symm.trans b
 rintro D r aV (⟨c, ad, y, l, q⟩ | ⟨b, c, J, ad, y, l, q⟩ | ⟨b, c, J, U, V, ad, y, ar, au, av, l, q⟩ | ⟨b, c, J, U, V, ad, y, ar, au, av, l, q⟩ | ⟨b, J, U, V, ad, y, ar, au, av, l, q⟩) f d n
 cases (d 3 rfl).symm.trans c
 cases (d 4 rfl).symm.trans c
 cases (d 18 rfl).symm.trans c
 cases (d 20 rfl).symm.trans c
 obtain ⟨m, rfl⟩ := Has.ex (cC (l.get 14 rfl (d 16 rfl)) cN)
 exact aK z<|nl ⟨z, (.inr (.inr (.inr (.inr ⟨b, J, U, V, _, y, ar, au, av, (ag.step l f z z z z), q⟩))))⟩
 intro D r aV aR hR
 rcases hR with ⟨c, ad, y, l, q⟩ | ⟨b, c, J, ad, y, l, q⟩ | ⟨b, c, J, U, V, ad, y, ar, au, av, l, q⟩ | ⟨b, c, J, U, V, ad, y, ar, au, av, l, q⟩ | ⟨b, J, U, V, ad, y, ar, au, av, l, q⟩
 cases (aR 3 (Nat.le_of_ble_eq_true rfl)).symm.trans c
 cases (aR 4 (Nat.le_of_ble_eq_true rfl)).symm.trans c
 cases (aR 18 (Nat.le_of_ble_eq_true rfl)).symm.trans c
 cases (aR 20 (Nat.le_of_ble_eq_true rfl)).symm.trans c
 obtain ⟨m, rfl⟩ := Has.ex (cC (l.ins.get 0 rfl) (cC (l.ins.get 1 rfl) (cC (l.ins.get 2 rfl) (cC (l.get 19 rfl (aR 21 (Nat.le_of_ble_eq_true rfl))) (cC (l.ins.get 5 rfl) (cC (l.ins.get 6 rfl) (cC (l.ins.get 7 rfl) cN)))))))
 refine have en:=Hp.pick 7 [2, 3, 4, 5, 6] q z;?_
 cases H
 exact ⟨z, aY, U, V, aI, aJ, _, z, y, ⟨z, z, z, z, z, z, z, tv⟩, en, ar, au, av, bi, (Dat.mono y bj), bO, (hy.mono y bP), tv⟩
 rcases cG with cH | ⟨cI, bS, bT, cJ, cK⟩
 rintro e r ds f8 ⟨rfl, cl, cn, rfl, cx, aZ, eo, ep, _⟩
 rw [aZ.eq]; clear aZ
 cases H
 exact ⟨z, cl, aL, aN, aI, aJ, _, z, (gT a7 cx), trivial, eo, bg, (Dat.mono cx bh), bM, bi, (Dat.mono cx bj), bO, ep, tv⟩
 rintro e r ds f9 ⟨rfl, co, bk, bl, bo, bp, bq, rfl, er, aZ, es, eu, ev, ew, ey, ez, eA, eB, _⟩
 rw [aZ.eq]; clear aZ
 exact de _ _ _<|aA<|bm z z<|mv z<|nl<|ih _ _ _ _ _ _ _ H co bk bl bo bp _ _ _ (gT a7 er) ⟨z, z, z, z, z, z, z, tv⟩ es eu ev ew ey ez eA eB z
 refine nK bR H fun H=>wf (bN bR)<|wx<|?_
 cases H
 exact ⟨z, aY, aL, aN, aI, aJ, _, z, a7, ⟨z, z, tv⟩, ct, bg, bh, bM, bi, bj, bO, bP, tv⟩
 rcases cq with ⟨bD, bE, cz, cD⟩ | ⟨a5, a6, cj, cE⟩
 rintro e r ds ga ⟨rfl, ci, bF, bG, bI, bJ, be, rfl, eC, aZ, eD, gb, gc, gd, ge, gf, gh, eE, _⟩
 rw [aZ.eq]; clear aZ
 refine have eF:=Hp.pick 5 [1, 2] eD z;?_
 cases H
 exact ⟨.inr z, z, _, z, ci, _, eC, eF, eE, z⟩
 rintro e r ds gi ⟨rfl, ck, a9, ba, bc, bd, bf, rfl, c0, aZ, ce, eG, eH, gj, eI, eJ, gk, c1, _⟩
 rw [aZ.eq]; clear aZ
 refine c7 _ _ _<|sr fun gl eK=>fa dw z<|ld ce 0 cB z z z<|q_len dA z<|fa jV z<|ld ce 0 cB z z z<|q_len dA z<|bm z z<|gq z z<|nl<|eK _ _ _<|dC (0 < (aj ((a5.length : Int) + (a6.length : Int)))) (fun cg=>?_) fun cg=>?_
 refine yK cg H fun H=>wt (bY cg)<|aA<|mv z<|gg ce 0 iD z z z z<|ms H fun gm gn hx480 H=>qH hy [bx K [slice a9 a5.length ba, slice bc a6.length bd, int .i64 cj] 64, bx g2 [slice A4 a3.length c5] 24, bx g9 [slice aE ay.length aG] 25, tk (slice a9 a5.length ba) 8 36, tk (slice bc a6.length bd) 8 36] ce c1 z z ⟨_, z, (f6 (x := (⟨a5, a6, cj⟩ : ak)) eG eH eI eJ)⟩ hx480 fun go gp eL eM eN eO=>nl<|have eP:=Hp.pick 5 [1, 2] eO z;?_
 cases H
 exact ⟨.inl z, z, _, z, eL, _, (gT c0 eM), eP, eN, z⟩
 refine nK cg H fun H=>wf (bN cg)<|ws<|have eQ:=Hp.pick 5 [1, 2] ce z;?_
 cases H
 exact ⟨.inl z, z, _, z, ck, _, c0, eQ, c1, z⟩
theorem fp {a3 : ai} {j c d f g a h b s G L w} (H : b7 a3 = some s) (hI : Hp G (bx j [int .i64 a3.sheet.Paper.Width, int .i64 a3.sheet.Paper.Height, int .i64 a3.sheet.Paper.Columns, int .i64 a3.sheet.Paper.Gap, int .i64 a3.sheet.Paper.Scale, int .i64 a3.sheet.Paper.Lang, slice c a3.placed.length d, slice f a3.notes.length g, slice a h b] 67 :: tk (slice c a3.placed.length d) 8 36 :: tk (slice f a3.notes.length g) 8 36 :: bO G (Kd.int .i64) a [] a3.fills [] b 3 :: L) w) (T : a3.placed.length ≤ d) (U : Dat ah G c a3.placed) (V : Own c d) (W : a3.notes.length ≤ g) (X : Dat ah G f a3.notes) (Y : Own f g) (m : a3.fills.length = h) (t : Mw a a ([] : List Int).length h b b 1) :
    Calls Try.prog 42 [pointer (some ⟨j, 0, none⟩)].toArray w fun e w' => ∃ (G' : Gh), G ≤ G' ∧ Hp G' (bx j [int .i64 a3.sheet.Paper.Width, int .i64 a3.sheet.Paper.Height, int .i64 a3.sheet.Paper.Columns, int .i64 a3.sheet.Paper.Gap, int .i64 a3.sheet.Paper.Scale, int .i64 a3.sheet.Paper.Lang, slice c a3.placed.length d, slice f a3.notes.length g, slice a h b] 67 :: tk (slice c a3.placed.length d) 8 36 :: tk (slice f a3.notes.length g) 8 36 :: bO G' (Kd.int .i64) a [] a3.fills [] b 3 :: L) w' ∧ e = .returned (int .i64 s) := by
 refine aw (N := 20) Try.func42 z z (Nat.le_of_ble_eq_true z)<|?_
 unfold b7 at H
 refine sr fun Z B=>aK z<|nl<|B _ _ _<|sr fun aa C=>aK z<|nl<|C _ _ _<|sQ fun ab D=>sr fun ac E=>mv z<|e5 z<|fa gF z<|ld hI 0 k4 z z z<|?_
 refine gC l6 z m<|mv z<|nl<|E _ _ _<|wb<|bK H fun u hC H=>?_
 refine aP (Q := fun e r ds w => e = .exit 0 ∧ ds = [] ∧ Has [(3, int .i64 u)] r ∧ Hp G (bx j [int .i64 a3.sheet.Paper.Width, int .i64 a3.sheet.Paper.Height, int .i64 a3.sheet.Paper.Columns, int .i64 a3.sheet.Paper.Gap, int .i64 a3.sheet.Paper.Scale, int .i64 a3.sheet.Paper.Lang, slice c a3.placed.length d, slice f a3.notes.length g, slice a h b] 67 :: tk (slice c a3.placed.length d) 8 36 :: tk (slice f a3.notes.length g) 8 36 :: bO G (Kd.int .i64) a [] a3.fills [] b 3 :: L) w ∧ True) ?_ ?_
 refine bH fun I A=>?_
 refine aZ.partial_correctness a3 (fun x l o => ∀ (r : Rg) (w : World), Has [(3, int .i64 x), (9, slice a h b), (10, int .i64 (a3.fills.length : Int)), (11, int .i64 l)] r → Hp G (bx j [int .i64 a3.sheet.Paper.Width, int .i64 a3.sheet.Paper.Height, int .i64 a3.sheet.Paper.Columns, int .i64 a3.sheet.Paper.Gap, int .i64 a3.sheet.Paper.Scale, int .i64 a3.sheet.Paper.Lang, slice c a3.placed.length d, slice f a3.notes.length g, slice a h b] 67 :: tk (slice c a3.placed.length d) 8 36 :: tk (slice f a3.notes.length g) 8 36 :: bO G (Kd.int .i64) a [] a3.fills [] b 3 :: L) w → o = u → I r [] w) ?_ 0 0 _ hC _ _ ⟨rfl, rfl, rfl, rfl, tv⟩ hI rfl
 intro _ ih x l o H r ae i n ho
 rw [ho] at H; clear ho
 rw [i.eq]; clear i
 refine A _ _ _<|sr fun af F=>cZ z z<|nl<|F _ _ _<|sQ fun ag J=>dC (l < (a3.fills.length : Int)) (fun k=>?_) fun k=>?_
 refine yK k H fun H=>wt (bY k)<|ws<|J _ _ _<|sQ fun aj K=>wb<|sr fun ak M=>iK H fun⟨p, O⟩H=>have q:=iy m O;?_
 obtain ⟨al, y⟩ := Mw.ad t p q
 refine bL j5 z y z p q<|?_
 obtain ⟨_, rfl, _, P⟩ := Hp.rwGet n 3 rfl t m y (0 : Int) p q
 refine eg (v := int .i64 (a3.fills.getD (Int.toNat l) (0 : Int))) bb z (cell0 (P 0 _ z))<|aK z<|nl<|M _ _ _<|aA<|mv z<|mv z<|dR z z<|aK z<|nl<|K _ _ _<|aA<|bm z z<|mv z<|?_
 exact nl<|ih _ _ _ H _ _ ⟨z, z, z, z, tv⟩ n z
 refine nK k H fun H=>wf (bN k)<|wx<|?_
 cases H
 exact ⟨z, z, ⟨z, tv⟩, n, tv⟩
 rintro e r ds am ⟨rfl, rfl, i, R, _⟩
 rw [i.eq]; clear i
 refine D _ _ _<|sr fun an S=>mv z<|aK z<|nl<|S _ _ _<|wr<|?_
 cases H
 exact ⟨.inr z, z, _, ⟨_, _, z, z, z⟩, _, gR, R, z⟩
end Go.Proofs.Ytlcfemplcaejgaa.LG
